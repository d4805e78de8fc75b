/- CONTRACT: token.Spell of every token, made by hand, too. -/
import Derived.Test.YtmfejjlmflgnbaaGreatDoorZQuo
import Derived.Test.YtmfejjlmflgnbaaGreatDoorZFmt
import Derived.Test.YtmfejjlmflgnbaaGreatDoorZTok3
import Derived.Test.YtmfejjlmflgnbaaGreatDoorZPure1
import Derived.Deep.RegionLaw
import Derived.Deep.RegionHeld3
namespace Go.Proofs.YtmfejjlmflgnbaaGreatDoor.Tok
open Go.RowKit Go.Proofs.YtmfejjlmflgnbaaGreatDoor.PA Go.Proofs.YtmfejjlmflgnbaaGreatDoorW.PrintWords Go.Proofs.YtmfejjlmflgnbaaGreatDoorW.PrintLast Go.Proofs.YtmfejjlmflgnbaaGreatDoor.Sp
set_option linter.unusedVariables false
set_option linter.unusedSimpArgs false
set_option maxRecDepth 100000

def SpellPost (k : Int) (t : ByteArray) (v : Nat) (h : Bool) (w : World) (e : Ending) (w' : World) : Prop :=
  Below w.heap.size w w' ∧ e = .returned (match spellT k t.data.toList v h with
    | some s => .tuple #[.string ⟨s.toArray⟩, .int .i64 0]
    | none => .tuple #[.string ⟨#[]⟩, .int .i64 20])
theorem name_calls (t : ByteArray) (w : World) : Calls Tryz.prog 126 #[.string t] w fun e w' => e = .returned (.bool (nameB t.data.toList)) ∧ Below w.heap.size w w' :=
  (token_name.calls _ t _ w (name_spec t)).mono fun e w' ⟨he, ⟨n, hn⟩⟩ => ⟨he, by rw [hn]; exact ⟨rfl, rfl, rfl, Nat.le_refl _, fun _ _ => rfl⟩⟩

theorem cell_new {w w' : World} {C : Array Value} {T : TypeId} {k : Nat} {v : Value} (hB : Below (w.alloc (.cells C T)).heap.size (w.alloc (.cells C T)) w') (h : C[k]? = some v) : w'.cell? ⟨w.heap.size, k, none⟩ = some v := by
  rw [hB.cell (by simp), World.cell?_alloc_new]
  exact h
theorem list_ne (t : ByteArray) (h : t.data.toList ≠ []) : t.toList.isEmpty = false := by
  rw [ByteArray.toList_eq]
  cases hl : t.data.toList with
  | nil => exact absurd hl h
  | cons _ _ => rfl
theorem wrap_u64 (v : Nat) (h : v < 4294967296) : IntKind.u64.wrap (v : Int) = v := by
  show (v : Int) % 18446744073709551616 = v
  omega
theorem decF_eq : ∀ (f v : Nat) (acc : Bs), v < 10 ^ f → 0 < f → decF f v acc = Lib.decDigits v ++ acc
  | 0, _, _, _, h => absurd h (by omega)
  | f + 1, v, acc, h, _ => by
    unfold decF
    by_cases h1 : v < 10
    · rw [if_pos h1, Lib.decDigits_one h1]; rfl
    · rw [if_neg h1]
      have hf : 0 < f := by
        rcases Nat.eq_zero_or_pos f with e | e
        · subst e; simp at h; omega
        · exact e
      rw [decF_eq f (v / 10) _ (by rw [Nat.pow_succ] at h; omega) hf]
      conv => rhs; rw [Lib.decDigits, dif_neg h1]
      simp
theorem decT_eq (v : Nat) (h : v < 4294967296) : Lib.decDigits v = decT v := by
  unfold decT
  rw [decF_eq 40 v [] (Nat.lt_of_lt_of_le h (by decide)) (by omega)]
  simp
theorem hexF_len (v : Nat) : (hexF 40 v []).length ≤ 40 := by
  have h1 : hexF 40 v [] = Lib.toUpperA (lowF 40 v []) := by rw [upper_lowF]; rfl
  have h2 := (lowF_facts 40 v [] (by simp)).2
  rw [h1]
  unfold Lib.toUpperA
  simpa using h2
theorem hex_cat (l : Bs) : (⟨#[48, 120]⟩ : ByteArray) ++ ⟨l.toArray⟩ = ⟨(48 :: 120 :: l).toArray⟩ := by
  apply ByteArray.ext
  simp
theorem old_new (w : World) (T : TypeId) : OldNew w.heap.size (w.alloc (.cells #[.string ⟨#[92]⟩, .string ⟨#[92, 92]⟩, .string ⟨#[34]⟩, .string ⟨#[92, 34]⟩] T)).drew :=
  OldNew.of_block (w := w.alloc _) ⟨by rw [World.cell?_alloc_new]; rfl, by rw [World.cell?_alloc_new]; rfl, by rw [World.cell?_alloc_new]; rfl, by rw [World.cell?_alloc_new]; rfl⟩ rfl
theorem keep_cell {w w' : World} {ob : Obj} {a : Addr} {v : Value} (hB : Below (w.alloc ob).drew.heap.size (w.alloc ob).drew w') (h : w.cell? a = some v) : w'.cell? a = some v := by
  have hl := World.block_lt_of_cell? w a h
  rw [hB.cell (by simp; omega), World.cell?_drew, World.cell?_alloc_lt _ _ _ hl]
  exact h
theorem keep_alloc {w : World} {ob : Obj} {a : Addr} {v : Value} (h : w.cell? a = some v) : (w.alloc ob).cell? a = some v := by
  have hl := World.block_lt_of_cell? w a h
  rw [World.cell?_alloc_lt _ _ _ hl]
  exact h
theorem quote_cat (l : Bs) : (⟨#[34]⟩ : ByteArray) ++ ⟨(escT l).toArray⟩ ++ ⟨#[34]⟩ = ⟨(quoteT l).toArray⟩ := by
  apply ByteArray.ext
  simp [quoteT]
theorem v_ne (v : Nat) (h : v ≠ 0) : ((v : Int) != 0) = true := by simp; omega
def spellW (k o l c : Int) (t : ByteArray) (v : Int) (h : Bool) (w : World) : World := w.alloc (.cells (tokCells k o l c t v h) 104)
theorem spell_none {k : Int} {t : ByteArray} {v : Nat} {h : Bool} {w w' : World} (hB : Below w.heap.size w w') (hs : spellT k t.data.toList v h = none) : SpellPost k t v h w (.returned (.tuple #[.string ⟨#[]⟩, .int .i64 20])) w' := ⟨hB, by rw [hs]⟩
theorem spell_some {k : Int} {t s : ByteArray} {v : Nat} {h : Bool} {w w' : World} {l : Bs} (hB : Below w.heap.size w w') (hs : spellT k t.data.toList v h = some l) (he : s = ⟨l.toArray⟩) : SpellPost k t v h w (.returned (.tuple #[.string s, .int .i64 0])) w' := ⟨hB, by rw [hs, he]⟩
theorem alloc_below (w : World) (ob : Obj) : Below w.heap.size w (w.alloc ob) := (Below.refl _ w).alloc (Nat.le_refl _) _

set_option maxHeartbeats 4000000 in
theorem spell1_v (o l c : Int) (t : ByteArray) (v : Nat) (h : Bool) (w : World) (hv : v ≠ 0) : Calls Tryz.prog 97 #[tokV 1 o l c t v h] w (SpellPost 1 t v h w) := by
  have d := v_ne v hv
  have hs : spellT 1 t.data.toList v h = none := by simp [spellT, hv]
  have HS := Lib.hid hs
  clear hs hv
  unfold tokV tokCells
  go_enter Tryz.func97, Tryz.ntmps97
  go_wp2_with fail
  all_goals (refine bodyPost_ret (results_list (rs := [.tmp 2, .tmp 3]) rfl (by simp) (.tmp (.tmp .nil))) rfl ?_)
  all_goals exact spell_none (alloc_below _ _) HS.out
set_option maxHeartbeats 4000000 in
theorem spell1_h (o l c : Int) (t : ByteArray) (w : World) : Calls Tryz.prog 97 #[tokV 1 o l c t 0 true] w (SpellPost 1 t 0 true w) := by
  have HS := Lib.hid (show spellT 1 t.data.toList 0 true = none by simp [spellT])
  unfold tokV tokCells
  go_enter Tryz.func97, Tryz.ntmps97
  go_wp2_with fail
  all_goals (refine bodyPost_ret (results_list (rs := [.tmp 2, .tmp 3]) rfl (by simp) (.tmp (.tmp .nil))) rfl ?_)
  all_goals exact spell_none (alloc_below _ _) HS.out
set_option maxHeartbeats 4000000 in
theorem spell1_n (o l c : Int) (t : ByteArray) (w : World) : Calls Tryz.prog 97 #[tokV 1 o l c t 0 false] w (SpellPost 1 t 0 false w) := by
  unfold tokV tokCells
  cases hn : nameB t.data.toList with
  | true =>
    have HS := Lib.hid (show spellT 1 t.data.toList 0 false = some t.data.toList by simp [spellT, hn])
    have hc := fun wx => name_calls t wx
    rw [hn] at hc
    clear hn
    go_enter Tryz.func97, Tryz.ntmps97
    go_wp2_with (first | (go_at_call 126; refine (hc _).mono ?_; rintro e w' ⟨rfl, hB⟩; have hx : w'.cell? ⟨w.heap.size, 4, none⟩ = some (.string t) := cell_new hB rfl; have HB := Lib.hid hB; clear hB))
    all_goals (refine bodyPost_ret (results_list (rs := [.tmp 2, .tmp 3]) rfl (by simp) (.tmp (.tmp .nil))) rfl ?_)
    all_goals exact spell_some ((alloc_below _ _).trans (HB.out.mono (by simp))) HS.out rfl
  | false =>
    have HS := Lib.hid (show spellT 1 t.data.toList 0 false = none by simp [spellT, hn])
    have hc := fun wx => name_calls t wx
    rw [hn] at hc
    clear hn
    go_enter Tryz.func97, Tryz.ntmps97
    go_wp2_with (first | (go_at_call 126; refine (hc _).mono ?_; rintro e w' ⟨rfl, hB⟩; have HB := Lib.hid hB; clear hB))
    all_goals (refine bodyPost_ret (results_list (rs := [.tmp 2, .tmp 3]) rfl (by simp) (.tmp (.tmp .nil))) rfl ?_)
    all_goals exact spell_none ((alloc_below _ _).trans (HB.out.mono (by simp))) HS.out
set_option maxHeartbeats 4000000 in
theorem spell3_v (o l c : Int) (t : ByteArray) (v : Nat) (h : Bool) (w : World) (hv : v ≠ 0) : Calls Tryz.prog 97 #[tokV 3 o l c t v h] w (SpellPost 3 t v h w) := by
  have d := v_ne v hv
  have hs : spellT 3 t.data.toList v h = none := by simp [spellT, hv]
  have HS := Lib.hid hs
  clear hs hv
  unfold tokV tokCells
  go_enter Tryz.func97, Tryz.ntmps97
  go_wp2_with fail
  all_goals (refine bodyPost_ret (results_list (rs := [.tmp 2, .tmp 3]) rfl (by simp) (.tmp (.tmp .nil))) rfl ?_)
  all_goals exact spell_none (alloc_below _ _) HS.out
set_option maxHeartbeats 4000000 in
theorem spell3_h (o l c : Int) (t : ByteArray) (w : World) : Calls Tryz.prog 97 #[tokV 3 o l c t 0 true] w (SpellPost 3 t 0 true w) := by
  have HS := Lib.hid (show spellT 3 t.data.toList 0 true = none by simp [spellT])
  unfold tokV tokCells
  go_enter Tryz.func97, Tryz.ntmps97
  go_wp2_with fail
  all_goals (refine bodyPost_ret (results_list (rs := [.tmp 2, .tmp 3]) rfl (by simp) (.tmp (.tmp .nil))) rfl ?_)
  all_goals exact spell_none (alloc_below _ _) HS.out

set_option maxHeartbeats 4000000 in
theorem spell2_t (o l c : Int) (t : ByteArray) (v : Nat) (h : Bool) (w : World) (ht : t.data.toList ≠ []) : Calls Tryz.prog 97 #[tokV 2 o l c t v h] w (SpellPost 2 t v h w) := by
  have HS := Lib.hid (show spellT 2 t.data.toList v h = none by simp [spellT, ht])
  have ht' := list_ne t ht
  clear ht
  unfold tokV tokCells
  go_enter Tryz.func97, Tryz.ntmps97
  go_wp2_with fail
  all_goals (refine bodyPost_ret (results_list (rs := [.tmp 2, .tmp 3]) rfl (by simp) (.tmp (.tmp .nil))) rfl ?_)
  all_goals exact spell_none (alloc_below _ _) HS.out
set_option maxHeartbeats 4000000 in
theorem spell2_x (o l c : Int) (v : Nat) (w : World) (hv : v < 4294967296) (hG : Glob w) : Calls Tryz.prog 97 #[tokV 2 o l c ⟨#[]⟩ v true] w (SpellPost 2 ⟨#[]⟩ v true w) := by
  have HS := Lib.hid (show spellT 2 (⟨#[]⟩ : ByteArray).data.toList v true = some (hexL v) by simp [spellT])
  have HG := Lib.hid (hG.below (alloc_below w (.cells (tokCells 2 o l c ⟨#[]⟩ v true) 104)))
  clear hG
  have hwr := wrap_u64 v hv
  have hxl := hexF_len v
  have hxl2 : ¬ 9223372036854775807 < 2 + (hexF 40 v []).length := by omega
  unfold tokV tokCells
  go_enter Tryz.func97, Tryz.ntmps97
  go_wp2_with (first
    | (go_at_call 128; refine (fmt16_calls v _ hv HG.out).mono ?_; rintro e w' ⟨rfl, hB⟩; have HB := Lib.hid hB; clear hB)
    | (go_at_call 127; refine (upper16_calls v _).mono ?_; rintro e w2 ⟨rfl, hB2⟩; have HB2 := Lib.hid hB2; clear hB2))
  all_goals (refine bodyPost_ret (results_list (rs := [.tmp 2, .tmp 3]) rfl (by simp) (.tmp (.tmp .nil))) rfl ?_)
  exact spell_some ((alloc_below _ _).trans ((HB.out.mono (by simp)).trans (HB2.out.mono (by have := HB.out.size; simp at this; omega)))) HS.out (hex_cat _)
set_option maxHeartbeats 4000000 in
theorem spell2_d (o l c : Int) (v : Nat) (w : World) (hv : v < 4294967296) (hG : Glob w) : Calls Tryz.prog 97 #[tokV 2 o l c ⟨#[]⟩ v false] w (SpellPost 2 ⟨#[]⟩ v false w) := by
  have HS := Lib.hid (show spellT 2 (⟨#[]⟩ : ByteArray).data.toList v false = some (decT v) by simp [spellT])
  have HG := Lib.hid (hG.below (alloc_below w (.cells (tokCells 2 o l c ⟨#[]⟩ v false) 104)))
  clear hG
  have hwr := wrap_u64 v hv
  unfold tokV tokCells
  go_enter Tryz.func97, Tryz.ntmps97
  go_wp2_with (first
    | (go_at_call 128; refine (fmt10_calls v _ hv HG.out).mono ?_; rintro e w' ⟨rfl, hB⟩; have HB := Lib.hid hB; clear hB))
  all_goals (refine bodyPost_ret (results_list (rs := [.tmp 2, .tmp 3]) rfl (by simp) (.tmp (.tmp .nil))) rfl ?_)
  exact spell_some ((alloc_below _ _).trans (HB.out.mono (by simp))) HS.out (by rw [← decT_eq v hv])

theorem plainS_eq (t : ByteArray) : plainS t = t.data.toList.all plainB := by
  unfold plainS
  congr 1
  funext c
  unfold plainC plainB
  simp
theorem spell3_s (t : ByteArray) : spellT 3 t.data.toList 0 false = if plainS t = true ∧ t.size ≤ 255 then some (quoteT t.data.toList) else none := by
  have hlen : t.data.toList.length = t.size := by rw [Array.length_toList]; rfl
  rw [plainS_eq]
  simp [spellT, stringB, hlen]
set_option maxHeartbeats 4000000 in
theorem spell3_l (o l c : Int) (t : ByteArray) (w : World) (ht : 255 < t.size) : Calls Tryz.prog 97 #[tokV 3 o l c t 0 false] w (SpellPost 3 t 0 false w) := by
  have HS := Lib.hid (show spellT 3 t.data.toList 0 false = none by rw [spell3_s, if_neg (by omega)])
  have d : decide ((255 : Int) < (t.size : Int)) = true := decide_eq_true (by omega)
  unfold tokV tokCells
  go_enter Tryz.func97, Tryz.ntmps97
  go_wp2_with fail
  all_goals (refine bodyPost_ret (results_list (rs := [.tmp 2, .tmp 3]) rfl (by simp) (.tmp (.tmp .nil))) rfl ?_)
  all_goals exact spell_none (alloc_below _ _) HS.out
set_option maxHeartbeats 4000000 in
theorem spell3_p (o l c : Int) (t : ByteArray) (w : World) (ht : t.size ≤ 255) (hp : plainS t = false) : Calls Tryz.prog 97 #[tokV 3 o l c t 0 false] w (SpellPost 3 t 0 false w) := by
  have HS := Lib.hid (show spellT 3 t.data.toList 0 false = none by rw [spell3_s, if_neg (by simp [hp])])
  have d : decide ((255 : Int) < (t.size : Int)) = false := decide_eq_false (by omega)
  have hc := fun wx => plain_calls t wx (by omega)
  unfold PlainPost at hc
  rw [hp] at hc
  clear hp
  unfold tokV tokCells
  go_enter Tryz.func97, Tryz.ntmps97
  go_wp2_with (first
    | (go_at_call 129; refine (hc _).mono ?_; rintro e w' ⟨rfl, hB⟩; have HB := Lib.hid hB; clear hB))
  all_goals (refine bodyPost_ret (results_list (rs := [.tmp 2, .tmp 3]) rfl (by simp) (.tmp (.tmp .nil))) rfl ?_)
  all_goals exact spell_none ((alloc_below _ _).trans (HB.out.mono (by simp))) HS.out
set_option maxHeartbeats 4000000 in
theorem spell3_n (o l c : Int) (t : ByteArray) (w : World) (ht : t.size ≤ 255) (hp : plainS t = true) : Calls Tryz.prog 97 #[tokV 3 o l c t 0 false] w (SpellPost 3 t 0 false w) := by
  have HS := Lib.hid (show spellT 3 t.data.toList 0 false = some (quoteT t.data.toList) by rw [spell3_s, if_pos ⟨hp, ht⟩])
  have d : decide ((255 : Int) < (t.size : Int)) = false := decide_eq_false (by omega)
  have hel : (escT t.data.toList).length ≤ 1000 := by
    have h1 := escT_len t.data.toList
    have h2 := cnt_le t.data.toList
    have h3 : t.data.toList.length = t.size := by rw [Array.length_toList]; rfl
    omega
  have hz1 : ¬ 9223372036854775807 < 1 + (escT t.data.toList).length := by omega
  have hz2 : ¬ 9223372036854775807 < 1 + (escT t.data.toList).length + 1 := by omega
  have hz3 : ¬ 9223372036854775807 < (escT t.data.toList).length + 1 := by omega
  have hz4 : ¬ 9223372036854775807 < (escT t.data.toList).length + 1 + 1 := by omega
  have hc := fun wx => plain_calls t wx (by omega)
  unfold PlainPost at hc
  rw [hp] at hc
  clear hp
  unfold tokV tokCells
  go_enter Tryz.func97, Tryz.ntmps97
  go_wp2_with (first
    | (go_at_call 129; refine (hc _).mono ?_; rintro e w' ⟨rfl, hB⟩; have hx : w'.cell? ⟨w.heap.size, 4, none⟩ = some (.string t) := cell_new hB rfl; have HB := Lib.hid hB; clear hB))
  have S0 := hx
  go_region_held3 (fun W => W.cell? ⟨w.heap.size, 4, none⟩ = some (.string t)) (first | exact hx | exact keep_alloc hx | exact hx2 | exact hx3 | assumption) (first
    | (go_at_call 130; refine (newrep_calls w'.heap.size 4 _ (old_new _ _) (by simp)).mono ?_; rintro e w2 ⟨b, g, cp, rfl, hB2, hb, hg0, hgb, hgl, hcp, hON, hrow⟩; have hx2 : w2.cell? ⟨w.heap.size, 4, none⟩ = some (.string t) := keep_cell hB2 hx; have HN := Lib.hid (And.intro hB2 (And.intro hb (And.intro hgl (And.intro hcp (And.intro hON (And.intro hrow hgb)))))); clear hB2 hb hg0 hgl hcp hON hrow hgb)
    | (go_at_call 131; refine (rep_calls b g cp w'.heap.size t _ (by have := HN.out.2.1; simp at this; omega) (by have := HN.out.1.size; simp at this; omega) (by omega) HN.out.2.2.2.1 HN.out.2.2.2.2.2.1 HN.out.2.2.2.2.1 HN.out.2.2.1 HN.out.2.2.2.2.2.2).mono ?_; rintro e w3 ⟨rfl, hB3⟩; have hx3 : w3.cell? ⟨w.heap.size, 4, none⟩ = some (.string t) := (hB3.cell (World.block_lt_of_cell? w' _ hx)).trans hx2; have HB3 := Lib.hid hB3; clear hB3))
  go_wp2_with fail
  (refine bodyPost_ret (results_list (rs := [.tmp 2, .tmp 3]) rfl (by simp) (.tmp (.tmp .nil))) rfl ?_)
  have b1 : w.heap.size ≤ w'.heap.size := by have := HB.out.size; simp at this; omega
  exact spell_some ((((alloc_below _ _).trans (HB.out.mono (by simp))).trans ((((alloc_below w' _).drew).trans (HN.out.1.mono (by simp))).mono b1)).trans (HB3.out.mono b1)) HS.out (quote_cat _)
set_option maxHeartbeats 4000000 in
theorem spell0_v (o l c : Int) (t : ByteArray) (v : Nat) (h : Bool) (w : World) (hv : v ≠ 0) : Calls Tryz.prog 97 #[tokV 0 o l c t v h] w (SpellPost 0 t v h w) := by
  have d := v_ne v hv
  have hs : spellT 0 t.data.toList v h = none := by simp [spellT, hv]
  have HS := Lib.hid hs
  clear hs hv
  unfold tokV tokCells
  go_enter Tryz.func97, Tryz.ntmps97
  go_wp2_with fail
  all_goals (refine bodyPost_ret (results_list (rs := [.tmp 2, .tmp 3]) rfl (by simp) (.tmp (.tmp .nil))) rfl ?_)
  all_goals exact spell_none (alloc_below _ _) HS.out
set_option maxHeartbeats 4000000 in
theorem spell0_h (o l c : Int) (t : ByteArray) (w : World) : Calls Tryz.prog 97 #[tokV 0 o l c t 0 true] w (SpellPost 0 t 0 true w) := by
  have HS := Lib.hid (show spellT 0 t.data.toList 0 true = none by simp [spellT])
  unfold tokV tokCells
  go_enter Tryz.func97, Tryz.ntmps97
  go_wp2_with fail
  all_goals (refine bodyPost_ret (results_list (rs := [.tmp 2, .tmp 3]) rfl (by simp) (.tmp (.tmp .nil))) rfl ?_)
  all_goals exact spell_none (alloc_below _ _) HS.out
set_option maxHeartbeats 4000000 in
theorem spell0_t (o l c : Int) (t : ByteArray) (w : World) (ht : t.data.toList ≠ []) : Calls Tryz.prog 97 #[tokV 0 o l c t 0 false] w (SpellPost 0 t 0 false w) := by
  have HS := Lib.hid (show spellT 0 t.data.toList 0 false = none by simp [spellT, ht])
  have ht' := list_ne t ht
  clear ht
  unfold tokV tokCells
  go_enter Tryz.func97, Tryz.ntmps97
  go_wp2_with fail
  all_goals (refine bodyPost_ret (results_list (rs := [.tmp 2, .tmp 3]) rfl (by simp) (.tmp (.tmp .nil))) rfl ?_)
  all_goals exact spell_none (alloc_below _ _) HS.out
set_option maxHeartbeats 4000000 in
theorem spell0_n (o l c : Int) (w : World) : Calls Tryz.prog 97 #[tokV 0 o l c ⟨#[]⟩ 0 false] w (SpellPost 0 ⟨#[]⟩ 0 false w) := by
  have HS := Lib.hid (show spellT 0 (⟨#[]⟩ : ByteArray).data.toList 0 false = some [] by simp [spellT])
  unfold tokV tokCells
  go_enter Tryz.func97, Tryz.ntmps97
  go_wp2_with fail
  all_goals (refine bodyPost_ret (results_list (rs := [.tmp 2, .tmp 3]) rfl (by simp) (.tmp (.tmp .nil))) rfl ?_)
  all_goals exact spell_some (alloc_below _ _) HS.out rfl
end Go.Proofs.YtmfejjlmflgnbaaGreatDoor.Tok
