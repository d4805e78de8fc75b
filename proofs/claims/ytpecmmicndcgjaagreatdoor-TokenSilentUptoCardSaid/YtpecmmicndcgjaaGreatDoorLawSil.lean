/- THE LAWS' WALKS: TokenSilent answers true, of every text of at most 2^20 bytes, of all marks and of every cut. -/
import Derived.Test.YtpecmmicndcgjaaGreatDoorNumP
import Derived.Test.YtpecmmicndcgjaaGreatDoorSilP
import Derived.BigQuiet
import Derived.Deep.RegionHeld3
namespace Go.Proofs.YtpecmmicndcgjaaGreatDoor.Tok
open Go.RowKit Go.Proofs.YtpecmmicndcgjaaGreatDoor.PA Go.Proofs.YtpecmmicndcgjaaGreatDoorW.PrintWords Go.Proofs.YtpecmmicndcgjaaGreatDoorW.PrintLast Go.Proofs.YtpecmmicndcgjaaGreatDoor.Sp
set_option linter.unusedVariables false
set_option linter.unusedSimpArgs false
set_option maxRecDepth 100000

theorem code_ne {t : Bs} {c p : Nat} (h : scanT t = .error (c, p)) : c ≠ 0 := by
  unfold scanT at h
  split at h
  · cases h
    omega
  · have hf := fails_of _ t 0 c p (Nat.zero_le _) (by first | omega | (simp; omega)) h
    have := (pre_fail hf (Nat.zero_le _)).2.1
    omega
set_option maxHeartbeats 8000000 in
theorem law_sil_bad (text : ByteArray) (A : Option Addr) (n cp : Nat) (cut : Int) (w : World) (hs : text.size ≤ 1048576) (hG : Glob w) (c p : Nat) (hl : scanT text.data.toList = .error (c, p)) :
    Calls Tryz.prog 8 #[.string text, .slice A n cp, .int .i64 cut] w fun e w' => e = .returned (.bool true) ∧ Below w.heap.size w w' := by
  have HG := Lib.hid hG
  have hc0 := code_ne hl
  have HS0 : Hid (∀ W, Glob W → Calls Tryz.prog 10 #[.string text] W fun e w' => e = .returned (.tuple #[.slice none 0 0, .agg (faultC c p ((spotT text.data.toList p).1 : Nat) ((spotT text.data.toList p).2 : Nat))]) ∧ Below W.heap.size W w') := Lib.hid (fun W hW => (fscan_calls text W hs hW).mono fun e w' h => by
    unfold FScanPost at h
    rw [hl] at h
    exact ⟨h.2, h.1⟩)
  clear hG hl hs
  generalize (((spotT text.data.toList p).1 : Nat) : Int) = ln at HS0
  generalize (((spotT text.data.toList p).2 : Nat) : Int) = cl at HS0
  have dc : ((c : Int) != 0) = true := by simp; omega
  have dc2 : ((c : Int) == 0) = false := by simp; omega
  have dc3 : decide (c = 0) = false := by simp; omega
  generalize (p : Int) = ps at HS0
  have HS1 : Hid (∀ W, Glob W → Calls Tryz.prog 10 #[.string text] W fun e w' => e = .returned (.tuple #[.slice none 0 0, .agg #[.int .i64 (c : Int), .int .i64 ps, .int .i64 ln, .int .i64 cl, .string ⟨#[]⟩]]) ∧ Below W.heap.size W w') := HS0
  clear HS0 hc0
  go_enter Tryz.func8, Tryz.ntmps8
  go_wp2_with fail
  refine (HS1.out _ HG.out).mono ?_
  rintro e w1 ⟨rfl, hB1⟩
  have B1 := Lib.hid hB1
  clear hB1
  go_wp2_with (first
    | (refine run_event rfl (.alloc 27) rfl (.pointer (some ⟨w1.heap.size, 0, none⟩)) (w1.alloc (.cells (faultC 0 0 0 0) 27)) (by kernel_rfl) ?_; intro w2 hw2; have B2 : Hid (Below w1.heap.size w1 w2) := Lib.hid (by rw [hw2]; exact alloc_below _ _); have G2 : Hid (w2.heap[w1.heap.size]? = some (.cells (faultC 0 0 0 0) 27 (0, 0))) := Lib.hid (by rw [hw2]; exact heap_alloc_new _ _); clear hw2)
    | ((with_reducible refine gate_store (t := 27) (p := 8) rfl ?_); refine put_event rfl 27 _ _ rfl w1.heap.size (faultC c ps ln cl) rfl rfl 27 (faultC 0 0 0 0) G2.out (by kernel_rfl) rfl (fault_all _ _ _ _) w1.heap.size (Nat.le_refl _) ?_; intro w3 hb3 hB3 hs3 ho3; have B3 : Hid (Below w.heap.size w w3) := Lib.hid (B1.out.trans ((B2.out.trans hB3).mono B1.out.size)); obtain ⟨y0, y1, y2, y3, y4⟩ := cells_fault hb3; clear hb3 hB3 hs3 ho3)
    | (go_at_call 13; refine (alive_calls _ (HG.out.below B3.out)).mono ?_; rintro e w8 ⟨rfl, hB8⟩; have B8 := Lib.hid (B3.out.trans (hB8.mono B3.out.size)); clear hB8))
  go_ret
  exact ⟨rfl, B8.out⟩

theorem elem_C7 {w : World} {g n : Nat} {xs : List S34} (h : Kd.C k34 w (some ⟨g, 0, none⟩) n xs) (j : Nat) (hj : j < n) (x : S34) (hx : xs[j]? = some x) :
    w.cell? ⟨g, j * 7, none⟩ = some (.int .i64 x.f0) ∧ w.cell? ⟨g, j * 7 + 1, none⟩ = some (.int .i64 x.f1.f0) ∧ w.cell? ⟨g, j * 7 + 2, none⟩ = some (.int .i64 x.f1.f1) ∧ w.cell? ⟨g, j * 7 + 3, none⟩ = some (.int .i64 x.f1.f2) ∧ w.cell? ⟨g, j * 7 + 4, none⟩ = some (.string x.f2) ∧ w.cell? ⟨g, j * 7 + 5, none⟩ = some (.int .u32 x.f3) ∧ w.cell? ⟨g, j * 7 + 6, none⟩ = some (.bool x.f4) := by
  obtain ⟨ad, e, hc⟩ := h.2.2 (by omega)
  cases e
  obtain ⟨cs, hl, hR, hcell⟩ := hc j x hx
  have hcs := k34_open hR
  subst hcs
  have key : ∀ i u, [Value.int .i64 x.f0, .int .i64 x.f1.f0, .int .i64 x.f1.f1, .int .i64 x.f1.f2, .string x.f2, .int .u32 x.f3, .bool x.f4][i]? = some u → w.cell? ⟨g, j * 7 + i, none⟩ = some u := fun i u hu => by
    have h3 := hcell i u hu
    have e3 : (Addr.add ⟨g, 0, none⟩ (j * k34.sz + i)) = ⟨g, j * 7 + i, none⟩ := by
      rw [show k34.sz = 7 from rfl]
      unfold Addr.add
      by_cases h0 : j * 7 + i = 0
      · rw [if_pos h0, h0]
      · rw [if_neg h0]; simp
    rw [e3] at h3
    exact h3
  exact ⟨key 0 _ rfl, key 1 _ rfl, key 2 _ rfl, key 3 _ rfl, key 4 _ rfl, key 5 _ rfl, key 6 _ rfl⟩
theorem slice_toks (g n c k : Nat) (hk : k ≤ c) (W : World) : (Instr.slice 22 (.slice (some ⟨g, 0, none⟩) n c) none (some (.int .i64 (k : Int))) none).run Tryz.prog W = .ok (.slice (some ⟨g, 0, none⟩) k c) W := by
  have hz : (sizeOf 34).run Tryz.prog W = .ok 7 W := by kernel_rfl
  rw [run_slice_h (P := Tryz.prog) (w := W) 22 (some ⟨g, 0, none⟩) n c Tryz.underlying22 .i64 (k : Int) (by omega) (by omega)]
  have he : Tryz.prog.elem 22 = 34 := by kernel_rfl
  rw [he, hz]
  simp only [Result.andThen, sliced, Int.toNat_natCast, Nat.sub_zero, Nat.zero_mul, Option.map_some]
  split <;> rfl
theorem str_neq_nil (s : Bs) (h : s ≠ []) (W : World) : (binOp .neq 9 (.string ⟨s.toArray⟩) (.string ⟨#[]⟩)).run Tryz.prog W = .ok (.bool true) W := by
  have u3 := Tryz.underlying9
  cases s with
  | nil => exact absurd rfl h
  | cons c r => simp [go_sem, binOp, Op.stringOp]

/-- What the loop still has to write behind what it has written. -/
def SilRel (text : ByteArray) (ms : List Nat) (l : List (Tok × Nat)) (j : Nat) (s : ByteArray) : Prop := s.data.toList ++ silF text.data.toList (ms.drop j) (l.drop j) = silF text.data.toList ms l
theorem extract_list (text : ByteArray) (a b : Nat) (hb : b ≤ text.size) : (text.extract a b).data.toList = (text.data.toList.drop a).take (b - a) := by
  rw [Lib.extract_data]
theorem extract_list_end (text : ByteArray) (a : Nat) : (text.extract a text.size).data.toList = text.data.toList.drop a := by
  rw [Lib.extract_data]
  apply List.take_of_length_le
  rw [List.length_drop]
  have : text.data.toList.length = text.size := by rw [Array.length_toList]; rfl
  omega
theorem app_list (a b : ByteArray) : (a ++ b).data.toList = a.data.toList ++ b.data.toList := by
  simp
theorem rel_mid {text : ByteArray} {ms : List Nat} {l : List (Tok × Nat)} {j : Nat} {s B : ByteArray} {x y : Tok} {o o' : Nat} (h : SilRel text ms l j s) (hx : l[j]? = some (x, o)) (hy : l[j + 1]? = some (y, o')) (ho : o' ≤ text.size) (hB : B.data.toList = btwH (ms.drop j)) :
    SilRel text ms l (j + 1) (s ++ B ++ text.extract o o' ++ ⟨#[10]⟩) := by
  unfold SilRel at *
  have := sil_mid hx hy h
  rw [app_list, app_list, app_list, extract_list _ _ _ ho, hB]
  exact this
theorem rel_mid0 {text : ByteArray} {ms : List Nat} {l : List (Tok × Nat)} {j : Nat} {s : ByteArray} {x y : Tok} {o o' : Nat} (h : SilRel text ms l j s) (hx : l[j]? = some (x, o)) (hy : l[j + 1]? = some (y, o')) (ho : o' ≤ text.size) (hB : btwH (ms.drop j) = []) :
    SilRel text ms l (j + 1) (s ++ text.extract o o' ++ ⟨#[10]⟩) := by
  unfold SilRel at *
  have := sil_mid hx hy h
  rw [app_list, app_list, extract_list _ _ _ ho]
  rw [hB, List.append_nil] at this
  exact this
theorem rel_last {text : ByteArray} {ms : List Nat} {l : List (Tok × Nat)} {j : Nat} {s B : ByteArray} {x : Tok} {o : Nat} (h : SilRel text ms l j s) (hx : l[j]? = some (x, o)) (hj : j + 1 = l.length) (hB : B.data.toList = btwH (ms.drop j)) :
    SilRel text ms l (j + 1) (s ++ B ++ text.extract o text.size) := by
  unfold SilRel at *
  have := sil_last hx hj h
  rw [app_list, app_list, extract_list_end, hB]
  exact this
theorem rel_last0 {text : ByteArray} {ms : List Nat} {l : List (Tok × Nat)} {j : Nat} {s : ByteArray} {x : Tok} {o : Nat} (h : SilRel text ms l j s) (hx : l[j]? = some (x, o)) (hj : j + 1 = l.length) (hB : btwH (ms.drop j) = []) :
    SilRel text ms l (j + 1) (s ++ text.extract o text.size) := by
  unfold SilRel at *
  have := sil_last hx hj h
  rw [app_list, extract_list_end]
  rw [hB, List.append_nil] at this
  exact this
theorem slice_text2 (text : ByteArray) (o o' : Nat) (h : o ≤ o') (h2 : o' ≤ text.size) (hs : text.size ≤ 1048576) (wx : World) :
    (Instr.slice 9 (.string text) (some (.int .i64 (o : Int))) (some (.int .i64 (o' : Int))) none).run Tryz.prog wx = .ok (.string (text.extract o o')) wx := by
  have h2 := run_slice_string (P := Tryz.prog) (w := wx) 9 text .i64 .i64 (o : Int) (o' : Int) Tryz.underlying9 (by omega) (by omega) (by omega)
  rw [h2]
  simp only [Int.toNat_natCast]
theorem rel_size {text : ByteArray} {ms : List Nat} {l : List (Tok × Nat)} {j : Nat} {s : ByteArray} (h : SilRel text ms l j s) (hs : text.size ≤ 1048576) (hl : l.length ≤ 262145) : s.size ≤ 1000000000000 := by
  unfold SilRel at h
  have h1 := congrArg List.length h
  have h2 := silF_len text.data.toList l ms
  have e : text.data.toList.length = text.size := by rw [Array.length_toList]; rfl
  have e2 : s.data.toList.length = s.size := by rw [Array.length_toList]; rfl
  rw [List.length_append, e2] at h1
  rw [e] at h2
  have h3 : l.length * (text.size + 9) ≤ 262145 * (1048576 + 9) := Nat.mul_le_mul hl (by omega)
  omega
theorem between_at (m : Nat) : ∃ B : ByteArray, B.size ≤ 8 ∧ Hid (B.data.toList = btw (m % 8)) ∧ Hid (∀ W, Calls Tryz.prog 22 #[.int .u8 (m : Int)] W fun e w' => e = .returned (.string B) ∧ Below W.heap.size W w') :=
  ⟨⟨(btw (m % 8)).toArray⟩, by show ((btw (m % 8)).toArray).size ≤ 8; rw [List.size_toArray]; exact btw_len _, Lib.hid rfl, Lib.hid (fun W => tappetlaw02_between.calls _ _ W (between_spec m))⟩
theorem slice_at (text : ByteArray) (o o' : Nat) (h : o ≤ o') (h2 : o' ≤ text.size) (hs : text.size ≤ 1048576) : ∃ X : ByteArray, X.size ≤ 1048576 ∧ Hid (X = text.extract o o') ∧ ∀ wx,
    (Instr.slice 9 (.string text) (some (.int .i64 (o : Int))) (some (.int .i64 (o' : Int))) none).run Tryz.prog wx = .ok (.string X) wx :=
  ⟨text.extract o o', by rw [ByteArray.size_extract]; omega, Lib.hid rfl, fun wx => slice_text2 text o o' h h2 hs wx⟩
set_option maxHeartbeats 16000000 in
theorem law_sil_ok (text : ByteArray) (A : Option Addr) (cp : Nat) (ms : List Nat) (cut : Int) (w : World) (hs : text.size ≤ 1048576) (hG : Glob w) (hmn : ms.length ≤ 1048576)
    (hm : ∀ (i : Nat) (h : i < ms.length), ∃ ad, A = some ad ∧ w.cell? (ad.add i) = some (.int .u8 (ms[i] : Nat)))
    (hc1 : -9223372036854775808 ≤ cut) (hc2 : cut < 9223372036854775808) (l : List (Tok × Nat)) (hl : scanT text.data.toList = .ok l) (hne : 0 < l.length) (hle : l.length ≤ 262145)
    (hF : ∀ (j : Nat) (x : Sp.Tok) (o : Nat), l[j]? = some (x, o) → Facts text.data.toList 0 l j x o) :
    Calls Tryz.prog 8 #[.string text, .slice A ms.length cp, .int .i64 cut] w fun e w' => e = .returned (.bool true) ∧ Below w.heap.size w w' := by
  have HG := Lib.hid hG
  have HF := Lib.hid hF
  have HMK := Lib.hid hm
  have hlen : text.data.toList.length = text.size := by rw [Array.length_toList]; rfl
  have HS1 : Hid (∀ W, Glob W → Calls Tryz.prog 10 #[.string text] W fun e w' => (∃ g c, e = .returned (.tuple #[.slice (some ⟨g, 0, none⟩) l.length c, .agg #[.int .i64 0, .int .i64 0, .int .i64 0, .int .i64 0, .string ⟨#[]⟩]]) ∧ l.length ≤ c ∧ Kd.C k34 w' (some ⟨g, 0, none⟩) l.length (l.map (toS text.data.toList))) ∧ Below W.heap.size W w') := Lib.hid (fun W hW => (fscan_calls text W hs hW).mono fun e w' h => by
    unfold FScanPost at h
    rw [hl] at h
    obtain ⟨hB, v, he, ho⟩ := h
    obtain ⟨g, cap, rfl, _, _⟩ := ho.form hne
    have hcap := own_cap ho
    obtain ⟨A, c', hv, _, hC⟩ := toks_of_own ho
    injection hv with e1 e2 e3
    subst e1
    rw [List.length_map] at hC
    exact ⟨⟨g, cap, he, hcap, hC⟩, hB⟩)
  have HS2 : Hid (∀ s : ByteArray, s.data.toList = silF text.data.toList ms l → s.size ≤ 262144 → ∃ m, (∀ W, Glob W → Calls Tryz.prog 10 #[.string s] W fun e w' => (∃ v, e = .returned (.tuple #[v, .agg #[.int .i64 0, .int .i64 0, .int .i64 0, .int .i64 0, .string ⟨#[]⟩]]) ∧ Toks w' v m) ∧ Below W.heap.size W w') ∧ AliveB (l.map (toS text.data.toList)) m) := Lib.hid (fun s he hz => by
    have hz2 : (silF text.data.toList ms l).length ≤ 262144 := by
      rw [← he, Array.length_toList]; exact hz
    obtain ⟨l2, h1, h2, h3, h4⟩ := sil_scan hl ms hz2
    rw [← he] at h1 h4
    refine ⟨_, fun W hW => (fscan_calls s W (by omega) hW).mono fun e w' h => ?_, h4⟩
    unfold FScanPost at h
    rw [h1] at h
    obtain ⟨hB, v, hv, ho⟩ := h
    exact ⟨⟨v, hv, toks_of_own ho⟩, hB⟩)
  have HS3 : Hid (∀ (k : Nat) (x : Tok) (o : Nat), l[k]? = some (x, o) → o ≤ text.size ∧ ∀ W, Glob W → Calls Tryz.prog 10 #[.string (text.extract 0 o)] W fun e w' => (∃ g c, e = .returned (.tuple #[.slice (some ⟨g, 0, none⟩) (k + 1) c, .agg #[.int .i64 0, .int .i64 0, .int .i64 0, .int .i64 0, .string ⟨#[]⟩]]) ∧ k + 1 ≤ c ∧ ∃ q, Kd.C k34 w' (some ⟨g, 0, none⟩) k q ∧ AliveB q ((l.map (toS text.data.toList)).take k)) ∧ Below W.heap.size W w') := Lib.hid (fun k x o hx => by
    obtain ⟨h1, h2⟩ := pre_tokens hl k x o hx
    rw [hlen] at h2
    have hk := (List.getElem?_eq_some_iff.1 hx).1
    refine ⟨h2, fun W hW => (fscan_calls (text.extract 0 o) W (by rw [ByteArray.size_extract]; omega) hW).mono fun e w' h => ?_⟩
    unfold FScanPost at h
    have e0 : (text.extract 0 o).data.toList = text.data.toList.take o := by simp
    rw [e0, h1] at h
    obtain ⟨hB, v, hv, ho⟩ := h
    obtain ⟨g, cap, rfl, _, _⟩ := ho.form (by simp)
    have hcap := own_cap ho
    obtain ⟨A, c', hv2, _, hC⟩ := toks_of_own ho
    injection hv2 with e1 e2 e3
    subst e1
    have ek : (l.take k ++ [(endT, o)]).length = k + 1 := by rw [List.length_append, List.length_take]; simp; omega
    rw [List.length_map, ek] at hC
    rw [ek] at hv hcap
    exact ⟨⟨g, cap, hv, hcap, _, C_take hC k (by omega), alive_take _ (by omega)⟩, hB⟩)
  have hq1 : l.length < 2 ∨ ∃ (k : Nat) (x : Tok) (o : Nat), k + 1 < l.length ∧ l[k]? = some (x, o) ∧ (cut.tmod ((l.length : Int) - 1) = (k : Int) ∨ cut.tmod ((l.length : Int) - 1) = -(k : Int) ∧ 0 < k) := by
    by_cases h2 : l.length < 2
    · exact .inl h2
    · right
      have hb : 0 < ((l.length : Int) - 1) := by omega
      have h3 := Int.tmod_lt_of_pos cut hb
      have h4 := Int.lt_tmod_of_pos cut hb
      have hk : (cut.tmod ((l.length : Int) - 1)).natAbs < l.length := by omega
      refine ⟨(cut.tmod ((l.length : Int) - 1)).natAbs, _, _, by omega, List.getElem?_eq_getElem hk, ?_⟩
      by_cases h5 : cut.tmod ((l.length : Int) - 1) < 0
      · right; omega
      · left; omega
  have HQ := Lib.hid hq1
  have HN := Lib.hid hne
  have HM := Lib.hid hle
  have HC1 := Lib.hid (show -9223372036854775808 ≤ cut ∧ cut < 9223372036854775808 from ⟨hc1, hc2⟩)
  have HSZ := Lib.hid hs
  have HMN := Lib.hid hmn
  have HL := Lib.hid hlen
  clear hG hl hs hne hle hF hm hq1 hc1 hc2 hmn hlen
  have feq : ∀ W, (binOp .neq 27 (.agg #[.int .i64 0, .int .i64 0, .int .i64 0, .int .i64 0, .string ⟨#[]⟩]) (.agg #[.int .i64 0, .int .i64 0, .int .i64 0, .int .i64 0, .string ⟨#[]⟩])).run Tryz.prog W = .ok (.bool false) W := fun _ => by kernel_rfl
  have feq2 : ∀ W, (binOp .eql 27 (.agg #[.int .i64 0, .int .i64 0, .int .i64 0, .int .i64 0, .string ⟨#[]⟩]) (.agg #[.int .i64 0, .int .i64 0, .int .i64 0, .int .i64 0, .string ⟨#[]⟩])).run Tryz.prog W = .ok (.bool true) W := fun _ => by kernel_rfl
  go_enter Tryz.func8, Tryz.ntmps8
  go_wp2_with fail
  refine (HS1.out _ HG.out).mono ?_
  rintro e w1 ⟨⟨g, c, rfl, hcap, hC1⟩, hB1⟩
  have B1 := Lib.hid hB1
  have C1 := Lib.hid hC1
  have HCAP := Lib.hid hcap
  clear hB1 hC1 hcap
  go_wp2_with (first
    | (refine run_event rfl (.alloc 27) rfl (.pointer (some ⟨w1.heap.size, 0, none⟩)) (w1.alloc (.cells (faultC 0 0 0 0) 27)) (by kernel_rfl) ?_; intro w2 hw2; have B2 : Hid (Below w1.heap.size w1 w2) := Lib.hid (by rw [hw2]; exact alloc_below _ _); have G2 : Hid (w2.heap[w1.heap.size]? = some (.cells (faultC 0 0 0 0) 27 (0, 0))) := Lib.hid (by rw [hw2]; exact heap_alloc_new _ _); clear hw2)
    | ((with_reducible refine gate_store (t := 27) (p := 8) rfl ?_); refine put_event rfl 27 _ _ rfl w1.heap.size (faultC 0 0 0 0) rfl rfl 27 (faultC 0 0 0 0) G2.out (by kernel_rfl) rfl (fault_all _ _ _ _) w1.heap.size (Nat.le_refl _) ?_; intro w3 hb3 hB3 hs3 ho3; have B3 : Hid (Below w1.heap.size w1 w3) := Lib.hid (B2.out.trans hB3); obtain ⟨y0, y1, y2, y3, y4⟩ := cells_fault hb3; clear hb3 hB3 hs3 ho3))
  have BW : Hid (Below w.heap.size w w3) := Lib.hid (B1.out.trans (B3.out.mono B1.out.size))
  have C3 := Lib.hid (Kd.C_below C1.out B3.out)
  clear y0 y1 y2 y3 y4 C1 B1 B2 B3 G2 HS1
  go_loopw [9, 10, 11] (fun v v2 q wr => ∃ (j : Nat) (s : ByteArray) (en : Nat), v = .string s ∧ v2 = .int .i64 (en : Int) ∧ q = .int .i64 (j : Int) ∧ j ≤ l.length ∧ Hid (SilRel text ms l j s) ∧ Hid (∀ x o, l[j]? = some (x, o) → en ≤ o) ∧ Hid (Below w3.heap.size w3 wr)) (fun _ _ q _ => l.length - (intOf q).toNat)
  case atStart => exact ⟨0, ⟨#[]⟩, 0, rfl, by go_num, by go_num, by omega, Lib.hid (by unfold SilRel; rfl), Lib.hid (fun x o _ => by omega), Lib.hid (Below.refl _ _)⟩
  case round =>
    obtain ⟨j, s, en, rfl, rfl, rfl, hj, RL, LA, B⟩ := hrel
    have hm := HM.out
    by_cases hlt : j < l.length
    · have hx : l[j]? = some l[j] := List.getElem?_eq_getElem hlt
      obtain ⟨x0, x1, x2, x3, x4, x5, x6⟩ := elem_C7 C3.out j hlt (toS text.data.toList l[j]) (by rw [List.getElem?_map, hx]; rfl)
      clear x0 x2 x3 x4 x5 x6
      generalize l[j] = xo at hx x1
      obtain ⟨x, o⟩ := xo
      have hla := LA.out x o hx
      have hzs := rel_size RL.out HSZ.out HM.out
      have ho := (HF.out j x o hx).hi
      rw [HL.out] at ho
      simp only [toS] at x1
      have HX := Lib.hid hx
      have HO := Lib.hid ho
      clear hx LA
      replace x1 := (B.out.cell (World.block_lt_of_cell? w3 _ x1)).trans x1
      have e1 : ((j : Int) + 1).toNat = j + 1 := by omega
      have d0 : decide ((o : Int) < (en : Int)) = false := decide_eq_false (by omega)
      have d0n : decide (o < en) = false := decide_eq_false (by omega)
      have d1 : decide ((text.size : Int) < (o : Int)) = false := decide_eq_false (by omega)
      have d1n : decide (text.size < o) = false := decide_eq_false (by omega)
      have dw : IntKind.i64.wrap ((j : Int) + 1) = (j : Int) + 1 := by unfold IntKind.wrap; simp [IntKind.bits]; omega
      have dw2 : IntKind.i64.wrap ((l.length : Int) - 1) = (l.length : Int) - 1 := by unfold IntKind.wrap; simp [IntKind.bits]; omega
      by_cases hend : j + 1 < l.length
      · have hy : l[j + 1]? = some l[j + 1] := List.getElem?_eq_getElem hend
        obtain ⟨x0, z1, x2, x3, x4, x5, x6⟩ := elem_C7 C3.out (j + 1) hend (toS text.data.toList l[j + 1]) (by rw [List.getElem?_map, hy]; rfl)
        clear x0 x2 x3 x4 x5 x6
        generalize l[j + 1] = yo at hy z1
        obtain ⟨y, o'⟩ := yo
        have hn := (HF.out j x o HX.out).next y o' hy
        have ho' := (HF.out (j + 1) y o' hy).hi
        rw [HL.out] at ho'
        simp only [toS] at z1
        have HY := Lib.hid hy
        have HO' := Lib.hid ho'
        replace z1 := (B.out.cell (World.block_lt_of_cell? w3 _ z1)).trans z1
        have d2 : decide ((j : Int) + 1 < (l.length : Int)) = true := decide_eq_true (by omega)
        have d2n : decide (j + 1 < l.length) = true := decide_eq_true (by omega)
        have d3 : decide ((o' : Int) < (o : Int)) = false := decide_eq_false (by omega)
        have d3n : decide (o' < o) = false := decide_eq_false (by omega)
        have d4 : decide ((j : Int) < (l.length : Int) - 1) = true := decide_eq_true (by omega)
        obtain ⟨X, hX, HX2, hsl⟩ := slice_at text o o' (by omega) ho' HSZ.out
        have NX : Hid (∀ x2 o2, l[j + 1]? = some (x2, o2) → o' ≤ o2) := Lib.hid (fun x2 o2 h => by rw [HY.out] at h; injection h with h; injection h with h1 h2; omega)
        clear hy hn ho ho' hla
        by_cases hmk : j < ms.length
        · obtain ⟨ad, hA, mc⟩ := HMK.out j hmk
          have HB : Hid (btwH (ms.drop j) = btw (ms[j] % 8)) := Lib.hid (btwH_lt ms j hmk)
          generalize ms[j] = m at mc HB
          obtain ⟨Bt, hBt, HB2, HBC⟩ := between_at m
          subst hA
          have d5 : decide ((j : Int) < (ms.length : Int)) = true := decide_eq_true (by omega)
          have d5n : decide (j < ms.length) = true := decide_eq_true (by omega)
          replace mc := ((BW.out.trans (B.out.mono BW.out.size)).cell (World.block_lt_of_cell? w _ mc)).trans mc
          go_wp2_with (first
            | (go_at_call 22; refine (HBC.out _).mono ?_; rintro e w5 ⟨rfl, hB5⟩; replace x1 := (hB5.cell (World.block_lt_of_cell? wr _ x1)).trans x1; have B5 := Lib.hid (B.out.trans (hB5.mono B.out.size)); clear hB5))
          exact ⟨⟨j + 1, _, o', rfl, rfl, by go_num, by omega, Lib.hid (by rw [HX2.out]; exact rel_mid RL.out HX.out HY.out HO'.out (HB2.out.trans HB.out.symm)), NX, B5⟩, by simp [intOf]; omega⟩
        · have HB : Hid (btwH (ms.drop j) = []) := Lib.hid (btwH_ge ms j (by omega))
          have d5 : decide ((j : Int) < (ms.length : Int)) = false := decide_eq_false (by omega)
          have d5n : decide (j < ms.length) = false := decide_eq_false (by omega)
          go_wp2_with fail
          exact ⟨⟨j + 1, _, o', rfl, rfl, by go_num, by omega, Lib.hid (by rw [HX2.out]; exact rel_mid0 RL.out HX.out HY.out HO'.out HB.out), NX, B⟩, by simp [intOf]; omega⟩
      · have hend2 : j + 1 = l.length := by omega
        have HE := Lib.hid hend2
        have d2 : decide ((j : Int) + 1 < (l.length : Int)) = false := decide_eq_false (by omega)
        have d2n : decide (j + 1 < l.length) = false := decide_eq_false (by omega)
        have d4 : decide ((j : Int) < (l.length : Int) - 1) = false := decide_eq_false (by omega)
        obtain ⟨X, hX, HX2, hsl⟩ := slice_at text o text.size ho (Nat.le_refl _) HSZ.out
        have NX : Hid (∀ x2 o2, l[j + 1]? = some (x2, o2) → text.size ≤ o2) := Lib.hid (fun x2 o2 h => by have := (List.getElem?_eq_some_iff.1 h).1; omega)
        clear hend2 ho hla
        by_cases hmk : j < ms.length
        · obtain ⟨ad, hA, mc⟩ := HMK.out j hmk
          have HB : Hid (btwH (ms.drop j) = btw (ms[j] % 8)) := Lib.hid (btwH_lt ms j hmk)
          generalize ms[j] = m at mc HB
          obtain ⟨Bt, hBt, HB2, HBC⟩ := between_at m
          subst hA
          have d5 : decide ((j : Int) < (ms.length : Int)) = true := decide_eq_true (by omega)
          have d5n : decide (j < ms.length) = true := decide_eq_true (by omega)
          replace mc := ((BW.out.trans (B.out.mono BW.out.size)).cell (World.block_lt_of_cell? w _ mc)).trans mc
          go_wp2_with (first
            | (go_at_call 22; refine (HBC.out _).mono ?_; rintro e w5 ⟨rfl, hB5⟩; replace x1 := (hB5.cell (World.block_lt_of_cell? wr _ x1)).trans x1; have B5 := Lib.hid (B.out.trans (hB5.mono B.out.size)); clear hB5))
          exact ⟨⟨j + 1, _, text.size, rfl, rfl, by go_num, by omega, Lib.hid (by rw [HX2.out]; exact rel_last RL.out HX.out HE.out (HB2.out.trans HB.out.symm)), NX, B5⟩, by simp [intOf]; omega⟩
        · have HB : Hid (btwH (ms.drop j) = []) := Lib.hid (btwH_ge ms j (by omega))
          have d5 : decide ((j : Int) < (ms.length : Int)) = false := decide_eq_false (by omega)
          have d5n : decide (j < ms.length) = false := decide_eq_false (by omega)
          go_wp2_with fail
          exact ⟨⟨j + 1, _, text.size, rfl, rfl, by go_num, by omega, Lib.hid (by rw [HX2.out]; exact rel_last0 RL.out HX.out HE.out HB.out), NX, B⟩, by simp [intOf]; omega⟩
    · obtain rfl : j = l.length := by omega
      have hs' : s.data.toList = silF text.data.toList ms l := by
        have h := RL.out
        unfold SilRel at h
        rw [List.drop_eq_nil_of_le (Nat.le_refl l.length)] at h
        simpa [silF] using h
      have HS' := Lib.hid hs'
      clear hs' RL LA HMK
      have BR := Lib.hid (BW.out.trans (B.out.mono BW.out.size))
      have HTK : Hid (∀ W, Below w3.heap.size w3 W → Toks W (.slice (some ⟨g, 0, none⟩) l.length c) (l.map (toS text.data.toList))) := Lib.hid (fun W hB => ⟨some ⟨g, 0, none⟩, c, by rw [List.length_map], by rw [List.length_map]; exact HCAP.out, by rw [List.length_map]; exact Kd.C_below C3.out hB⟩)
      have HLM : Hid ((l.map (toS text.data.toList)).length ≤ 1000000000) := Lib.hid (by rw [List.length_map]; omega)
      rcases HQ.out with h2 | ⟨k, x, o, hk, hxk, hq⟩
      · have d6 : decide ((l.length : Int) < 2) = true := decide_eq_true (by omega)
        have d6n : decide (l.length < 2) = true := decide_eq_true (by omega)
        by_cases hsz : s.size ≤ 262144
        · have d7 : decide ((s.size : Int) ≤ 262144) = true := decide_eq_true (by omega)
          have d7n : decide (s.size ≤ 262144) = true := decide_eq_true (by omega)
          have d7m : decide (262144 < s.size) = false := decide_eq_false (by omega)
          obtain ⟨m, hs2, hal⟩ := HS2.out s HS'.out hsz
          have HSM := Lib.hid hs2
          have HAL := Lib.hid hal
          clear hs2 hal
          go_wp2_with (first
            | (go_at_call 10; refine (HSM.out _ (HG.out.below BR.out)).mono ?_; rintro e w5 ⟨⟨v, rfl, ht5⟩, hB5⟩; have B5 := Lib.hid hB5; have T5 := Lib.hid ht5; clear hB5 ht5)
            | (refine run_event rfl (.alloc 27) rfl (.pointer (some ⟨w5.heap.size, 0, none⟩)) (w5.alloc (.cells (faultC 0 0 0 0) 27)) (by kernel_rfl) ?_; intro w6 hw6; have B6 : Hid (Below w5.heap.size w5 w6) := Lib.hid (by rw [hw6]; exact alloc_below _ _); have G6 : Hid (w6.heap[w5.heap.size]? = some (.cells (faultC 0 0 0 0) 27 (0, 0))) := Lib.hid (by rw [hw6]; exact heap_alloc_new _ _); clear hw6)
            | ((with_reducible refine gate_store (t := 27) (p := 14) rfl ?_); refine put_event rfl 27 _ _ rfl w5.heap.size (faultC 0 0 0 0) rfl rfl 27 (faultC 0 0 0 0) G6.out (by kernel_rfl) rfl (fault_all _ _ _ _) w5.heap.size (Nat.le_refl _) ?_; intro w7 hb7 hB7 hs7 ho7; have B7 : Hid (Below w5.heap.size w5 w7) := Lib.hid (B6.out.trans hB7); obtain ⟨y0, y1, y2, y3, y4⟩ := cells_fault hb7; clear hb7 hB7 hs7 ho7)
            | (go_at_call 21; refine (alike_toks (HTK.out _ (B.out.trans ((B5.out.trans (B7.out.mono B5.out.size)).mono B.out.size))) (T5.out.below B7.out) HLM.out HAL.out).mono ?_; rintro e w8 ⟨rfl, hB8⟩; have B8 := Lib.hid (BR.out.trans (((B5.out.trans (B7.out.mono B5.out.size)).trans (hB8.mono (B5.out.trans (B7.out.mono B5.out.size)).size)).mono BR.out.size)); clear hB8 y0 y1 y2 y3 y4)
            | (go_at_call 13; refine (alive_calls _ (HG.out.below B8.out)).mono ?_; rintro e w9 ⟨rfl, hB9⟩; have B9 := Lib.hid (B8.out.trans (hB9.mono B8.out.size)); clear hB9))
          go_ret
          exact ⟨rfl, B9.out⟩
        · have d7 : decide ((s.size : Int) ≤ 262144) = false := decide_eq_false (by omega)
          have d7n : decide (s.size ≤ 262144) = false := decide_eq_false (by omega)
          have d7m : decide (262144 < s.size) = true := decide_eq_true (by omega)
          go_wp2_with (first
            | (go_at_call 13; refine (alive_calls _ (HG.out.below BR.out)).mono ?_; rintro e w9 ⟨rfl, hB9⟩; have B9 := Lib.hid (BR.out.trans (hB9.mono BR.out.size)); clear hB9))
          go_ret
          exact ⟨rfl, B9.out⟩
      · have d6 : decide ((l.length : Int) < 2) = false := decide_eq_false (by omega)
        have d6n : decide (l.length < 2) = false := decide_eq_false (by omega)
        have F := HF.out k x o hxk
        obtain ⟨sx, hsx, hsn⟩ := F.spell (fun h => by have := F.end_.1 h; omega)
        have hvx := F.val
        obtain ⟨ho, hs3⟩ := HS3.out k x o hxk
        obtain ⟨u0, u1, u2, u3, u4, u5, u6⟩ := elem_C7 C3.out k (by omega) (toS text.data.toList (x, o)) (by rw [List.getElem?_map, hxk]; rfl)
        simp only [toS] at u0 u1 u2 u3 u4 u5 u6
        have hcut : ∀ W : World, (Instr.slice 9 (.string text) none (some (.int .i64 (o : Int))) none).run Tryz.prog W = .ok (.string (text.extract 0 o)) W := fun W => by
          have h := run_slice_string_h (P := Tryz.prog) (w := W) (t := 9) (s := text) Tryz.underlying9 .i64 (o : Int) (by omega) (by omega)
          simpa using h
        have hsp : ∀ W, Glob W → Calls Tryz.prog 14 #[.agg #[.int .i64 (x.kind : Int), .int .i64 (o : Int), .int .i64 ((spotT text.data.toList o).1 : Nat), .int .i64 ((spotT text.data.toList o).2 : Nat), .string ⟨x.text.toArray⟩, .int .u32 (x.val : Int), .bool x.hex]] W fun e w' => e = .returned (.tuple #[.string ⟨sx.toArray⟩, .int .i64 0]) ∧ Below W.heap.size W w' := fun W hW =>
          (spell_calls (x.kind : Int) o _ _ ⟨x.text.toArray⟩ x.val x.hex W (by omega) hW).mono fun e w' ⟨h1, h2⟩ => ⟨by rw [h2]; simp only [hsx], h1⟩
        have hn1 : (⟨sx.toArray⟩ : ByteArray).toList.isEmpty = false := by
          cases sx with
          | nil => exact absurd rfl hsn
          | cons c r => simp
        have hn2 : (!(⟨sx.toArray⟩ : ByteArray).toList.isEmpty) = true := by rw [hn1]; rfl
        have hn3 : ((⟨sx.toArray⟩ : ByteArray).toList == []) = false := by
          cases sx with
          | nil => exact absurd rfl hsn
          | cons c r => simp
        have hnes : ∀ W, (binOp .neq 9 (.string ⟨sx.toArray⟩) (.string ⟨#[]⟩)).run Tryz.prog W = .ok (.bool true) W := fun W => str_neq_nil sx hsn W
        have hpl : ∀ c2, k + 1 ≤ c2 → ∀ gp W, (Instr.slice 22 (.slice (some ⟨gp, 0, none⟩) (k + 1) c2) none (some (.int .i64 (k : Int))) none).run Tryz.prog W = .ok (.slice (some ⟨gp, 0, none⟩) k c2) W := fun c2 h gp W => slice_toks gp (k + 1) c2 k (by omega) W
        have hll : ∀ W, (Instr.slice 22 (.slice (some ⟨g, 0, none⟩) l.length c) none (some (.int .i64 (k : Int))) none).run Tryz.prog W = .ok (.slice (some ⟨g, 0, none⟩) k c) W := fun W => slice_toks g l.length c k (by have := HCAP.out; omega) W
        have hbr : cut.tmod ((l.length : Int) - 1) = (k : Int) ∨ (cut.tmod ((l.length : Int) - 1) = -(k : Int) ∧ decide (-(k : Int) < 0) = true ∧ decide ((0 : Int) < (k : Int)) = true ∧ decide (0 < k) = true) := by
          rcases hq with hq | ⟨hq, hk0⟩
          · exact .inl hq
          · exact .inr ⟨hq, decide_eq_true (by omega), decide_eq_true (by omega), decide_eq_true hk0⟩
        have hw1 : wrap64 (k : Int) = (k : Int) := by unfold wrap64; omega
        have hw2 : IntKind.i64.wrap (k : Int) = (k : Int) := by unfold IntKind.wrap; simp [IntKind.bits]; omega
        have HSP := Lib.hid hsp
        have HS4 := Lib.hid hs3
        have HPL := Lib.hid hpl
        have HK := Lib.hid hk
        have HO := Lib.hid ho
        have HAK : Hid (∀ W gp c2 q, Below w3.heap.size w3 W → k + 1 ≤ c2 → Kd.C k34 W (some ⟨gp, 0, none⟩) k q → AliveB q ((l.map (toS text.data.toList)).take k) → Calls Tryz.prog 21 #[.slice (some ⟨gp, 0, none⟩) k c2, .slice (some ⟨g, 0, none⟩) k c] W fun e w' => e = .returned (.bool true) ∧ Below W.heap.size W w') := Lib.hid (fun W gp c2 q hB h1 hC ha => by
          have hq2 : q.length = k := hC.1
          have h3 := C_take (Kd.C_below C3.out hB) k (by omega)
          have h4 := HCAP.out
          have hc := alike_calls (some ⟨gp, 0, none⟩) (some ⟨g, 0, none⟩) c2 c q _ W (by rw [hq2]; exact hC) (by rw [hq2]; exact h3) (by omega) (by omega) (by omega) ha
          rw [hq2] at hc; exact hc)
        have hkl : k < l.length := by omega
        have hz1 : ((l.length : Int) - 1 == 0) = false := by rw [beq_eq_false_iff_ne]; omega
        have hz2 : ¬ ((l.length : Int) - 1 = 0) := by omega
        have hz3 : 2 ≤ l.length := by omega
        clear hsp hs3 hpl F hsx hsn hvx hq hxk HQ HF hk ho
        generalize (((spotT text.data.toList o).1 : Nat) : Int) = ln at u2 HSP
        generalize (((spotT text.data.toList o).2 : Nat) : Int) = cl at u3 HSP
        generalize (⟨sx.toArray⟩ : ByteArray) = sxb at HSP hnes hn1 hn2 hn3
        generalize (⟨x.text.toArray⟩ : ByteArray) = tx at u4 HSP
        generalize (x.kind : Int) = xk at u0 HSP
        generalize (x.val : Int) = xv at u5 HSP
        generalize x.hex = xh at u6 HSP
        have dk : IntKind.i64.wrap ((k : Int) + 1) = (k : Int) + 1 := by have := HK.out; unfold IntKind.wrap; simp [IntKind.bits]; omega
        have dk1 : (((k + 1 : Nat) : Int) == (k : Int) + 1) = true := by simp
        rcases hbr with hrem | ⟨hrem, dneg, dneg2, dneg3⟩
        all_goals
          by_cases hsz : s.size ≤ 262144
          · have d7 : decide ((s.size : Int) ≤ 262144) = true := decide_eq_true (by omega)
            have d7n : decide (s.size ≤ 262144) = true := decide_eq_true (by omega)
            have d7m : decide (262144 < s.size) = false := decide_eq_false (by omega)
            obtain ⟨m, hs2, hal⟩ := HS2.out s HS'.out hsz
            have HSM := Lib.hid hs2
            have HAL := Lib.hid hal
            clear hs2 hal hsz
            go_wp2_with (first
              | (go_at_call 10; refine (HSM.out _ (HG.out.below BR.out)).mono ?_; rintro e w5 ⟨⟨v, rfl, ht5⟩, hB5⟩; have B5 := Lib.hid hB5; have T5 := Lib.hid ht5; clear hB5 ht5)
              | (refine run_event rfl (.alloc 27) rfl (.pointer (some ⟨w5.heap.size, 0, none⟩)) (w5.alloc (.cells (faultC 0 0 0 0) 27)) (by kernel_rfl) ?_; intro w6 hw6; have B6 : Hid (Below w5.heap.size w5 w6) := Lib.hid (by rw [hw6]; exact alloc_below _ _); have G6 : Hid (w6.heap[w5.heap.size]? = some (.cells (faultC 0 0 0 0) 27 (0, 0))) := Lib.hid (by rw [hw6]; exact heap_alloc_new _ _); clear hw6)
              | ((with_reducible refine gate_store (t := 27) (p := 14) rfl ?_); refine put_event rfl 27 _ _ rfl w5.heap.size (faultC 0 0 0 0) rfl rfl 27 (faultC 0 0 0 0) G6.out (by kernel_rfl) rfl (fault_all _ _ _ _) w5.heap.size (Nat.le_refl _) ?_; intro w7 hb7 hB7 hs7 ho7; have B7 : Hid (Below w5.heap.size w5 w7) := Lib.hid (B6.out.trans hB7); obtain ⟨y0, y1, y2, y3, y4⟩ := cells_fault hb7; clear hb7 hB7 hs7 ho7)
              | (go_at_call 21; refine (alike_toks (HTK.out _ (B.out.trans ((B5.out.trans (B7.out.mono B5.out.size)).mono B.out.size))) (T5.out.below B7.out) HLM.out HAL.out).mono ?_; rintro e w8 ⟨rfl, hB8⟩; have B8 := Lib.hid (BR.out.trans (((B5.out.trans (B7.out.mono B5.out.size)).trans (hB8.mono (B5.out.trans (B7.out.mono B5.out.size)).size)).mono BR.out.size)); replace B7 := Lib.hid (B.out.trans (((B5.out.trans (B7.out.mono B5.out.size)).trans (hB8.mono (B5.out.trans (B7.out.mono B5.out.size)).size)).mono B.out.size)); clear hB8 y0 y1 y2 y3 y4 G6 B6 B5 T5; replace u0 := (B7.out.cell (World.block_lt_of_cell? w3 _ u0)).trans u0; replace u1 := (B7.out.cell (World.block_lt_of_cell? w3 _ u1)).trans u1; replace u2 := (B7.out.cell (World.block_lt_of_cell? w3 _ u2)).trans u2; replace u3 := (B7.out.cell (World.block_lt_of_cell? w3 _ u3)).trans u3; replace u4 := (B7.out.cell (World.block_lt_of_cell? w3 _ u4)).trans u4; replace u5 := (B7.out.cell (World.block_lt_of_cell? w3 _ u5)).trans u5; replace u6 := (B7.out.cell (World.block_lt_of_cell? w3 _ u6)).trans u6))
            refine (HSP.out _ (HG.out.below B8.out)).mono ?_
            rintro e w10 ⟨rfl, hB10⟩
            replace u1 := (hB10.cell (World.block_lt_of_cell? _ _ u1)).trans u1
            have B10w := Lib.hid (B8.out.trans (hB10.mono B8.out.size))
            have B10 := Lib.hid (B7.out.trans (hB10.mono B7.out.size))
            clear hB10 u0 u2 u3 u4 u5 u6
            go_wp2_with fail
            refine (HS4.out _ (HG.out.below B10w.out)).mono ?_
            rintro e w11 ⟨⟨gp, c2, rfl, hc2, q, hq, haq⟩, hB11⟩
            have B11w := Lib.hid (B10w.out.trans (hB11.mono B10w.out.size))
            have B11 := Lib.hid (B10.out.trans (hB11.mono B10.out.size))
            have Q11 := Lib.hid hq
            have HAQ := Lib.hid haq
            have HC2 := Lib.hid hc2
            have hp2 := HPL.out c2 hc2 gp
            clear hB11 hq haq hc2 u1
            go_wp2_with (first
              | (refine run_event rfl (.alloc 27) rfl (.pointer (some ⟨w11.heap.size, 0, none⟩)) (w11.alloc (.cells (faultC 0 0 0 0) 27)) (by kernel_rfl) ?_; intro w12 hw12; have B12 : Hid (Below w11.heap.size w11 w12) := Lib.hid (by rw [hw12]; exact alloc_below _ _); have G12 : Hid (w12.heap[w11.heap.size]? = some (.cells (faultC 0 0 0 0) 27 (0, 0))) := Lib.hid (by rw [hw12]; exact heap_alloc_new _ _); clear hw12)
              | ((with_reducible refine gate_store (t := 27) (p := 19) rfl ?_); refine put_event rfl 27 _ _ rfl w11.heap.size (faultC 0 0 0 0) rfl rfl 27 (faultC 0 0 0 0) G12.out (by kernel_rfl) rfl (fault_all _ _ _ _) w11.heap.size (Nat.le_refl _) ?_; intro w13 hb13 hB13 hs13 ho13; have G13 := Lib.hid hb13; have B13 : Hid (Below w11.heap.size w11 w13) := Lib.hid (B12.out.trans hB13); obtain ⟨y0, y1, y2, y3, y4⟩ := cells_fault hb13; clear hb13 hB13 hs13 ho13))
            have BQ : Hid (Below w.heap.size w w13) := Lib.hid (B11w.out.trans (B13.out.mono B11w.out.size))
            have BX : Hid (Below w3.heap.size w3 w13) := Lib.hid (B11.out.trans (B13.out.mono B11.out.size))
            have Q13 := Lib.hid (Kd.C_below Q11.out B13.out)
            have HA2 : Hid (∀ W, Below w13.heap.size w13 W → Calls Tryz.prog 21 #[.slice (some ⟨gp, 0, none⟩) k c2, .slice (some ⟨g, 0, none⟩) k c] W fun e w' => e = .returned (.bool true) ∧ Below W.heap.size W w') := Lib.hid (fun W hW => HAK.out W gp c2 q (BX.out.trans (hW.mono BX.out.size)) HC2.out (Kd.C_below Q13.out hW) HAQ.out)
            clear hrem hw1 hw2
            go_region_held3 (fun W => W.cell? ⟨w11.heap.size, 0, none⟩ = some (.int .i64 0) ∧ W.cell? ⟨w11.heap.size, 1, none⟩ = some (.int .i64 0) ∧ W.cell? ⟨w11.heap.size, 2, none⟩ = some (.int .i64 0) ∧ W.cell? ⟨w11.heap.size, 3, none⟩ = some (.int .i64 0) ∧ W.cell? ⟨w11.heap.size, 4, none⟩ = some (.string ⟨#[]⟩)) (first | exact ⟨y0, y1, y2, y3, y4⟩ | exact ⟨z0, z1, z2, z3, z4⟩ | exact ⟨t0, t1, t2, t3, t4⟩ | assumption) (first
              | (go_at_call 16; refine (num_pure _ _).mono ?_; rintro e wn ⟨rfl, rfl⟩)
              | (go_at_call 21; refine (HA2.out _ (Below.refl _ _).drew).mono ?_; rintro e w14 ⟨rfl, hB14⟩; obtain ⟨z0, z1, z2, z3, z4⟩ := cells_fault ((hB14.block _ (Array.getElem?_eq_some_iff.1 G13.out).1).trans G13.out); have G14 := Lib.hid ((hB14.block _ (Array.getElem?_eq_some_iff.1 G13.out).1).trans G13.out); have B14 : Hid (Below w.heap.size w w14) := Lib.hid (BQ.out.drew.trans (hB14.mono BQ.out.drew.size)); clear hB14)
              | (go_at_call 13; refine (alive_calls _ (HG.out.below B14.out)).mono ?_; rintro e w15 ⟨rfl, hB15⟩; obtain ⟨t0, t1, t2, t3, t4⟩ := cells_fault ((hB15.block _ (Array.getElem?_eq_some_iff.1 G14.out).1).trans G14.out); have B15 : Hid (Below w.heap.size w w15) := Lib.hid (B14.out.trans (hB15.mono B14.out.size)); clear hB15))
            go_wp2_with fail
            go_ret
            exact ⟨rfl, B15.out⟩
          · have d7 : decide ((s.size : Int) ≤ 262144) = false := decide_eq_false (by omega)
            have d7n : decide (s.size ≤ 262144) = false := decide_eq_false (by omega)
            have d7m : decide (262144 < s.size) = true := decide_eq_true (by omega)
            have B7 := B
            have B8 := BR
            replace u0 := (B7.out.cell (World.block_lt_of_cell? w3 _ u0)).trans u0; replace u1 := (B7.out.cell (World.block_lt_of_cell? w3 _ u1)).trans u1; replace u2 := (B7.out.cell (World.block_lt_of_cell? w3 _ u2)).trans u2; replace u3 := (B7.out.cell (World.block_lt_of_cell? w3 _ u3)).trans u3; replace u4 := (B7.out.cell (World.block_lt_of_cell? w3 _ u4)).trans u4; replace u5 := (B7.out.cell (World.block_lt_of_cell? w3 _ u5)).trans u5; replace u6 := (B7.out.cell (World.block_lt_of_cell? w3 _ u6)).trans u6
            go_wp2_with fail
            refine (HSP.out _ (HG.out.below B8.out)).mono ?_
            rintro e w10 ⟨rfl, hB10⟩
            replace u1 := (hB10.cell (World.block_lt_of_cell? _ _ u1)).trans u1
            have B10w := Lib.hid (B8.out.trans (hB10.mono B8.out.size))
            have B10 := Lib.hid (B7.out.trans (hB10.mono B7.out.size))
            clear hB10 u0 u2 u3 u4 u5 u6
            go_wp2_with fail
            refine (HS4.out _ (HG.out.below B10w.out)).mono ?_
            rintro e w11 ⟨⟨gp, c2, rfl, hc2, q, hq, haq⟩, hB11⟩
            have B11w := Lib.hid (B10w.out.trans (hB11.mono B10w.out.size))
            have B11 := Lib.hid (B10.out.trans (hB11.mono B10.out.size))
            have Q11 := Lib.hid hq
            have HAQ := Lib.hid haq
            have HC2 := Lib.hid hc2
            have hp2 := HPL.out c2 hc2 gp
            clear hB11 hq haq hc2 u1
            go_wp2_with (first
              | (refine run_event rfl (.alloc 27) rfl (.pointer (some ⟨w11.heap.size, 0, none⟩)) (w11.alloc (.cells (faultC 0 0 0 0) 27)) (by kernel_rfl) ?_; intro w12 hw12; have B12 : Hid (Below w11.heap.size w11 w12) := Lib.hid (by rw [hw12]; exact alloc_below _ _); have G12 : Hid (w12.heap[w11.heap.size]? = some (.cells (faultC 0 0 0 0) 27 (0, 0))) := Lib.hid (by rw [hw12]; exact heap_alloc_new _ _); clear hw12)
              | ((with_reducible refine gate_store (t := 27) (p := 19) rfl ?_); refine put_event rfl 27 _ _ rfl w11.heap.size (faultC 0 0 0 0) rfl rfl 27 (faultC 0 0 0 0) G12.out (by kernel_rfl) rfl (fault_all _ _ _ _) w11.heap.size (Nat.le_refl _) ?_; intro w13 hb13 hB13 hs13 ho13; have G13 := Lib.hid hb13; have B13 : Hid (Below w11.heap.size w11 w13) := Lib.hid (B12.out.trans hB13); obtain ⟨y0, y1, y2, y3, y4⟩ := cells_fault hb13; clear hb13 hB13 hs13 ho13))
            have BQ : Hid (Below w.heap.size w w13) := Lib.hid (B11w.out.trans (B13.out.mono B11w.out.size))
            have BX : Hid (Below w3.heap.size w3 w13) := Lib.hid (B11.out.trans (B13.out.mono B11.out.size))
            have Q13 := Lib.hid (Kd.C_below Q11.out B13.out)
            have HA2 : Hid (∀ W, Below w13.heap.size w13 W → Calls Tryz.prog 21 #[.slice (some ⟨gp, 0, none⟩) k c2, .slice (some ⟨g, 0, none⟩) k c] W fun e w' => e = .returned (.bool true) ∧ Below W.heap.size W w') := Lib.hid (fun W hW => HAK.out W gp c2 q (BX.out.trans (hW.mono BX.out.size)) HC2.out (Kd.C_below Q13.out hW) HAQ.out)
            clear hrem hw1 hw2
            go_region_held3 (fun W => W.cell? ⟨w11.heap.size, 0, none⟩ = some (.int .i64 0) ∧ W.cell? ⟨w11.heap.size, 1, none⟩ = some (.int .i64 0) ∧ W.cell? ⟨w11.heap.size, 2, none⟩ = some (.int .i64 0) ∧ W.cell? ⟨w11.heap.size, 3, none⟩ = some (.int .i64 0) ∧ W.cell? ⟨w11.heap.size, 4, none⟩ = some (.string ⟨#[]⟩)) (first | exact ⟨y0, y1, y2, y3, y4⟩ | exact ⟨z0, z1, z2, z3, z4⟩ | exact ⟨t0, t1, t2, t3, t4⟩ | assumption) (first
              | (go_at_call 16; refine (num_pure _ _).mono ?_; rintro e wn ⟨rfl, rfl⟩)
              | (go_at_call 21; refine (HA2.out _ (Below.refl _ _).drew).mono ?_; rintro e w14 ⟨rfl, hB14⟩; obtain ⟨z0, z1, z2, z3, z4⟩ := cells_fault ((hB14.block _ (Array.getElem?_eq_some_iff.1 G13.out).1).trans G13.out); have G14 := Lib.hid ((hB14.block _ (Array.getElem?_eq_some_iff.1 G13.out).1).trans G13.out); have B14 : Hid (Below w.heap.size w w14) := Lib.hid (BQ.out.drew.trans (hB14.mono BQ.out.drew.size)); clear hB14)
              | (go_at_call 13; refine (alive_calls _ (HG.out.below B14.out)).mono ?_; rintro e w15 ⟨rfl, hB15⟩; obtain ⟨t0, t1, t2, t3, t4⟩ := cells_fault ((hB15.block _ (Array.getElem?_eq_some_iff.1 G14.out).1).trans G14.out); have B15 : Hid (Below w.heap.size w w15) := Lib.hid (B14.out.trans (hB15.mono B14.out.size)); clear hB15))
            go_wp2_with fail
            go_ret
            exact ⟨rfl, B15.out⟩

theorem law_silent (text : ByteArray) (A : Option Addr) (cp : Nat) (ms : List Nat) (cut : Int) (w : World) (hs : text.size ≤ 1048576) (hG : Glob w) (hmn : ms.length ≤ 1048576)
    (hm : ∀ (i : Nat) (h : i < ms.length), ∃ ad, A = some ad ∧ w.cell? (ad.add i) = some (.int .u8 (ms[i] : Nat)))
    (hc1 : -9223372036854775808 ≤ cut) (hc2 : cut < 9223372036854775808) :
    Calls Tryz.prog 8 #[.string text, .slice A ms.length cp, .int .i64 cut] w fun e w' => e = .returned (.bool true) ∧ Below w.heap.size w w' := by
  cases h : scanT text.data.toList with
  | error q => obtain ⟨c, p⟩ := q; exact law_sil_bad text A ms.length cp cut w hs hG c p h
  | ok l =>
    have hsc := scans_of_T h
    have hb := scans_bound hsc (Nat.zero_le _)
    have hz := len_of_scanT h
    exact law_sil_ok text A cp ms cut w hs hG hmn hm hc1 hc2 l h hb.1 (by omega) (facts hsc (Nat.zero_le _))
end Go.Proofs.YtpecmmicndcgjaaGreatDoor.Tok
