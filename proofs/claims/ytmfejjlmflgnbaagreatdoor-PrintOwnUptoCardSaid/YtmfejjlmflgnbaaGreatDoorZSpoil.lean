/- CONTRACT: the law's spoil: it writes over a row of attributes and all that the row leads to, and nothing else. -/
import Derived.Test.YtmfejjlmflgnbaaGreatDoorZPlainS
namespace Go.Proofs.YtmfejjlmflgnbaaGreatDoor.Tok
open Go.RowKit Go.Proofs.YtmfejjlmflgnbaaGreatDoor.PA Go.Proofs.YtmfejjlmflgnbaaGreatDoorW.PrintWords Go.Proofs.YtmfejjlmflgnbaaGreatDoorW.PrintLast Go.Proofs.YtmfejjlmflgnbaaGreatDoor.Sp Go.Proofs.YtmfejjlmflgnbaaGreatDoor.Tr
set_option linter.unusedVariables false
set_option linter.unusedSimpArgs false
set_option maxRecDepth 100000

def nameA (s : ByteArray) : SA := ⟨s, ⟨0, 0, 0⟩, ⟨0, ⟨#[]⟩, 0, false⟩, false, [], false, ⟨#[]⟩⟩
def spB : ByteArray := ⟨#[115, 112, 111, 105, 108, 116]⟩
def moB : ByteArray := ⟨#[109, 111, 114, 101]⟩
def nameV (s : ByteArray) : List Value := [.string s, .int .i64 0, .int .i64 0, .int .i64 0, .int .i64 0, .string ⟨#[]⟩, .int .u32 0, .bool false, .bool false, .slice none 0 0, .bool false, .string ⟨#[]⟩]
theorem name_M (s : ByteArray) (w : World) (base : Nat) (ok : Nat → Prop) : ks.M w base ok (nameA s) (nameV s) := ks_mkM w base ok (nameA s) (Kd.S_nil ks 50 w base ok)
/-- The row after i rounds. -/
def mixed (l : List SA) (i : Nat) : List SA := List.replicate i (nameA spB) ++ l.drop i
theorem mixed_len (l : List SA) (i : Nat) (h : i ≤ l.length) : (mixed l i).length = l.length := by
  unfold mixed
  rw [List.length_append, List.length_replicate, List.length_drop]
  omega
theorem mixed_at (l : List SA) (i : Nat) (z : SA) (h : i < l.length) : (mixed l i).getD ((i : Int)).toNat z = l[i] := by
  unfold mixed
  rw [Int.toNat_natCast, List.getD_eq_getElem?_getD, List.getElem?_append_right (by simp), List.length_replicate, Nat.sub_self, List.getElem?_drop, Nat.add_zero, List.getElem?_eq_getElem h]
  rfl
theorem mixed_set (l : List SA) (i : Nat) (h : i < l.length) : (mixed l i).set ((i : Int)).toNat (nameA spB) = mixed l (i + 1) := by
  unfold mixed
  rw [Int.toNat_natCast]
  apply List.ext_getElem?
  intro k
  rcases Nat.lt_trichotomy k i with hk | hk | hk
  · rw [List.getElem?_set_ne (by omega), List.getElem?_append_left (by simpa using hk), List.getElem?_append_left (by simp; omega), List.getElem?_replicate, List.getElem?_replicate, if_pos hk, if_pos (by omega)]
  · subst hk
    rw [List.getElem?_set_self (by simp; omega), List.getElem?_append_left (by simp), List.getElem?_replicate, if_pos (by omega)]
  · rw [List.getElem?_set_ne (by omega), List.getElem?_append_right (by simp; omega), List.getElem?_append_right (by simp; omega), List.getElem?_drop, List.getElem?_drop, List.length_replicate, List.length_replicate]
    congr 1
    omega
/-- What stands while the inner row is appended to. -/
structure SPI (w W : World) (base : Nat) (ok oki : Nat → Prop) (g n cap : Nat) (l : List SA) (i : Nat) (c : List Value) : Prop where
  hole : Kd.H ks 50 W base ok (.slice (some ⟨g, 0, none⟩) n cap) (mixed l i) (i : Int) oki c
  bel : Below base w W
  keep : ∀ k, k < w.heap.size → ¬ ok k → W.heap[k]? = w.heap[k]?
theorem SPI.grown {w W W1 : World} {base : Nat} {ok oki : Nat → Prop} {g n cap : Nat} {l : List SA} {i : Nat} {c : List Value} (h : SPI w W base ok oki g n cap l i c) {row : Option Nat} (hg : W.grownBy W1 row) (hrow : ∀ k, row = some k → oki k) (hb : Below base w W1) : SPI w W1 base ok oki g n cap l i c :=
  ⟨Kd.H_grown h.hole hg hrow, hb, fun k hk hn => (hg.block k (by have := h.bel.size; omega) (fun e => hn (h.hole.1 k (hrow k e.symm)))).trans (h.keep k hk hn)⟩
/-- The inner row's cell is read. -/
theorem SPI.cell {w W : World} {base : Nat} {ok oki : Nat → Prop} {g n cap : Nat} {l : List SA} {i : Nat} {a : SA} {v9 : Value} (h : SPI w W base ok oki g n cap l i [.string a.f0, .int .i64 a.f1.f0, .int .i64 a.f1.f1, .int .i64 a.f1.f2, .int .i64 a.f2.f0, .string a.f2.f1, .int .u32 a.f2.f2, .bool a.f2.f3, .bool a.f3, v9, .bool a.f5, .string a.f6]) (hi : i < n) :
    W.cell? ⟨g, i * 12 + 9, none⟩ = some v9 := by
  have h1 := (Kd.H_at h.hole (by omega) (by omega)).1 9 _ rfl
  rw [Int.toNat_natCast] at h1
  exact h1
theorem SPI.there {w W : World} {base : Nat} {ok oki : Nat → Prop} {g n cap : Nat} {l : List SA} {i : Nat} {c : List Value} (h : SPI w W base ok oki g n cap l i c) (hi : i < n) (hc : c.length = 12) : W.there g (i * 12) 12 := fun j hj => by
  obtain ⟨h1, h2⟩ := Kd.H_at h.hole (by omega) (by omega)
  have e := List.getElem?_eq_getElem (show j < c.length by omega)
  have h3 := h1 j _ e
  have h4 := h2 j
  rw [Int.toNat_natCast] at h3 h4
  exact ⟨by rw [show W.cell? ⟨g, i * 12 + j, none⟩ = _ from h3]; rfl, h4⟩
/-- The element written over. -/
theorem SPI.put {w W W1 : World} {base : Nat} {ok oki : Nat → Prop} {g n cap : Nat} {l : List SA} {i : Nat} {c : List Value} (h : SPI w W base ok oki g n cap l i c) (hi : i < n) (hil : i < l.length) (hc : c.length = 12) (hbs : base ≤ w.heap.size) (hbg : base ≤ g) (hok : ok g) (hw : W1 = W.setCells g (i * 12) (nameV spB)) :
    Kd.S ks 50 W1 base ok (.slice (some ⟨g, 0, none⟩) n cap) (mixed l (i + 1)) ∧ Below base w W1 ∧ ∀ k, k < w.heap.size → ¬ ok k → W1.heap[k]? = w.heap[k]? := by
  subst hw
  obtain ⟨h1, h2⟩ := Kd.S_seg0 h.hole (by omega) (by omega) (seg := nameV spB) (j := 0) (x' := nameA spB) (okp := fun _ => False) (by show 0 + 12 ≤ 12; omega) (by
    have e : c.take 0 ++ nameV spB ++ c.drop (0 + (nameV spB).length) = nameV spB := by
      rw [List.take_zero, List.nil_append, List.drop_eq_nil_of_le (by rw [hc]; show 12 ≤ 0 + 12; omega), List.append_nil]
    rw [e]
    exact name_M spB _ _ _) (fun k hk => hk.elim)
  rw [mixed_set l i hil] at h1
  rw [show (i : Int).toNat * ks.sz + 0 = i * 12 from by rw [Int.toNat_natCast]; rfl] at h1 h2
  refine ⟨h1, ?_, fun k hk hn => (h2.block k (by have := h.bel.size; omega) (fun e => ?_)).trans (h.keep k hk hn)⟩
  · exact h.bel.grown h2 (by have := h.bel.size; omega) (fun k hk => by injection hk with hk; omega)
  · injection e with e
    subst e
    exact hn hok
set_option maxHeartbeats 16000000 in
theorem spoil_calls (m : Nat) : ∀ (l : List SA) (A : Option Addr) (c : Nat) (w : World) (base : Nat) (ok : Nat → Prop), cntL l ≤ m → Kd.S ks 50 w base ok (.slice A l.length c) l → base ≤ w.heap.size → (∀ k, w.heap.size ≤ k → ok k) → cntL l ≤ 1000000000 →
    Calls Tryz.prog 22 #[.slice A l.length c] w fun e w' => e = .returned (.tuple #[]) ∧ Kd.S ks 50 w' base ok (.slice A l.length c) (List.replicate l.length (nameA spB)) ∧ Below base w w' ∧ ∀ k, k < w.heap.size → ¬ ok k → w'.heap[k]? = w.heap[k]? := by
  induction m with
  | zero =>
    intro l A c w base ok hm hS hbs hfr hb
    obtain rfl : l = [] := by
      have := cnt_len l
      exact List.length_eq_zero_iff.1 (by omega)
    have HS := Lib.hid hS
    clear hm hS hbs hfr hb
    go_enter Tryz.func22, Tryz.ntmps22
    go_wp2_with fail
    go_loopw [2] (fun v wr => v = .int .i64 0 ∧ wr = w) (fun _ _ => 0)
    case atStart => exact ⟨rfl, rfl⟩
    case round =>
      obtain ⟨rfl, rfl⟩ := hrel
      go_wp2_with fail
      go_end0
      exact ⟨rfl, HS.out, Below.refl _ _, fun _ _ _ => rfl⟩
  | succ m ih =>
    intro l A c w base ok hm hS hbs hfr hb
    have HM := Lib.hid hm
    have HB := Lib.hid hb
    have HFR := Lib.hid hfr
    have HBS := Lib.hid hbs
    have hlen := cnt_len l
    have HL := Lib.hid (show l.length ≤ 1000000000 by omega)
    have HS := Lib.hid hS
    clear hm hb hfr hbs hlen hS
    go_enter Tryz.func22, Tryz.ntmps22
    go_wp2_with fail
    go_loopw [2] (fun v wr => ∃ i : Nat, v = .int .i64 (i : Int) ∧ i ≤ l.length ∧ Hid (Kd.S ks 50 wr base ok (.slice A l.length c) (mixed l i)) ∧ Hid (Below base w wr) ∧ Hid (∀ k, k < w.heap.size → ¬ ok k → wr.heap[k]? = w.heap[k]?)) (fun v _ => l.length - (intOf v).toNat)
    case atStart => exact ⟨0, by go_num, by omega, Lib.hid (by unfold mixed; exact HS.out), Lib.hid (Below.refl _ _), Lib.hid (fun _ _ _ => rfl)⟩
    case round =>
      obtain ⟨i, rfl, hi, SR, BL, KL⟩ := hrel
      have hl9 := HL.out
      by_cases hlt : i < l.length
      · have hx : l[i]? = some l[i] := List.getElem?_eq_getElem hlt
        have hml := mixed_len l i hi
        obtain ⟨g, cap, hv, hbg, hgl, _⟩ := Kd.S_form SR.out (by omega)
        injection hv with hA hn hcc
        clear hn
        subst hA hcc
        have HOG := Lib.hid (show ok g from by
          obtain ⟨f, h0, _⟩ := SR.out
          exact h0 g (by simp [Value.ownBlock]))
        obtain ⟨oki, cs, hcl, hM, _, hoki, hH⟩ := Kd.S_lend SR.out (nameA spB) (i : Int) (by omega) (by omega)
        rw [mixed_at l i _ hlt] at hM
        have hcn := cnt_get l i _ hx
        rw [cnt_eq] at hcn
        generalize l[i] = a at hM hcn hx
        obtain ⟨v9, hcs, hS9⟩ := ks_openM hM
        subst hcs
        obtain ⟨A9, c9, e9⟩ := S_form2 hS9
        subst e9
        obtain ⟨okx, hokx⟩ : ∃ okx : Nat → Prop, okx = (fun k => oki k ∨ ok k ∧ wr.heap.size ≤ k) := ⟨_, rfl⟩
        have H0 := Kd.H_widen hH
        rw [← hokx] at H0
        have P0 : Hid (SPI w wr base ok okx g l.length c l i [.string a.f0, .int .i64 a.f1.f0, .int .i64 a.f1.f1, .int .i64 a.f1.f2, .int .i64 a.f2.f0, .string a.f2.f1, .int .u32 a.f2.f2, .bool a.f2.f3, .bool a.f3, .slice A9 a.f4.length c9, .bool a.f5, .string a.f6]) := Lib.hid ⟨H0, BL.out, KL.out⟩
        have S9 : Hid (Kd.S ks 50 wr base okx (.slice A9 a.f4.length c9) a.f4) := Lib.hid (Kd.S_mono hS9 (fun k hk => by rw [hokx]; exact Or.inl hk))
        have HX := Lib.hid (show ∀ k, wr.heap.size ≤ k → okx k from fun k hk => by rw [hokx]; exact Or.inr ⟨HFR.out k (by have := BL.out.size; omega), hk⟩)
        have HCN := Lib.hid hcn
        have HBG := Lib.hid hbg
        have BSR : Hid (base ≤ wr.heap.size) := Lib.hid (by have := BL.out.size; have := HBS.out; omega)
        have x9 := SPI.cell P0.out hlt
        clear hx hml hbg hgl hcl hM hoki hH hcn hS9 H0 hokx
        go_wp2_with fail
        refine (ih a.f4 A9 c9 wr base okx (by have := HCN.out; have := HM.out; omega) S9.out BSR.out HX.out (by have := HCN.out; have := HB.out; omega)).mono ?_
        rintro e w1 ⟨rfl, hS1, hB1, hK1⟩
        have P1 : Hid (SPI w w1 base ok okx g l.length c l i [.string a.f0, .int .i64 a.f1.f0, .int .i64 a.f1.f1, .int .i64 a.f1.f2, .int .i64 a.f2.f0, .string a.f2.f1, .int .u32 a.f2.f2, .bool a.f2.f3, .bool a.f3, .slice A9 a.f4.length c9, .bool a.f5, .string a.f6]) := Lib.hid ⟨Kd.H_step P0.out.hole (fun k h1 h2 h3 => hK1 k h3 h2), P0.out.bel.trans hB1, fun k hk hn => (hK1 k (by have := BL.out.size; omega) (fun h => hn (P0.out.hole.1 k h))).trans (P0.out.keep k hk hn)⟩
        have R1 : Hid (Kd.R ks 50 w1 base okx (.slice A9 a.f4.length c9) (List.replicate a.f4.length (nameA spB))) := Lib.hid (Kd.S_R hS1)
        have HX1 : Hid (∀ k, w1.heap.size ≤ k → okx k) := Lib.hid (fun k hk => HX.out k (by have := hB1.size; omega))
        clear x9 hS1 hB1 hK1
        have x9 := SPI.cell P1.out hlt
        go_wp2_with fail
        clear x9
        go_loopw [3, 4] (fun v3 v4 wq => ∃ (ys : List SA) (j : Nat), v4 = .int .i64 (j : Int) ∧ j ≤ 20 ∧ ys.length ≤ a.f4.length + j ∧ w1.heap.size ≤ wq.heap.size ∧ Hid (Kd.R ks 50 wq base okx v3 ys) ∧ Hid (SPI w wq base ok okx g l.length c l i [.string a.f0, .int .i64 a.f1.f0, .int .i64 a.f1.f1, .int .i64 a.f1.f2, .int .i64 a.f2.f0, .string a.f2.f1, .int .u32 a.f2.f2, .bool a.f2.f3, .bool a.f3, .slice A9 a.f4.length c9, .bool a.f5, .string a.f6])) (fun _ v _ => 20 - (intOf v).toNat)
        case atStart => exact ⟨_, 0, by go_num, by omega, by simp, Nat.le_refl _, R1, P1⟩
        case round =>
          obtain ⟨ys, j, rfl, hj, hyl, hwz, RY, PQ⟩ := hrel
          obtain ⟨Ay, cy, hvy⟩ := R_form2 RY.out
          subst hvy
          by_cases h20 : j < 20
          · have HYL := Lib.hid (show ys.length ≤ 1000000020 by have := HCN.out; have := HB.out; have := cnt_len a.f4; omega)
            have HWZ := Lib.hid hwz
            have HYJ := Lib.hid hyl
            have BQS : Hid (base ≤ wr.heap.size) := Lib.hid (by have := PQ.out.bel.size; have := HBS.out; omega)
            clear hwz hyl
            go_wp2_with (first
              | (at_builtin; refine Kd.R_append ks (w0 := w) base rfl (.tmp 26) (.tmp 28) 42 50 (.agg #[(.string ⟨#[]⟩), (.int .i64 0), (.int .i64 0), (.int .i64 0), (.int .i64 0), (.string ⟨#[]⟩), (.int .u32 0), (.bool false), (.bool false), (.slice none 0 0), (.bool false), (.string ⟨#[]⟩)]) 128 rfl Tryz.underlying42 info50 rfl (by decide) (by omega) (.slice Ay ys.length cy) ys (nameA moB) (nameV moB) okx (fun _ => False) rfl rfl (name_M moB _ base _) (fun _ h => h.elim) (fun k hk => HX1.out k (by have := HWZ.out; omega)) RY.out PQ.out.bel BQS.out (by have := HYL.out; omega) ?_; intro v6 w6 ho hb hg hat; have R6 := Lib.hid ho; have P6 := Lib.hid (PQ.out.grown hg (fun k hk => RY.out.1 k hk) hb); have S6 := Lib.hid hg.size; clear ho hb hg hat))
            exact ⟨⟨_, j + 1, by go_num, by omega, by rw [List.length_append]; have := HYJ.out; simp; omega, by have := HWZ.out; have := S6.out; omega, R6, P6⟩, by simp [intOf]; omega⟩
          · obtain rfl : j = 20 := by omega
            clear hyl hwz
            go_wp2_with (first
              | ((with_reducible refine gate_store (t := 50) (p := 33) rfl ?_); refine cells_event rfl 50 _ _ rfl g (i * 12) (nameV spB) (by first | rfl | (simp [Addr.add, Act.eval]; done) | (go_simp; done)) rfl (by simp [nameV, Value.oneCell']) (PQ.out.there hlt rfl) (by kernel_rfl) ?_; intro w7 hw7; have Q7 := Lib.hid (PQ.out.put hlt hlt rfl HBS.out HBG.out HOG.out hw7); clear hw7))

            exact ⟨⟨i + 1, by go_num, by omega, Lib.hid Q7.out.1, Lib.hid Q7.out.2.1, Lib.hid Q7.out.2.2⟩, by simp [intOf]; omega⟩
      · obtain rfl : i = l.length := by omega
        go_wp2_with fail
        go_end0
        refine ⟨rfl, ?_, BL.out, KL.out⟩
        have := SR.out
        unfold mixed at this
        rw [List.drop_length, List.append_nil] at this
        exact this
end Go.Proofs.YtmfejjlmflgnbaaGreatDoor.Tok
