/- THE LAWS' WALKS: TokenBack answers true, of every list of tokens of bulk at most 2^20. -/
import Derived.Test.YtpecmmicndcgjaaGreatDoorLive
import Derived.Test.YtpecmmicndcgjaaGreatDoorBackP
import Derived.Test.YtpecmmicndcgjaaGreatDoorJoinV
import Derived.Test.YtpecmmicndcgjaaGreatDoorWApp
namespace Go.Proofs.YtpecmmicndcgjaaGreatDoor.Tok
open Go.RowKit Go.Proofs.YtpecmmicndcgjaaGreatDoor.PA Go.Proofs.YtpecmmicndcgjaaGreatDoorW.PrintWords Go.Proofs.YtpecmmicndcgjaaGreatDoorW.PrintLast Go.Proofs.YtpecmmicndcgjaaGreatDoor.Sp
set_option linter.unusedVariables false
set_option linter.unusedSimpArgs false
set_option maxRecDepth 100000

theorem cells_fault {w : World} {g : Nat} {a b c d : Int} (h : w.heap[g]? = some (.cells (faultC a b c d) 27 (0, 0))) :
    w.cell? ⟨g, 0, none⟩ = some (.int .i64 a) ∧ w.cell? ⟨g, 1, none⟩ = some (.int .i64 b) ∧ w.cell? ⟨g, 2, none⟩ = some (.int .i64 c) ∧ w.cell? ⟨g, 3, none⟩ = some (.int .i64 d) ∧ w.cell? ⟨g, 4, none⟩ = some (.string ⟨#[]⟩) :=
  ⟨(cell_row h 0).trans rfl, (cell_row h 1).trans rfl, (cell_row h 2).trans rfl, (cell_row h 3).trans rfl, (cell_row h 4).trans rfl⟩
theorem toks_of_R {w : World} {base : Nat} {ok : Nat → Prop} {v : Value} {l : List S34} (h : Kd.R k34 34 w base ok v l) : Toks w v l := by
  obtain ⟨_, inner, hown, hr⟩ := h
  have hK : Reps (k34.K w) 7 l inner := ⟨hr.1, fun j p hj => by
    have := k34_openM (hr.2 j p hj)
    have e := k34_mk w p
    rw [← this] at e
    exact e⟩
  obtain ⟨A, c, rfl, hC⟩ := own_reads_row hown hK rfl
  exact ⟨A, c, rfl, own_cap hown, hC⟩
theorem num_pure (e : Int) (w : World) : Calls Tryz.prog 16 #[.int .i64 e] w fun en w' => en = .returned (.int .i64 e) ∧ w' = w := by
  go_enter Tryz.func16, Tryz.ntmps16
  go_wp2
  go_ret
  exact ⟨rfl, rfl⟩
theorem law_back_none (A : Option Addr) (c : Nat) (l : List S34) (w : World) (hC : Kd.C k34 w A l.length l) (hc : l.length ≤ c) (hwf : ∀ x ∈ l, 0 ≤ x.f3 ∧ x.f3 < 4294967296) (hb : bulkS l ≤ 1048576) (hG : Glob w) (hj : joinF l = none) :
    Calls Tryz.prog 7 #[.slice A l.length c] w fun e w' => e = .returned (.bool true) ∧ Below w.heap.size w w' := by
  have HG := Lib.hid hG
  have HJ := Lib.hid (join_val A c l w hC hc hwf hb hG)
  rw [hj] at HJ
  clear hG hC hc hwf hb hj
  go_enter Tryz.func7, Tryz.ntmps7
  go_wp2_with (first
    | (go_at_call 17; refine HJ.out.mono ?_; rintro e w2 ⟨rfl, hB2⟩; have B2 := Lib.hid hB2; clear hB2)
    | (go_at_call 16; refine (num_pure _ _).mono ?_; rintro e w4 ⟨rfl, rfl⟩)
    | (go_at_call 13; refine (alive_calls _ (HG.out.below B2.out)).mono ?_; rintro e w6 ⟨rfl, hB6⟩; have B6 := Lib.hid (B2.out.trans (hB6.mono B2.out.size)); clear hB6))
  go_ret
  exact ⟨rfl, B6.out⟩
theorem law_back_long (A : Option Addr) (c : Nat) (l : List S34) (w : World) (hC : Kd.C k34 w A l.length l) (hc : l.length ≤ c) (hwf : ∀ x ∈ l, 0 ≤ x.f3 ∧ x.f3 < 4294967296) (hb : bulkS l ≤ 1048576) (hG : Glob w) (ss : List Bs) (hj : joinF l = some ss) (hs : 262144 < (Lib.join ss [32]).length) :
    Calls Tryz.prog 7 #[.slice A l.length c] w fun e w' => e = .returned (.bool true) ∧ Below w.heap.size w w' := by
  have HG := Lib.hid hG
  have HJ := Lib.hid (join_val A c l w hC hc hwf hb hG)
  rw [hj] at HJ
  have hz : (⟨(Lib.join ss [32]).toArray⟩ : ByteArray).size = (Lib.join ss [32]).length := by simp [ByteArray.size]
  clear hG hC hc hwf hb hj
  simp only at HJ
  generalize (⟨(Lib.join ss [32]).toArray⟩ : ByteArray) = s at HJ hz
  have dl : decide ((262144 : Int) < (s.size : Int)) = true := decide_eq_true (by omega)
  clear hs hz
  go_enter Tryz.func7, Tryz.ntmps7
  go_wp2_with (first
    | (go_at_call 17; refine HJ.out.mono ?_; rintro e w2 ⟨rfl, hB2⟩; have B2 := Lib.hid hB2; clear hB2)
    | (go_at_call 16; refine (num_pure _ _).mono ?_; rintro e w4 ⟨rfl, rfl⟩)
    | (go_at_call 13; refine (alive_calls _ (HG.out.below B2.out)).mono ?_; rintro e w6 ⟨rfl, hB6⟩; have B6 := Lib.hid (B2.out.trans (hB6.mono B2.out.size)); clear hB6))
  go_ret
  exact ⟨rfl, B6.out⟩
theorem S34_eta (x : S34) (w : World) (base : Nat) (ok : Nat → Prop) : k34.M w base ok x [.int .i64 x.f0, .int .i64 x.f1.f0, .int .i64 x.f1.f1, .int .i64 x.f1.f2, .string x.f2, .int .u32 x.f3, .bool x.f4] := k34_mkM w base ok x
theorem keep_take (l : List S34) (j : Nat) (x : S34) (h : l[j]? = some x) : (l.take (j + 1)).filter keepB = (l.take j).filter keepB ++ (if keepB x then [x] else []) := by
  rw [List.take_add_one, h, List.filter_append]
  congr 1
  cases hk : keepB x <;> simp [hk]
set_option maxHeartbeats 8000000 in
theorem law_back_short (A : Option Addr) (c : Nat) (l : List S34) (w : World) (hC : Kd.C k34 w A l.length l) (hc : l.length ≤ c) (hwf : ∀ x ∈ l, 0 ≤ x.f3 ∧ x.f3 < 4294967296) (hb : bulkS l ≤ 1048576) (hG : Glob w) (ss : List Bs) (hj : joinF l = some ss) (hs : (Lib.join ss [32]).length ≤ 262144) :
    Calls Tryz.prog 7 #[.slice A l.length c] w fun e w' => e = .returned (.bool true) ∧ Below w.heap.size w w' := by
  have HG := Lib.hid hG
  have HL := Lib.hid hC
  have hn := len_bulk l
  have HN := Lib.hid (show l.length ≤ 1048576 by omega)
  have HJ := Lib.hid (join_val A c l w hC hc hwf hb hG)
  rw [hj] at HJ
  have hz : (⟨(Lib.join ss [32]).toArray⟩ : ByteArray).size = (Lib.join ss [32]).length := by simp [ByteArray.size]
  obtain ⟨L, hsc, hL0, hLn, hal⟩ := back_scan l ss hj hwf hs
  have HS1 : Hid (∀ W, Glob W → Calls Tryz.prog 10 #[.string ⟨(Lib.join ss [32]).toArray⟩] W fun e w' => (∃ g c, e = .returned (.tuple #[.slice (some ⟨g, 0, none⟩) L.length c, .agg #[.int .i64 0, .int .i64 0, .int .i64 0, .int .i64 0, .string ⟨#[]⟩]]) ∧ w'.ownsRow W.heap.size 34 7 (.slice (some ⟨g, 0, none⟩) L.length c) L.length (cellsL (Lib.join ss [32]) L)) ∧ Below W.heap.size W w') := Lib.hid (fun W hW => (fscan_calls ⟨(Lib.join ss [32]).toArray⟩ W (by rw [hz]; omega) hW).mono fun e w' h => by
    unfold FScanPost at h
    rw [show (⟨(Lib.join ss [32]).toArray⟩ : ByteArray).data.toList = Lib.join ss [32] from rfl, hsc] at h
    obtain ⟨hB, v, he, ho⟩ := h
    obtain ⟨g, cap, rfl, _, _⟩ := ho.form hL0
    exact ⟨⟨g, cap, he, ho⟩, hB⟩)
  have HAL : Hid (∀ W b g c v, W.ownsRow b 34 7 (.slice (some ⟨g, 0, none⟩) L.length c) L.length (cellsL (Lib.join ss [32]) L) → Toks W v (l.filter keepB ++ [z34]) →
      Calls Tryz.prog 21 #[.slice (some ⟨g, 0, none⟩) L.length c, v] W fun e w' => e = .returned (.bool true) ∧ Below W.heap.size W w') :=
    Lib.hid (fun W b g c v h1 h2 => alike_toks (toks_of_own h1) h2 (by rw [List.length_map]; omega) hal)
  simp only at HJ
  clear hG hC hc hwf hb hj hn hsc hL0 hal
  generalize cellsL (Lib.join ss [32]) L = CL at HS1 HAL
  generalize (⟨(Lib.join ss [32]).toArray⟩ : ByteArray) = s at HJ hz HS1
  have dl : decide ((262144 : Int) < (s.size : Int)) = false := decide_eq_false (by omega)
  clear hs hz
  generalize L.length = m at *
  have feq : ∀ W, (binOp .neq 27 (.agg #[.int .i64 0, .int .i64 0, .int .i64 0, .int .i64 0, .string ⟨#[]⟩]) (.agg #[.int .i64 0, .int .i64 0, .int .i64 0, .int .i64 0, .string ⟨#[]⟩])).run Tryz.prog W = .ok (.bool false) W := fun _ => by kernel_rfl
  go_enter Tryz.func7, Tryz.ntmps7
  go_wp2_with (first
    | (go_at_call 17; refine HJ.out.mono ?_; rintro e w1 ⟨rfl, hB1⟩; have B1 := Lib.hid hB1; clear hB1)
    | (go_at_call 16; refine (num_pure _ _).mono ?_; rintro e w4 ⟨rfl, rfl⟩)
    | (go_at_call 10; refine (HS1.out _ (HG.out.below B1.out)).mono ?_; rintro e w2 ⟨⟨g, cp, rfl, ho2⟩, hB2⟩; have B2 := Lib.hid (B1.out.trans (hB2.mono B1.out.size)); have O2 := Lib.hid ho2; clear ho2 hB2)
    | (refine run_event rfl (.alloc 27) rfl (.pointer (some ⟨w2.heap.size, 0, none⟩)) (w2.alloc (.cells (faultC 0 0 0 0) 27)) (by kernel_rfl) ?_; intro w3 hw3; have B3 : Hid (Below w2.heap.size w2 w3) := Lib.hid (by rw [hw3]; exact alloc_below _ _); have G3 : Hid (w3.heap[w2.heap.size]? = some (.cells (faultC 0 0 0 0) 27 (0, 0))) := Lib.hid (by rw [hw3]; exact heap_alloc_new _ _); clear hw3)
    | ((with_reducible refine gate_store (t := 27) (p := 6) rfl ?_); refine put_event rfl 27 _ _ rfl w2.heap.size (faultC 0 0 0 0) rfl rfl 27 (faultC 0 0 0 0) G3.out (by kernel_rfl) rfl (fault_all _ _ _ _) w2.heap.size (Nat.le_refl _) ?_; intro w5 hb5 hB5 hs5 ho5; have B5 : Hid (Below w2.heap.size w2 w5) := Lib.hid (B3.out.trans hB5); obtain ⟨a0, a1, a2, a3, a4⟩ := cells_fault hb5; clear hb5 hB5 hs5 ho5))
  clear a0 a1 a2 a3 a4
  have BW : Hid (Below w.heap.size w w5) := Lib.hid (B2.out.trans (B5.out.mono B2.out.size))
  have O5 := Lib.hid (pw_own_below O2.out B5.out)
  have HLW := Lib.hid (Kd.C_below HL.out BW.out)
  clear G3 B3 B5 O2 B2 B1 HL
  go_loopw [7, 8] (fun v q wr => ∃ j : Nat, q = .int .i64 (j : Int) ∧ j ≤ l.length ∧ Hid (Kd.R k34 34 wr w5.heap.size (fun _ => True) v ((l.take j).filter keepB)) ∧ Hid (Below w5.heap.size w5 wr)) (fun _ q _ => l.length - (intOf q).toNat)
  case atStart => exact ⟨0, by go_num, by omega, Lib.hid (Kd.R_nil _ _ _ _ _), Lib.hid (Below.refl _ _)⟩
  case round =>
    obtain ⟨j, rfl, hj, R, B⟩ := hrel
    have hm := HN.out
    by_cases hlt : j < l.length
    · obtain ⟨ad, ea, x0, x1, x2, x3, x4, x5, x6⟩ := at_T34 HLW.out (j : Int) (by omega) (by omega)
      cases ea
      simp only [Int.toNat_natCast] at x0 x1 x2 x3 x4 x5 x6
      have hx : l[j]? = some (rd_T34 l (j : Int)) := by rw [rd_get l j hlt]; exact List.getElem?_eq_getElem hlt
      have HK := Lib.hid (keep_take l j _ hx)
      clear hx
      replace x0 := (B.out.cell (World.block_lt_of_cell? w5 _ x0)).trans x0
      replace x1 := (B.out.cell (World.block_lt_of_cell? w5 _ x1)).trans x1
      replace x2 := (B.out.cell (World.block_lt_of_cell? w5 _ x2)).trans x2
      replace x3 := (B.out.cell (World.block_lt_of_cell? w5 _ x3)).trans x3
      replace x4 := (B.out.cell (World.block_lt_of_cell? w5 _ x4)).trans x4
      replace x5 := (B.out.cell (World.block_lt_of_cell? w5 _ x5)).trans x5
      replace x6 := (B.out.cell (World.block_lt_of_cell? w5 _ x6)).trans x6
      have hfl : ((l.take j).filter keepB).length ≤ 1048576 := by
        have h1 := List.length_filter_le keepB (l.take j)
        have h2 := List.length_take_le j l
        omega
      have HF := Lib.hid hfl
      clear hfl
      generalize rd_T34 l (j : Int) = x at x0 x1 x2 x3 x4 x5 x6 HK
      by_cases hk : x.f0 = 0
      · have HKK : Hid ((l.take (j + 1)).filter keepB = (l.take j).filter keepB) := Lib.hid (by rw [HK.out]; simp [keepB, hk])
        rw [hk] at x0
        clear hk
        go_wp2_with fail
        refine ⟨⟨j + 1, by go_num, by omega, Lib.hid (by rw [HKK.out]; exact R.out), B⟩, by simp [intOf]; omega⟩
      · have HKK : Hid ((l.take (j + 1)).filter keepB = (l.take j).filter keepB ++ [x]) := Lib.hid (by rw [HK.out]; simp [keepB, hk])
        have dk : (x.f0 != 0) = true := by simp [hk]
        clear hk
        go_wp2_with (first
          | (at_builtin; refine Kd.R_append (w0 := w5) k34 w5.heap.size rfl (.tmp 57) (.tmp 62) 22 34 (.agg tok0) 56 rfl Tryz.underlying22 (by kernel_rfl) rfl (by decide) (by decide) _ ((l.take j).filter keepB) x _ (fun _ => True) (fun _ => False) rfl rfl (k34_mkM _ _ _ x) (fun k hk => hk.elim) (fun _ _ => trivial) R.out B.out B.out.size (by have := HF.out; omega) ?_; intro v9 w9 hR9 hB9 _ _; have R9 := Lib.hid hR9; have B9 := Lib.hid hB9; clear hR9 hB9))
        refine ⟨⟨j + 1, by go_num, by omega, Lib.hid (by rw [HKK.out]; exact R9.out), B9⟩, by simp [intOf]; omega⟩
    · obtain rfl : j = l.length := by omega
      have HF : Hid (Kd.R k34 34 wr w5.heap.size (fun _ => True) _ (l.filter keepB)) := Lib.hid (by have := R.out; rw [List.take_length] at this; exact this)
      have hfl : (l.filter keepB).length ≤ 1048576 := by
        have h1 := List.length_filter_le keepB l
        omega
      have HFL := Lib.hid hfl
      clear hfl R
      go_wp2_with (first
        | (at_builtin; refine Kd.R_append (w0 := w5) k34 w5.heap.size rfl (.tmp 65) (.tmp 67) 22 34 (.agg tok0) 56 rfl Tryz.underlying22 (by kernel_rfl) rfl (by decide) (by decide) _ (l.filter keepB) z34 _ (fun _ => True) (fun _ => False) rfl rfl (k34_mkM _ _ _ z34) (fun k hk => hk.elim) (fun _ _ => trivial) HF.out B.out B.out.size (by have := HFL.out; omega) ?_; intro v9 w9 hR9 hB9 _ _; have R9 := Lib.hid hR9; have B9 := Lib.hid hB9; clear hR9 hB9)
        | (go_at_call 21; refine (HAL.out _ _ _ _ _ (pw_own_below O5.out B9.out) (toks_of_R R9.out)).mono ?_; rintro e w10 ⟨rfl, hB10⟩; have B10 := Lib.hid (BW.out.trans ((B9.out.trans (hB10.mono B9.out.size)).mono BW.out.size)); clear hB10)
        | (go_at_call 13; refine (alive_calls _ (HG.out.below B10.out)).mono ?_; rintro e w12 ⟨rfl, hB12⟩; have B12 := Lib.hid (B10.out.trans (hB12.mono B10.out.size)); clear hB12))
      go_ret
      exact ⟨rfl, B12.out⟩
theorem law_back (A : Option Addr) (c : Nat) (l : List S34) (w : World) (hC : Kd.C k34 w A l.length l) (hc : l.length ≤ c) (hwf : ∀ x ∈ l, 0 ≤ x.f3 ∧ x.f3 < 4294967296) (hb : bulkS l ≤ 1048576) (hG : Glob w) :
    Calls Tryz.prog 7 #[.slice A l.length c] w fun e w' => e = .returned (.bool true) ∧ Below w.heap.size w w' := by
  cases hj : joinF l with
  | none => exact law_back_none A c l w hC hc hwf hb hG hj
  | some ss =>
    by_cases hs : (Lib.join ss [32]).length ≤ 262144
    · exact law_back_short A c l w hC hc hwf hb hG ss hj hs
    · exact law_back_long A c l w hC hc hwf hb hG ss hj (by omega)
end Go.Proofs.YtpecmmicndcgjaaGreatDoor.Tok
