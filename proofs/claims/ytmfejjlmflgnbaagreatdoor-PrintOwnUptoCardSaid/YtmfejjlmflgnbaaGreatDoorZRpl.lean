/- CONTRACT: (*strings.byteStringReplacer).Replace, and a quoting Replacer's Replace, whole. -/
import Derived.Test.YtmfejjlmflgnbaaGreatDoorZRep
import Derived.Deep.Cut
import Derived.Deep.RegionLaw
import Derived.Laws.CopyOwn
namespace Go.Proofs.YtmfejjlmflgnbaaGreatDoor.Tok
open Go.RowKit Go.Proofs.YtmfejjlmflgnbaaGreatDoor.PA Go.Proofs.YtmfejjlmflgnbaaGreatDoorW.PrintWords Go.Proofs.YtmfejjlmflgnbaaGreatDoorW.PrintLast Go.Proofs.YtmfejjlmflgnbaaGreatDoor.Sp
set_option linter.unusedVariables false
set_option linter.unusedSimpArgs false
set_option maxRecDepth 100000

def cnt (l : Bs) : Nat := l.count 34 + l.count 92
theorem cnt_cons (c : UInt8) (l : Bs) : cnt (c :: l) = (if c = 34 ∨ c = 92 then 1 else 0) + cnt l := by
  unfold cnt
  rw [List.count_cons, List.count_cons]
  by_cases h1 : c = 34
  · subst h1; simp; omega
  · by_cases h2 : c = 92
    · subst h2; simp; omega
    · simp [h1, h2]
theorem cnt_append (a b : Bs) : cnt (a ++ b) = cnt a + cnt b := by
  unfold cnt; rw [List.count_append, List.count_append]; omega
theorem escT_append (a b : Bs) : escT (a ++ b) = escT a ++ escT b := by
  induction a with
  | nil => rfl
  | cons c r ih =>
    show (if c = 34 ∨ c = 92 then _ else _) = (if c = 34 ∨ c = 92 then _ else _) ++ _
    split <;> simp [ih]
theorem escT_len (l : Bs) : (escT l).length = l.length + cnt l := by
  induction l with
  | nil => rfl
  | cons c r ih =>
    rw [cnt_cons]
    show (if c = 34 ∨ c = 92 then 92 :: c :: escT r else c :: escT r).length = _
    split <;> simp [ih] <;> omega
theorem escT_none (l : Bs) (h : cnt l = 0) : escT l = l := by
  induction l with
  | nil => rfl
  | cons c r ih =>
    rw [cnt_cons] at h
    show (if c = 34 ∨ c = 92 then _ else c :: escT r) = _
    split at h
    · omega
    · rename_i h1
      rw [if_neg h1, ih (by omega)]
theorem cnt_take (s : ByteArray) (n : Nat) (h : n < s.size) : cnt (s.data.toList.take (n + 1)) = cnt (s.data.toList.take n) + (if s[n] = 34 ∨ s[n] = 92 then 1 else 0) := by
  have hl : n < s.data.toList.length := by rw [Array.length_toList]; exact h
  rw [List.take_succ_eq_append_getElem hl, cnt_append]
  congr 1
  rw [cnt_cons]
  rfl

theorem cnt_le (l : Bs) : cnt l ≤ l.length * 2 := by
  have h1 : l.count 34 ≤ l.length := List.count_le_length
  have h2 : l.count 92 ≤ l.length := List.count_le_length
  unfold cnt
  omega
theorem Repl.special {B R q p t cq cp ct : Nat} {w : World} (h : Repl B R w q p t cq cp ct) (c : UInt8) (hc : c = 34 ∨ c = 92) : ∃ ad cc, w.cell? ⟨R, c.toNat, none⟩ = some (.slice (some ad) 2 cc) := by
  rcases hc with rfl | rfl
  · exact ⟨_, _, h.bs.c 34 (by omega)⟩
  · exact ⟨_, _, h.bs.c 92 (by omega)⟩
theorem Repl.normal {B R q p t cq cp ct : Nat} {w : World} (h : Repl B R w q p t cq cp ct) (c : UInt8) (hc : ¬ (c = 34 ∨ c = 92)) : w.cell? ⟨R, c.toNat, none⟩ = some (.slice none 0 0) := by
  have := h.bs.c c.toNat c.toNat_lt
  have h1 : ¬ c.toNat = 34 := fun e => hc (.inl (UInt8.toNat_inj.1 (by simpa using e)))
  have h2 : ¬ c.toNat = 92 := fun e => hc (.inr (UInt8.toNat_inj.1 (by simpa using e)))
  rw [if_neg h1, if_neg h2] at this
  exact this
theorem nil_ne (wx : World) : (Go.binOp .neq 95 (Value.slice none 0 0) (Value.slice none 0 0)).run Tryz.prog wx = .ok (.bool false) wx := by kernel_rfl
theorem some_ne (a : Addr) (l c : Nat) (wx : World) : (Go.binOp .neq 95 (Value.slice (some a) l c) (Value.slice none 0 0)).run Tryz.prog wx = .ok (.bool true) wx := by kernel_rfl
theorem Repl.both {B R q p t cq cp ct : Nat} {w : World} (h : Repl B R w q p t cq cp ct) (c : UInt8) (hc : c = 34 ∨ c = 92) : ∃ g' cc, w.cell? ⟨R, c.toNat, none⟩ = some (.slice (some ⟨g', 0, none⟩) 2 cc) ∧ w.rangeAt g' 0 (cellsU8 [92, c]) ∧ g' < w.heap.size := by
  rcases hc with rfl | rfl
  · exact ⟨_, _, h.bs.c 34 (by omega), h.rq, h.lq⟩
  · exact ⟨_, _, h.bs.c 92 (by omega), h.rp, h.lp⟩
structure RInv (s : ByteArray) (wc : World) (N n : Nat) (wr : World) : Prop where
  hn : n ≤ s.size
  row : wr.heap[wc.heap.size]? = some (.cells (cellsU8 (escT (s.data.toList.take n)) ++ List.replicate (N - (escT (s.data.toList.take n)).length) (Value.int .u8 0)).toArray 5 (0, 0))
  bel : Below wc.heap.size wc wr
theorem made_zeros (N : Nat) : madeCells #[Value.int .u8 0] N = (List.replicate N (Value.int .u8 0)).toArray := by
  apply Array.ext
  · simp [size_madeCells]
  · intro i h1 h2
    have : i % 1 = 0 := Nat.mod_one i
    simp [madeCells, this]
theorem RInv.start (s : ByteArray) (wc : World) (N : Nat) : RInv s wc N 0 (wc.alloc (.cells (madeCells #[Value.int .u8 0] N) 5)) :=
  ⟨Nat.zero_le _, by rw [made_zeros]; exact heap_alloc_new wc _, (Below.refl _ _).alloc (Nat.le_refl _) _⟩
theorem esc_take (s : ByteArray) (n : Nat) (h : n < s.size) : escT (s.data.toList.take (n + 1)) = escT (s.data.toList.take n) ++ (if s[n] = 34 ∨ s[n] = 92 then [92, s[n]] else [s[n]]) := by
  have hl : n < s.data.toList.length := by rw [Array.length_toList]; exact h
  rw [List.take_succ_eq_append_getElem hl, escT_append]
  congr 1
theorem esc_take_le (s : ByteArray) (n : Nat) : (escT (s.data.toList.take n)).length ≤ (escT s.data.toList).length := by
  have : escT s.data.toList = escT (s.data.toList.take n) ++ escT (s.data.toList.drop n) := by rw [← escT_append, List.take_append_drop]
  rw [this, List.length_append]
  omega
theorem zeros_splice (l x : Bs) (N : Nat) (h : l.length + x.length ≤ N) : splice (cellsU8 l ++ List.replicate (N - l.length) (Value.int .u8 0)) l.length (cellsU8 x) = cellsU8 (l ++ x) ++ List.replicate (N - (l ++ x).length) (Value.int .u8 0) := by
  have e1 : (cellsU8 l).length = l.length := by simp [cellsU8]
  have e2 : (cellsU8 x).length = x.length := by simp [cellsU8]
  unfold splice
  have e3 : (cellsU8 l ++ List.replicate (N - l.length) (Value.int .u8 0)).take l.length = cellsU8 l := by rw [← e1]; simp
  rw [e3, e2, List.drop_append, e1]
  have e4 : (cellsU8 l).drop (l.length + x.length) = [] := List.drop_eq_nil_of_le (by omega)
  rw [e4]
  simp only [cellsU8, List.map_append, List.nil_append, List.append_assoc, List.drop_replicate, List.length_append]
  congr 3
  omega
theorem splice_one (L : List Value) (j : Nat) (v : Value) (h : j < L.length) : (L.toArray.setIfInBounds j v) = (splice L j [v]).toArray := by
  unfold splice
  rw [List.setIfInBounds_toArray, List.set_eq_take_append_cons_drop, if_pos h]
  rfl
set_option maxHeartbeats 4000000 in
theorem bsrep_calls (B R q p t cq cp ct : Nat) (s : ByteArray) (w : World) (hR : Repl B R w q p t cq cp ct) (hs : s.size ≤ 65536) :
    Calls Tryz.prog 256 #[.pointer (some ⟨R, 0, none⟩), .string s] w fun e w' => e = .returned (.string ⟨(escT s.data.toList).toArray⟩) ∧ Below w.heap.size w w' := by
  have hct := hR.bs.t
  have HR := Lib.hid hR
  clear hR
  have n0 := nil_ne
  have n1 := some_ne
  go_enter Tryz.func256, Tryz.ntmps256
  go_upto_if 26 with fail
  go_cut [5, 6] from 16 (fun n ch wx => n = .int .i64 ((s.size + cnt s.data.toList : Nat) : Int) ∧ ch = .bool (decide (cnt s.data.toList ≠ 0)) ∧ Below w.heap.size w wx)
  case first =>
    by_cases hlong : 16 ≤ s.size
    · have d1 : decide ((16 : Int) ≤ (s.size : Int)) = true := decide_eq_true (by omega)
      have x0 : sQ[0]'(by decide) = 34 := rfl
      have x1 : sB[0]'(by decide) = 92 := rfl
      have k0 : sQ.size = 1 := rfl
      have k1 : sB.size = 1 := rfl
      have ht0 := HR.out.t0
      have ht1 := HR.out.t1
      have hc34 : w.cell? ⟨R, 34, none⟩ = some (.slice (some ⟨q, 0, none⟩) 2 cq) := HR.out.bs.c 34 (by omega)
      have hc92 : w.cell? ⟨R, 92, none⟩ = some (.slice (some ⟨p, 0, none⟩) 2 cp) := HR.out.bs.c 92 (by omega)
      have hcn : cnt s.data.toList = Lib.countByte s.data.toList 34 + Lib.countByte s.data.toList 92 := rfl
      have q34 := fun wx => Tryz.strings_Count_one s 34 wx
      have q92 := fun wx => Tryz.strings_Count_one s 92 wx
      have hs34 : Lib.countByte s.data.toList 34 ≤ s.size := Nat.le_trans List.count_le_length (by rw [Array.length_toList]; exact Nat.le_refl _)
      have hs92 : Lib.countByte s.data.toList 92 ≤ s.size := Nat.le_trans List.count_le_length (by rw [Array.length_toList]; exact Nat.le_refl _)
      generalize Lib.countByte s.data.toList 34 = n34 at hcn q34 hs34
      generalize Lib.countByte s.data.toList 92 = n92 at hcn q92 hs92
      have HC := Lib.hid hcn
      clear hcn
      by_cases hn34 : n34 = 0
      · by_cases hn92 : n92 = 0
        · have HN := Lib.hid (And.intro hn34 hn92)
          have z34 : (((n34 : Nat) : Int) != 0) = false := by simp [hn34]
          have z92 : (((n92 : Nat) : Int) != 0) = false := by simp [hn92]
          clear hn34 hn92
          go_wp2_with fail
          refine wp_loop_rounds 3 ?_
          rw [rounds_succ]
          go_wp2_with (first | (go_at_call 258; refine (q34 _).mono ?_; rintro e w' ⟨rfl, hw⟩; obtain rfl := hw.symm))
          rw [rounds_succ]
          go_wp2_with (first | (go_at_call 258; refine (q92 _).mono ?_; rintro e w' ⟨rfl, hw⟩; obtain rfl := hw.symm))
          rw [rounds_succ]
          go_wp2_with fail
          go_meet
          case rel =>
            have hC := HC.out
            have hN := HN.out
            refine ⟨by rw [Value.int.injEq]; exact ⟨rfl, by omega⟩, ?_, ⟨rfl, rfl, rfl, Nat.le_refl _, fun _ _ => rfl⟩⟩
            rw [Value.bool.injEq, eq_comm]
            first | exact decide_eq_true (by omega) | exact decide_eq_false (by omega)
        · have HN := Lib.hid (And.intro hn34 hn92)
          have z34 : (((n34 : Nat) : Int) != 0) = false := by simp [hn34]
          have z92 : (((n92 : Nat) : Int) != 0) = true := by simp; omega
          clear hn34 hn92
          go_wp2_with fail
          refine wp_loop_rounds 3 ?_
          rw [rounds_succ]
          go_wp2_with (first | (go_at_call 258; refine (q34 _).mono ?_; rintro e w' ⟨rfl, hw⟩; obtain rfl := hw.symm))
          rw [rounds_succ]
          go_wp2_with (first | (go_at_call 258; refine (q92 _).mono ?_; rintro e w' ⟨rfl, hw⟩; obtain rfl := hw.symm))
          go_quiet (fail)
          go_wp2_with fail
          rw [rounds_succ]
          go_wp2_with fail
          go_meet
          case rel =>
            have hC := HC.out
            have hN := HN.out
            refine ⟨by rw [Value.int.injEq]; exact ⟨rfl, by omega⟩, ?_, ⟨rfl, rfl, rfl, Nat.le_refl _, fun _ _ => rfl⟩⟩
            rw [Value.bool.injEq, eq_comm]
            first | exact decide_eq_true (by omega) | exact decide_eq_false (by omega)
      · by_cases hn92 : n92 = 0
        · have HN := Lib.hid (And.intro hn34 hn92)
          have z34 : (((n34 : Nat) : Int) != 0) = true := by simp; omega
          have z92 : (((n92 : Nat) : Int) != 0) = false := by simp [hn92]
          clear hn34 hn92
          go_wp2_with fail
          refine wp_loop_rounds 3 ?_
          rw [rounds_succ]
          go_wp2_with (first | (go_at_call 258; refine (q34 _).mono ?_; rintro e w' ⟨rfl, hw⟩; obtain rfl := hw.symm))
          go_quiet (fail)
          go_wp2_with fail
          rw [rounds_succ]
          go_wp2_with (first | (go_at_call 258; refine (q92 _).mono ?_; rintro e w' ⟨rfl, hw⟩; obtain rfl := hw.symm))
          rw [rounds_succ]
          go_wp2_with fail
          go_meet
          case rel =>
            have hC := HC.out
            have hN := HN.out
            refine ⟨by rw [Value.int.injEq]; exact ⟨rfl, by omega⟩, ?_, ⟨rfl, rfl, rfl, Nat.le_refl _, fun _ _ => rfl⟩⟩
            rw [Value.bool.injEq, eq_comm]
            first | exact decide_eq_true (by omega) | exact decide_eq_false (by omega)
        · have HN := Lib.hid (And.intro hn34 hn92)
          have z34 : (((n34 : Nat) : Int) != 0) = true := by simp; omega
          have z92 : (((n92 : Nat) : Int) != 0) = true := by simp; omega
          clear hn34 hn92
          go_wp2_with fail
          refine wp_loop_rounds 3 ?_
          rw [rounds_succ]
          go_wp2_with (first | (go_at_call 258; refine (q34 _).mono ?_; rintro e w' ⟨rfl, hw⟩; obtain rfl := hw.symm))
          go_quiet (fail)
          go_wp2_with fail
          rw [rounds_succ]
          go_wp2_with (first | (go_at_call 258; refine (q92 _).mono ?_; rintro e w' ⟨rfl, hw⟩; obtain rfl := hw.symm))
          go_quiet (fail)
          go_wp2_with fail
          rw [rounds_succ]
          go_wp2_with fail
          go_meet
          case rel =>
            have hC := HC.out
            have hN := HN.out
            refine ⟨by rw [Value.int.injEq]; exact ⟨rfl, by omega⟩, ?_, ⟨rfl, rfl, rfl, Nat.le_refl _, fun _ _ => rfl⟩⟩
            rw [Value.bool.injEq, eq_comm]
            first | exact decide_eq_true (by omega) | exact decide_eq_false (by omega)
    · have d1 : decide ((16 : Int) ≤ (s.size : Int)) = false := decide_eq_false (by omega)
      go_wp2_with fail
      go_loopw [5, 6, 10] (fun a b c wx => ∃ n : Nat, n ≤ s.size ∧ a = .int .i64 ((s.size + cnt (s.data.toList.take n) : Nat) : Int) ∧ b = .bool (decide (cnt (s.data.toList.take n) ≠ 0)) ∧ c = .int .i64 (n : Nat) ∧ wx = w) (fun _ _ c _ => s.size - (intOf c).toNat)
      case atStart => exact ⟨0, Nat.zero_le _, rfl, rfl, rfl, rfl⟩
      case round =>
        obtain ⟨n, hn, rfl, rfl, rfl, rfl⟩ := hrel
        by_cases hlt : n < s.size
        · have hct2 := Lib.hid (cnt_take s n hlt)
          have d2 : decide ((n : Int) < (s.size : Int)) = true := decide_eq_true (by omega)
          have hle : cnt (s.data.toList.take n) ≤ 65536 * 2 := Nat.le_trans (cnt_le _) (by simp; omega)
          generalize hcn : cnt (s.data.toList.take n) = cn at hct2 hle
          have hb8 : (0 : Int) ≤ (s[n].toNat : Int) ∧ (s[n].toNat : Int) < 256 := ⟨by omega, by have := s[n].toNat_lt; omega⟩
          have hb9 : ¬ (256 : Int) ≤ (s[n].toNat : Int) := by omega
          by_cases hsp : s[n] = 34 ∨ s[n] = 92
          · obtain ⟨ad, cc, hcell⟩ := HR.out.special s[n] hsp
            have HS := Lib.hid hsp
            have HCN := Lib.hid hcn
            clear hsp hcn
            go_wp2_with fail
            go_roundw
            case rel =>
              refine ⟨n + 1, by omega, ?_, ?_, by first | exact ⟨by go_num, rfl⟩ | exact ⟨by go_num, trivial⟩⟩
              · have := hct2.out
                rw [if_pos HS.out] at this
                rw [this, Value.int.injEq]
                exact ⟨rfl, by omega⟩
              · have := hct2.out
                rw [if_pos HS.out] at this
                rw [this]
                simp
            case measure => simp only [intOf]; omega
          · have hcell := HR.out.normal s[n] hsp
            have HS := Lib.hid hsp
            have HCN := Lib.hid hcn
            clear hsp hcn
            go_wp2_with fail
            go_roundw
            case rel =>
              refine ⟨n + 1, by omega, ?_, ?_, by first | exact ⟨by go_num, rfl⟩ | exact ⟨by go_num, trivial⟩⟩
              · have := hct2.out
                rw [if_neg HS.out] at this
                rw [this, Value.int.injEq]
                exact ⟨rfl, by omega⟩
              · have := hct2.out
                rw [if_neg HS.out] at this
                rw [this]
                simp
            case measure => simp only [intOf]; omega
        · have d2 : decide ((n : Int) < (s.size : Int)) = false := decide_eq_false (by omega)
          obtain rfl : n = s.size := by omega
          have e : s.data.toList.take s.size = s.data.toList := List.take_of_length_le (by rw [Array.length_toList]; exact Nat.le_refl _)
          rw [e]
          have hle := cnt_le s.data.toList
          generalize hcn : cnt s.data.toList = cn at hle
          have HCN := Lib.hid hcn
          clear hcn e
          go_wp2_with fail
          go_meet
          case rel =>
            rw [HCN.out]
            exact ⟨rfl, rfl, Below.refl _ _⟩
  case rest =>
    obtain ⟨rfl, rfl, hB⟩ := hcut
    have HB := Lib.hid hB
    have HR2 := Lib.hid (HR.out.below hB)
    have hel := escT_len s.data.toList
    have hsl : s.data.toList.length = s.size := by rw [Array.length_toList]; rfl
    rw [hsl] at hel
    by_cases hz : cnt s.data.toList = 0
    · have hq : (decide (cnt s.data.toList ≠ 0)) = false := by simp [hz]
      have he := escT_none _ hz
      have HE := Lib.hid he
      rw [hq]
      clear he hel hz hB
      generalize cnt s.data.toList = cn
      go_wp2_with fail
      go_ret
      rw [HE.out]
      exact ⟨rfl, HB.out⟩
    · have hq : (decide (cnt s.data.toList ≠ 0)) = true := by simp [hz]
      rw [hq, ← hel]
      have hle := cnt_le s.data.toList
      rw [hsl] at hle
      have hN : (escT s.data.toList).length ≤ 65536 * 3 := by omega
      have HEL := Lib.hid hel
      clear hel hz hB hq hle
      generalize hN2 : (escT s.data.toList).length = N at hN
      have HN := Lib.hid hN2
      clear hN2
      have hmk := print_make (P := Tryz.prog) 95 5 .u8 1 Tryz.underlying95 (by kernel_rfl) (by decide) N (by omega)
      go_wp2_with fail
      go_loopw [13, 14] (fun a b wr => ∃ n : Nat, a = .int .i64 ((escT (s.data.toList.take n)).length : Nat) ∧ b = .int .i64 (n : Nat) ∧ RInv s wc N n wr) (fun _ b _ => s.size - (intOf b).toNat)
      case atStart => exact ⟨0, rfl, rfl, RInv.start s wc N⟩
      case round =>
        obtain ⟨n, rfl, rfl, I⟩ := hrel
        have hn := I.hn
        have hjN : (escT (s.data.toList.take n)).length ≤ N := by have := esc_take_le s n; have := HN.out; omega
        by_cases hlt : n < s.size
        · have HT := Lib.hid (esc_take s n hlt)
          have HTL := Lib.hid (show (escT (s.data.toList.take (n + 1))).length ≤ N by have := esc_take_le s (n + 1); have := HN.out; omega)
          have d2 : decide ((n : Int) < (s.size : Int)) = true := decide_eq_true (by omega)
          have hb8 : (0 : Int) ≤ (s[n].toNat : Int) ∧ (s[n].toNat : Int) < 256 := ⟨by omega, by have := s[n].toNat_lt; omega⟩
          have hb9 : ¬ (256 : Int) ≤ (s[n].toNat : Int) := by omega
          generalize hj : (escT (s.data.toList.take n)).length = j at hjN
          have HJ := Lib.hid hj
          have HI := Lib.hid I
          clear hj I
          by_cases hsp : s[n] = 34 ∨ s[n] = 92
          · have hj2 : j + 2 ≤ N := by have h1 := HT.out; rw [if_pos hsp] at h1; have h2 := HTL.out; rw [h1, List.length_append, HJ.out] at h2; simpa using h2
            obtain ⟨g', cc, hcell, hrg, hgl⟩ := (HR2.out.below HI.out.bel).both s[n] hsp
            have HG := Lib.hid hrg
            have HS := Lib.hid hsp
            have hslc : ∀ wx, (Instr.slice 95 (.slice (some ⟨wc.heap.size, 0, none⟩) N N) (some (.int .i64 (j : Int))) none none).run Tryz.prog wx = .ok (.slice (some ⟨wc.heap.size, j, none⟩) (N - j) (N - j)) wx := fun wx => by
              have hse : (sizeOf (Tryz.prog.elem 95)).run Tryz.prog wx = .ok 1 wx := by kernel_rfl
              rw [run_slice_l (w := wx) 95 (some ⟨wc.heap.size, 0, none⟩) N N (by kernel_rfl) .i64 _ (by omega) (by omega), hse]
              simp only [Result.andThen, sliced, Int.toNat_natCast]
              rw [if_neg (by omega)]
              simp [Addr.add_mid]
            have hcl : (cellsU8 [92, s[n]]).length = 2 := rfl
            clear hsp hrg
            go_wp2_with fail
            go_region_law (refine step_copy_splice rfl (.tmp 105) (.tmp 111) 95 95 rfl 5 Tryz.underlying95 (by kernel_rfl) (some ⟨wc.heap.size, j, none⟩) (some ⟨g', 0, none⟩) (N - j) (N - j) 2 cc rfl rfl wc.heap.size j _ 5 HI.out.row (cellsU8 [92, s[n]]) (by rw [show Nat.min 2 (N - j) = 2 from Nat.min_eq_left (by omega)]; rfl) (fun _ => ⟨rfl, _, rfl, fun k v hk => by rw [Addr.add_mid]; exact HG.out k v hk⟩) (by simp [cellsU8, HJ.out]; omega) (by simp [cellsU8, Value.oneCell']) wc.heap.size wc HI.out.bel.drew (Nat.le_refl _) ?_; intro w4 hg4 hb4)
            have HF : Hid (RInv s wc N (n + 1) w4) := Lib.hid ⟨by omega, by
              have h1 := HT.out
              rw [if_pos HS.out] at h1
              have h2 := zeros_splice (escT (s.data.toList.take n)) [92, s[n]] N (by rw [HJ.out]; simpa using hj2)
              rw [h1, ← h2]
              have h3 := hg4.out
              rw [← HJ.out] at h3
              exact h3, hb4⟩
            have HL : Hid ((escT (s.data.toList.take (n + 1))).length = j + 2) := Lib.hid (by
              rw [HT.out, if_pos HS.out, List.length_append, HJ.out]; rfl)
            clear hg4 hb4
            go_wp2_with fail
            go_roundw
            case rel => exact ⟨n + 1, by rw [HL.out, Value.int.injEq]; exact ⟨rfl, by omega⟩, by go_num, HF.out⟩
            case measure => simp only [intOf]; omega
          · have hj2 : j + 1 ≤ N := by have h1 := HT.out; rw [if_neg hsp] at h1; have h2 := HTL.out; rw [h1, List.length_append, HJ.out] at h2; simpa using h2
            have hcell := (HR2.out.below HI.out.bel).normal s[n] hsp
            have HS := Lib.hid hsp
            have hth : wr.there wc.heap.size j 1 := fun k hk => by
              obtain rfl : k = 0 := by omega
              rw [Nat.add_zero, cell_row HI.out.row j, frozen_row HI.out.row j]
              refine ⟨?_, rfl⟩
              have : j < (cellsU8 (escT (s.data.toList.take n)) ++ List.replicate (N - (escT (s.data.toList.take n)).length) (Value.int .u8 0)).toArray.size := by simp [cellsU8, HJ.out]; omega
              rw [Array.getElem?_eq_getElem this]; rfl
            have HTH := Lib.hid hth
            have hjb : (0 : Int) ≤ (j : Int) ∧ (j : Int) < (N : Int) := ⟨by omega, by omega⟩
            clear hsp hth
            go_wp2_with (first
              | ((with_reducible refine gate_store (t := 5) (p := 117) rfl ?_); refine cell_event rfl 5 _ _ rfl wc.heap.size j (.int .u8 (s[n].toNat : Int)) rfl rfl rfl HTH.out (by kernel_rfl) wc.heap.size (Nat.le_refl _) ?_; intro w4 hw4 hb4 hs4; have HW := Lib.hid hw4; have HB4 := Lib.hid hb4; clear hw4 hb4 hs4))
            have HF : Hid (RInv s wc N (n + 1) w4) := Lib.hid ⟨by omega, by
              have h1 := HT.out
              rw [if_neg HS.out] at h1
              have h2 := zeros_splice (escT (s.data.toList.take n)) [s[n]] N (by rw [HJ.out]; simpa using hj2)
              have h3 := setCell_row (k := j) HI.out.row (.int .u8 (s[n].toNat : Int))
              rw [h1, ← h2, HW.out]
              refine Eq.trans h3 ?_
              rw [splice_one _ _ _ (by simp [cellsU8, HJ.out]; omega), HJ.out]
              rfl, HI.out.bel.trans HB4.out⟩
            have HL : Hid ((escT (s.data.toList.take (n + 1))).length = j + 1) := Lib.hid (by
              rw [HT.out, if_neg HS.out, List.length_append, HJ.out]; rfl)
            go_roundw
            case rel => exact ⟨n + 1, by rw [HL.out, Value.int.injEq]; exact ⟨rfl, by omega⟩, by go_num, HF.out⟩
            case measure => simp only [intOf]; omega
        · have d2 : decide ((n : Int) < (s.size : Int)) = false := decide_eq_false (by omega)
          obtain rfl : n = s.size := by omega
          have e : s.data.toList.take s.size = s.data.toList := List.take_of_length_le (by rw [Array.length_toList]; exact Nat.le_refl _)
          have hrow := I.row
          rw [e, HN.out, Nat.sub_self] at hrow
          have hcv := run_convert_bytes_arg (P := Tryz.prog) (w := wr) 95 5 Tryz.underlying95 Tryz.underlying5 wc.heap.size 0 N N (ints (escT s.data.toList)) (by rw [ints_len, HN.out]) (fun i hi => by
            rw [cell_row hrow]
            have hi' : i < (escT s.data.toList).length := by rw [HN.out]; exact hi
            simp [cellsU8, ints, List.getD, hi']) 9 Tryz.underlying9
          rw [str_ints] at hcv
          have HI := Lib.hid I
          clear I e hrow
          generalize (escT (s.data.toList.take s.size)).length = j
          go_wp2_with fail
          go_ret
          exact ⟨rfl, HB.out.trans (HI.out.bel.mono HB.out.size)⟩
end Go.Proofs.YtmfejjlmflgnbaaGreatDoor.Tok
