/- CONTRACTS: a number to the base 16: internal/strconv.formatBits, FormatUint. -/
import Derived.Test.YtmfejjlmflgnbaaGreatDoorZBase
import Derived.Test.YtmfejjlmflgnbaaGreatDoorZGlob
import Derived.Test.YtmfejjlmflgnbaaGreatDoorZShelf
import Derived.Lib.ItoaMem
import Derived.Lib.SmallJoins
import Derived.Laws.BytesArg
import Derived.Laws.BitsAllLaws
namespace Go.Proofs.YtmfejjlmflgnbaaGreatDoor.Tok
open Go.RowKit Go.Proofs.YtmfejjlmflgnbaaGreatDoor.PA Go.Proofs.YtmfejjlmflgnbaaGreatDoorW.PrintWords Go.Proofs.YtmfejjlmflgnbaaGreatDoorW.PrintLast Go.Proofs.YtmfejjlmflgnbaaGreatDoor.Sp
set_option linter.unusedVariables false
set_option linter.unusedSimpArgs false

def lowDigit (d : Nat) : UInt8 := if d < 10 then UInt8.ofNat (48 + d) else UInt8.ofNat (87 + d)
def lowF : Nat → Nat → Bs → Bs
  | 0, _, acc => acc
  | f + 1, v, acc => if v < 16 then lowDigit v :: acc else lowF f (v / 16) (lowDigit (v % 16) :: acc)
def digs : ByteArray := ⟨#[48, 49, 50, 51, 52, 53, 54, 55, 56, 57, 97, 98, 99, 100, 101, 102, 103, 104, 105, 106, 107, 108, 109, 110, 111, 112, 113, 114, 115, 116, 117, 118, 119, 120, 121, 122]⟩
theorem digs_at (i : Nat) (h : i < 16) : digs.data.toList.getD i 0 = lowDigit i := by
  have : ∀ i : Fin 16, digs.data.toList.getD i.1 0 = lowDigit i.1 := by decide
  exact this ⟨i, h⟩
theorem idx_digs (k : IntKind) (z : Int) (i : Nat) (hz : z = (i : Int)) (hi : i < 16) (w : World) :
    (Instr.index 9 (.string digs) (.int k z)).run Tryz.prog w = .ok (.int .u8 ((lowDigit i).toNat : Int)) w := by
  subst hz
  have hsz : digs.size = 36 := rfl
  rw [run_index_string w 9 digs k _ Tryz.underlying9, dif_pos ⟨by omega, by rw [hsz]; omega⟩]
  have e : ((i : Int)).toNat = i := by omega
  simp only [e]
  rw [Lib.getD_at, digs_at i hi]

theorem trailing_calls (w : World) (hG : w.cell? ⟨14, 15, none⟩ = some (.int .u8 4)) : Calls Tryz.prog 187 #[.int .u64 16] w fun e w' => e = .returned (.int .i64 4) ∧ w = w' := by
  have e0 : IntKind.u64.wrap (-16) = 18446744073709551600 := by decide +kernel
  have e1 : bits .and .u64 16 18446744073709551600 = 16 := by decide +kernel
  have e2 : IntKind.u64.wrap (16 * 285870213051353865) / 288230376151711744 = 15 := by decide +kernel
  have e3 : IntKind.u64.wrap 4573923408821661840 / 288230376151711744 = 15 := by decide +kernel
  have e4 : IntKind.u64.wrap 4573923408821661840 = 4573923408821661840 := by decide +kernel
  go_enter Tryz.func187, Tryz.ntmps187
  go_wp2
  go_ret
  exact ⟨rfl, rfl⟩
theorem trail_calls (w : World) (hG : w.cell? ⟨14, 15, none⟩ = some (.int .u8 4)) : Calls Tryz.prog 176 #[.int .u64 16] w fun e w' => e = .returned (.int .i64 4) ∧ w = w' := by
  go_enter Tryz.func176, Tryz.ntmps176
  go_wp2_with (first | (go_at_call 187; refine (trailing_calls _ hG).mono ?_; rintro e w' ⟨rfl, rfl⟩))
  go_ret
  exact ⟨rfl, rfl⟩
theorem pow2_calls (w : World) : Calls Tryz.prog 175 #[.int .i64 16] w fun e w' => e = .returned (.bool true) ∧ w = w' := by
  have e1 : bits .and .i64 16 15 = 0 := by decide +kernel
  go_enter Tryz.func175, Tryz.ntmps175
  go_wp2
  go_ret
  exact ⟨rfl, rfl⟩

def cellsU8 (l : Bs) : List Value := l.map fun c => Value.int .u8 (c.toNat : Int)
structure FInv (u : Nat) (w : World) (j u' : Nat) (acc : Bs) (wr : World) : Prop where
  hj : j ≤ 15
  hu : u' < 16 ^ (16 - j)
  hlen : acc.length = j
  there : wr.there w.heap.size 0 65
  row : wr.rangeAt w.heap.size (65 - j) (cellsU8 acc)
  bel : Below w.heap.size w wr
  says : lowF (40 - j) u' acc = lowF 40 u []

theorem FInv.start (u : Nat) (w wr : World) (hu : u < 18446744073709551616) (hth : wr.there w.heap.size 0 65) (hB : Below w.heap.size w wr) : FInv u w 0 u [] wr :=
  ⟨by omega, by simpa using hu, rfl, hth, fun j v hv => by simp [cellsU8] at hv, hB, rfl⟩
theorem and_low (u : Nat) (h : u < 18446744073709551616) : bits .and .u64 (u : Int) 15 = (u : Int) % 16 := by
  have := u64_and_nat u 15 h (by omega)
  rw [show ((15 : Nat) : Int) = 15 from rfl] at this
  rw [this, show (15 : Nat) = 2 ^ 4 - 1 from rfl, Nat.and_two_pow_sub_one_eq_mod]
  omega
theorem slice_arr (g j : Nat) (hj : j ≤ 15) (w : World) : (Instr.sliceAt 284 (.pointer (some ⟨g, 0, none⟩)) (some (.int .i64 ((65 - j : Nat) - 1 : Int))) none none).run Tryz.prog w = .ok (.slice (some ⟨g, 65 - j - 1, none⟩) (j + 1) (j + 1)) w := by
  have ha : Tryz.prog.arrayLen 284 = 65 := by kernel_rfl
  have hs : (sizeOf (Tryz.prog.elem 284)).run Tryz.prog w = .ok 1 w := by kernel_rfl
  rw [run_sliceAt_array_l w 284 ⟨g, 0, none⟩ (by kernel_rfl) .i64 _ (by omega) (by rw [ha]; omega), hs, ha]
  have e : (((65 - j : Nat) : Int) - 1).toNat = 65 - j - 1 := by omega
  have e2 : 65 - (65 - j - 1) = j + 1 := by omega
  simp only [Result.andThen, slicedAt, e, e2]
  rw [if_neg (by omega), Addr.add_mid]
  simp
theorem there_new (w : World) (C : Array Value) (T : TypeId) : (w.alloc (.cells C T)).there w.heap.size 0 C.size := fun j hj => by
  rw [Nat.zero_add, World.cell?_alloc_new]
  exact ⟨by simp [hj], World.frozen?_alloc_new _ _ _ _⟩
theorem there_one {wr : World} {b i : Nat} (h : wr.there b 0 65) (hi : i < 65) : wr.there b i 1 := fun j hj => by
  have := h (i + j) (by omega)
  rw [Nat.zero_add] at this
  exact this
theorem FInv.step {u : Nat} {w : World} {j u' : Nat} {acc : Bs} {wr w1 : World} (h : FInv u w j u' acc wr) (hge : 16 ≤ u')
    (hw : w1 = wr.setCells w.heap.size (65 - j - 1) [.int .u8 ((lowDigit (u' % 16)).toNat : Int)]) (hB : Below w.heap.size wr w1) : FInv u w (j + 1) (u' / 16) (lowDigit (u' % 16) :: acc) w1 := by
  have hj := h.hj
  have hj14 : j ≤ 14 := by
    rcases Nat.lt_or_ge 14 j with h1 | h1
    · have e : j = 15 := by omega
      have := h.hu
      rw [e] at this
      simp at this
      omega
    · exact h1
  have h1 := h.hlen
  subst hw
  refine ⟨by omega, ?_, by simp [h1], World.there_setCells h.there _ _ _, ?_, h.bel.trans hB, ?_⟩
  · have := h.hu
    have e : 16 - j = (16 - (j + 1)) + 1 := by omega
    rw [e, Nat.pow_succ] at this
    omega
  · intro i v hv
    cases i with
    | zero =>
      simp only [cellsU8, List.map_cons, List.getElem?_cons_zero, Option.some.injEq] at hv
      subst hv
      have := World.rangeAt_setCells_same wr w.heap.size (65 - j - 1) [.int .u8 ((lowDigit (u' % 16)).toNat : Int)] (there_one h.there (by omega)) 0 _ rfl
      have e : 65 - (j + 1) = 65 - j - 1 := by omega
      rw [e]
      exact this
    | succ i =>
      have := World.rangeAt_setCells_apart h.row w.heap.size (65 - j - 1) [.int .u8 ((lowDigit (u' % 16)).toNat : Int)] (.inr (.inr (by simp; omega))) i v (by simpa [cellsU8] using hv)
      have e : 65 - (j + 1) + (i + 1) = 65 - j + i := by omega
      rw [e]
      exact this
  · rw [← h.says]
    have e : 40 - j = (40 - (j + 1)) + 1 := by omega
    rw [e, lowF, if_neg (by omega)]
theorem FInv.last {u : Nat} {w : World} {j u' : Nat} {acc : Bs} {wr w1 : World} (h : FInv u w j u' acc wr) (hlt : u' < 16)
    (hw : w1 = wr.setCells w.heap.size (65 - j - 1) [.int .u8 ((lowDigit u').toNat : Int)]) (hB : Below w.heap.size wr w1) :
    (convert 95 9 (.slice (some ⟨w.heap.size, 65 - j - 1, none⟩) (j + 1) (j + 1))).run Tryz.prog w1 = .ok (.string ⟨(lowF 40 u []).toArray⟩) w1 ∧ Below w.heap.size w w1 := by
  have hj := h.hj
  have h1 := h.hlen
  refine ⟨?_, h.bel.trans hB⟩
  have hs : lowF 40 u [] = lowDigit u' :: acc := by
    rw [← h.says]
    have e : 40 - j = (40 - (j + 1)) + 1 := by omega
    rw [e, lowF, if_pos hlt]
  have := run_convert_bytes_arg (P := Tryz.prog) (w := w1) 95 5 Tryz.underlying95 Tryz.underlying5 w.heap.size (65 - j - 1) (j + 1) (j + 1) ((lowDigit u' :: acc).map fun c => (c.toNat : Int)) (by simp [h1]) ?_ 9 Tryz.underlying9
  · rw [this, hs]
    have := str_ints (lowDigit u' :: acc)
    unfold ints at this
    rw [this]
  · intro i hi
    subst hw
    cases i with
    | zero =>
      have := World.rangeAt_setCells_same wr w.heap.size (65 - j - 1) [.int .u8 ((lowDigit u').toNat : Int)] (there_one h.there (by omega)) 0 _ rfl
      simpa using this
    | succ i =>
      have hi' : i < acc.length := by omega
      have := World.rangeAt_setCells_apart h.row w.heap.size (65 - j - 1) [.int .u8 ((lowDigit u').toNat : Int)] (.inr (.inr (by simp; omega))) i (.int .u8 ((acc[i]).toNat : Int)) (by simp [cellsU8, hi'])
      have e : 65 - j - 1 + (i + 1) = 65 - j + i := by omega
      rw [e, this]
      simp [List.getD, hi']

set_option maxHeartbeats 4000000 in
set_option maxRecDepth 100000 in
theorem bits_calls (u : Nat) (w : World) (hu : u < 18446744073709551616) (hG : Glob w) :
    Calls Tryz.prog 165 #[.slice none 0 0, .int .u64 u, .int .i64 16, .bool false, .bool false] w fun e w' => e = .returned (.tuple #[.slice none 0 0, .string ⟨(lowF 40 u []).toArray⟩]) ∧ Below w.heap.size w w' := by
  go_enter Tryz.func165, Tryz.ntmps165
  go_wp2_with (first
    | (go_at_call 175; refine (pow2_calls _).mono ?_; rintro e w' ⟨rfl, rfl⟩)
    | (go_at_call 176; refine (trail_calls _ (cell_below hG.db ((Below.refl _ w).alloc (Nat.le_refl _) _))).mono ?_; rintro e w' ⟨rfl, rfl⟩))
  go_loopw [1, 13] (fun a b wr => ∃ (j u' : Nat) (acc : Bs), a = .int .u64 u' ∧ b = .int .i64 (65 - j : Nat) ∧ FInv u w j u' acc wr) (fun a _ _ => (intOf a).toNat)
  case atStart =>
    refine ⟨0, u, [], by go_num, rfl, FInv.start u w _ hu ?_ ((Below.refl _ w).alloc (Nat.le_refl _) _)⟩
    exact there_new w _ _
  case round =>
    obtain ⟨j, u', acc, rfl, rfl, I⟩ := hrel
    have hj := I.hj
    by_cases hge : 16 ≤ u'
    · have HI := Lib.hid I; clear I
      have d1 : decide ((16 : Int) ≤ (u' : Int)) = true := decide_eq_true (by omega)
      have a1 : bits .and .u64 (u' : Int) 15 = (u' : Int) % 16 := by
        have h1 := and_low u' (by have := HI.out.hu; have : 16 ^ (16 - j) ≤ 16 ^ 16 := Nat.pow_le_pow_right (by omega) (by omega); omega)
        exact h1
      go_name_bytes DG hDG
      have ix : ∀ wx : World, (Instr.index 9 (.string DG) (.int .u64 ((u' : Int) % 16))).run Tryz.prog wx = .ok (.int .u8 ((lowDigit (u' % 16)).toNat : Int)) wx := fun wx => by
        rw [← hDG]
        exact idx_digs .u64 _ (u' % 16) (by omega) (by omega) wx
      go_wp2_with (first
        | ((with_reducible refine gate_store (t := 5) (p := 54) rfl ?_); refine cell_event rfl 5 _ _ rfl w.heap.size (65 - j - 1) (.int .u8 ((lowDigit (u' % 16)).toNat : Int)) rfl rfl rfl (there_one HI.out.there (by omega)) (by kernel_rfl) w.heap.size (Nat.le_refl _) ?_; intro w1 hw1 hB1 hs1))
      subst hw1
      have hst := FInv.step HI.out hge rfl hB1
      refine ⟨⟨j + 1, u' / 16, _, by rw [Value.int.injEq]; exact ⟨rfl, by omega⟩, by rw [Value.int.injEq]; exact ⟨rfl, by omega⟩, hst⟩, ?_⟩
      simp only [intOf]
      omega
    · have hlt : u' < 16 := by omega
      have HI := Lib.hid I; clear I
      have d1 : decide ((16 : Int) ≤ (u' : Int)) = false := decide_eq_false (by omega)
      go_name_bytes DG hDG
      have ix : ∀ wx : World, (Instr.index 9 (.string DG) (.int .u64 (u' : Int))).run Tryz.prog wx = .ok (.int .u8 ((lowDigit u').toNat : Int)) wx := fun wx => by
        rw [← hDG]
        exact idx_digs .u64 _ u' rfl (by omega) wx
      go_wp2_with (first
        | ((with_reducible refine gate_store (t := 5) (p := 63) rfl ?_); refine cell_event rfl 5 _ _ rfl w.heap.size (65 - j - 1) (.int .u8 ((lowDigit u').toNat : Int)) rfl rfl rfl (there_one HI.out.there (by omega)) (by kernel_rfl) w.heap.size (Nat.le_refl _) ?_; intro w1 hw1 hB1 hs1; have hcv := FInv.last HI.out hlt hw1 hB1; have hc1 := hcv.1; have hsl := slice_arr w.heap.size j hj; have HB2 := Lib.hid hcv.2; clear hw1 hcv))
      refine bodyPost_ret (results_list (rs := [.tmp 10, .tmp 11]) rfl (by simp) (.tmp (.tmp .nil))) rfl ?_
      exact ⟨rfl, HB2.out⟩

theorem upper_low (d : Nat) (h : d < 16) : Lib.upperB (lowDigit d) = Sp.hexDigit d := by
  have : ∀ i : Fin 16, Lib.upperB (lowDigit i.1) = Sp.hexDigit i.1 := by decide
  exact this ⟨d, h⟩
theorem upper_lowF : ∀ (f u : Nat) (acc : Bs), Lib.toUpperA (lowF f u acc) = hexF f u (Lib.toUpperA acc)
  | 0, _, _ => rfl
  | f + 1, u, acc => by
    unfold lowF hexF
    split
    · rename_i h
      show Lib.upperB _ :: _ = _
      rw [upper_low u h]
      rfl
    · rw [upper_lowF f]
      show hexF f (u / 16) (Lib.upperB _ :: _) = _
      rw [upper_low _ (Nat.mod_lt _ (by omega))]
      rfl

theorem below_putRow {α : Type} [Inhabited α] (enc : α → Value) {B blk : Nat} {a w : World} (h : Below B a w) (hb : B ≤ blk) (off : Nat) (d : Array α) : Below B a (Go.Sort.putRow enc w blk off d) :=
  h.trans ⟨rfl, rfl, rfl, by simp [Go.Sort.putRow, Go.Sort.mapBlock], fun k hk => by
    simp only [Go.Sort.putRow, Go.Sort.mapBlock, Array.getElem?_modify]
    rw [if_neg (by omega)]⟩
def encU8 : UInt8 → Value := fun (b : UInt8) => Value.int .u8 (b.toNat : Int)
theorem zero_holds (w : World) (T : TypeId) (nd : Nat) (hs : nd ≤ 24) : Go.Sort.Holds (fun (b : UInt8) => Value.int .u8 (b.toNat : Int)) (w.alloc (.cells Lib.zeros24 T)) w.heap.size 0 (Array.replicate nd (0 : UInt8)) := fun j hj => by
  have hj' : j < nd := by simpa using hj
  refine ⟨?_, World.frozen?_alloc_new _ _ _ _⟩
  rw [World.cell?_alloc_new, Lib.zeros24_at _ (by omega), getElem!_pos _ j hj]
  simp
theorem nd_pow (u : Nat) : u < 10 ^ Lib.nDigits u := by
  induction u using Nat.strongRecOn with
  | _ u ih =>
    by_cases h : u < 10
    · rw [Lib.nDigits_small h]; omega
    · rw [Lib.nDigits_big h, Nat.pow_succ]
      have := ih (u / 10) (by omega)
      omega
theorem nd_up : ∀ (k u : Nat), u < 10 ^ (k + 1) → Lib.nDigits u ≤ k + 1
  | 0, u, h => by rw [Lib.nDigits_small (by simpa using h)]; omega
  | k + 1, u, h => by
    by_cases h1 : u < 10
    · rw [Lib.nDigits_small h1]; omega
    · rw [Lib.nDigits_big h1]
      have := nd_up k (u / 10) (by rw [Nat.pow_succ] at h; omega)
      omega
theorem nd_le (u : Nat) (h : u < 4294967296) : Lib.nDigits u ≤ 10 ∧ u < 10 ^ Lib.nDigits u := ⟨nd_up 9 u (by omega), nd_pow u⟩

theorem slice_24 (g nd : Nat) (hj : nd ≤ 24) (w : World) : (Instr.sliceAt 270 (.pointer (some ⟨g, 0, none⟩)) none (some (.int .i64 (nd : Int))) none).run Tryz.prog w = .ok (.slice (some ⟨g, 0, none⟩) nd 24) w := by
  have ha : Tryz.prog.arrayLen 270 = 24 := by kernel_rfl
  have hs : (sizeOf (Tryz.prog.elem 270)).run Tryz.prog w = .ok 1 w := by kernel_rfl
  rw [run_sliceAt_array_h w 270 ⟨g, 0, none⟩ (by kernel_rfl) .i64 _ (by omega) (by rw [ha]; omega), hs, ha]
  simp [Result.andThen, slicedAt, Addr.add_mid]
structure Dec (w : World) (u : Nat) (w2 : World) : Prop where
  conv : ∀ cap, (convert 95 9 (.slice (some ⟨w.heap.size, 0, none⟩) (Lib.nDigits u) cap)).run Tryz.prog w2 = .ok (.string ⟨(Lib.decDigits u).toArray⟩) w2
  bel : Below w.heap.size w w2
theorem dec_row {w : World} {T : TypeId} {u v' n : Nat} {dk : Array UInt8} (hnd : Lib.nDigits u ≤ 24) (h : Lib.FmtInv (Lib.nDigits u) u 0 v' dk) :
    Dec w u ((Go.Sort.putRow (fun (b : UInt8) => Value.int .u8 (b.toNat : Int)) (w.alloc (.cells Lib.zeros24 T)) w.heap.size 0 dk).drewN n) where
  conv cap := by
    have hs := h.size
    have hH := Go.Sort.holds_putRow _ _ _ _ _ dk (zero_holds w T (Lib.nDigits u) hnd) (by simp [hs])
    have := run_convert_bytes_arg (P := Tryz.prog) (w := (Go.Sort.putRow (fun (b : UInt8) => Value.int .u8 (b.toNat : Int)) (w.alloc (.cells Lib.zeros24 T)) w.heap.size 0 dk).drewN n) 95 5 Tryz.underlying95 Tryz.underlying5 w.heap.size 0 (Lib.nDigits u) cap (ints (Lib.decDigits u)) (by rw [ints_len, Lib.decDigits_length]) ?_ 9 Tryz.underlying9
    · rw [this, str_ints]
    · intro i hi
      have h1 := (hH i (by omega)).1
      have hi' : i < (Lib.decDigits u).length := by rw [Lib.decDigits_length]; exact hi
      have h2 := Lib.row_is_numeral h i hi'
      have h3 : ((Go.Sort.putRow (fun (b : UInt8) => Value.int .u8 (b.toNat : Int)) (w.alloc (.cells Lib.zeros24 T)) w.heap.size 0 dk).drewN n).cell? ⟨w.heap.size, 0 + i, none⟩ = (Go.Sort.putRow (fun (b : UInt8) => Value.int .u8 (b.toNat : Int)) (w.alloc (.cells Lib.zeros24 T)) w.heap.size 0 dk).cell? ⟨w.heap.size, 0 + i, none⟩ := rfl
      rw [h3, h1, ← h2]
      simp [ints, List.getD, hi']
  bel := (below_putRow _ ((Below.refl _ w).alloc (Nat.le_refl _) _) (Nat.le_refl _) 0 dk).trans (Go.Joins.below_draws _ _ n)

theorem base10_calls (u : Nat) (w : World) (hu : u < 4294967296) :
    Calls Tryz.prog 164 #[.slice (some ⟨w.heap.size, 0, none⟩) (Lib.nDigits u) 24, .int .u64 u] (w.alloc (.cells Lib.zeros24 270)) fun e w' => e = .returned (.tuple #[]) ∧ Dec w u w' := by
  have hnd := nd_le u hu
  have hb := Tryz.internal_strconv_formatBase10 w.heap.size 0 24 u (Array.replicate (Lib.nDigits u) (0 : UInt8)) _ (zero_holds w 270 (Lib.nDigits u) (by omega)) (by simpa using hnd.2) (by omega) (by simp only [Array.size_replicate]; omega)
  have e : (Array.replicate (Lib.nDigits u) (0 : UInt8)).size = Lib.nDigits u := Array.size_replicate
  rw [e] at hb
  refine hb.mono ?_
  rintro e w' ⟨rfl, n, v', dk, hw, hI⟩
  refine ⟨rfl, ?_⟩
  rw [hw]
  exact dec_row (by omega) hI
set_option maxHeartbeats 4000000 in
set_option maxRecDepth 100000 in
theorem dec_calls (u : Nat) (w : World) (hu : u < 4294967296) (hG : Glob w) :
    Calls Tryz.prog 152 #[.int .u64 u, .int .i64 10] w fun e w' => e = .returned (.string ⟨(Lib.decDigits u).toArray⟩) ∧ Below w.heap.size w w' := by
  by_cases hlt : u < 100
  · have d1 : decide ((u : Int) < 100) = true := decide_eq_true (by omega)
    go_enter Tryz.func152, Tryz.ntmps152
    go_wp2_with (first
      | (go_at_call 162; refine (Tryz.internal_strconv_small u hlt _).mono ?_; rintro e w' ⟨rfl, hw⟩; obtain rfl := hw.symm))
    go_ret
    exact ⟨rfl, Below.refl _ _⟩
  · have d1 : decide ((u : Int) < 100) = false := decide_eq_false (by omega)
    have hnd := (nd_le u hu).1
    have hpow := Lib.hid (nd_le u hu).2
    have hG2 := Lib.hid hG
    clear hG
    generalize hN : Lib.nDigits u = nd at hnd
    have HN := Lib.hid hN
    clear hN
    have hb := base10_calls u w hu
    rw [HN.out] at hb
    have hsl := slice_24 w.heap.size nd (by omega)
    go_enter Tryz.func152, Tryz.ntmps152
    go_wp2_with (first
      | (go_at_call 163; refine (Tryz.internal_strconv_numDigits u (by omega) (by omega) _ (Lib.tabIs_alloc hG2.out.pow _)).mono ?_; rintro e w' ⟨rfl, hw⟩; obtain rfl := hw.symm; simp only [HN.out])
      | (go_at_call 164; refine hb.mono ?_; rintro e w' ⟨rfl, hD⟩; have hcv := hD.conv 24; rw [HN.out] at hcv; have HD := Lib.hid hD; clear hD))
    go_ret
    exact ⟨rfl, HD.out.bel⟩

theorem hex16_calls (u : Nat) (w : World) (hu : u < 4294967296) (hG : Glob w) :
    Calls Tryz.prog 152 #[.int .u64 u, .int .i64 16] w fun e w' => e = .returned (.string ⟨(lowF 40 u []).toArray⟩) ∧ Below w.heap.size w w' := by
  have hG2 := Lib.hid hG
  clear hG
  go_enter Tryz.func152, Tryz.ntmps152
  go_wp2_with (first
    | (go_at_call 165; refine (bits_calls u _ (by omega) hG2.out).mono ?_; rintro e w' ⟨rfl, hB⟩; have HB := Lib.hid hB; clear hB))
  go_ret
  exact ⟨rfl, HB.out⟩
theorem fmt10_calls (u : Nat) (w : World) (hu : u < 4294967296) (hG : Glob w) :
    Calls Tryz.prog 128 #[.int .u64 u, .int .i64 10] w fun e w' => e = .returned (.string ⟨(Lib.decDigits u).toArray⟩) ∧ Below w.heap.size w w' := by
  have hG2 := Lib.hid hG
  clear hG
  go_enter Tryz.func128, Tryz.ntmps128
  go_wp2_with (first
    | (go_at_call 152; refine (dec_calls u _ hu hG2.out).mono ?_; rintro e w' ⟨rfl, hB⟩; have HB := Lib.hid hB; clear hB))
  go_ret
  exact ⟨rfl, HB.out⟩
theorem fmt16_calls (u : Nat) (w : World) (hu : u < 4294967296) (hG : Glob w) :
    Calls Tryz.prog 128 #[.int .u64 u, .int .i64 16] w fun e w' => e = .returned (.string ⟨(lowF 40 u []).toArray⟩) ∧ Below w.heap.size w w' := by
  have hG2 := Lib.hid hG
  clear hG
  go_enter Tryz.func128, Tryz.ntmps128
  go_wp2_with (first
    | (go_at_call 152; refine (hex16_calls u _ hu hG2.out).mono ?_; rintro e w' ⟨rfl, hB⟩; have HB := Lib.hid hB; clear hB))
  go_ret
  exact ⟨rfl, HB.out⟩
theorem lowDigit_ascii (d : Nat) (h : d < 16) : (lowDigit d).toNat < 128 := by
  have : ∀ i : Fin 16, (lowDigit i.1).toNat < 128 := by decide
  exact this ⟨d, h⟩
theorem lowF_facts : ∀ (f u : Nat) (acc : Bs), (∀ c ∈ acc, c.toNat < 128) → (∀ c ∈ lowF f u acc, c.toNat < 128) ∧ (lowF f u acc).length ≤ acc.length + f
  | 0, _, acc, h => ⟨h, Nat.le_refl _⟩
  | f + 1, u, acc, h => by
    unfold lowF
    split
    · rename_i h1
      refine ⟨fun c hc => ?_, by simp⟩
      rcases List.mem_cons.1 hc with rfl | hc
      · exact lowDigit_ascii u h1
      · exact h c hc
    · obtain ⟨h1, h2⟩ := lowF_facts f (u / 16) (lowDigit (u % 16) :: acc) (fun c hc => by
        rcases List.mem_cons.1 hc with rfl | hc
        · exact lowDigit_ascii _ (Nat.mod_lt _ (by omega))
        · exact h c hc)
      exact ⟨h1, by simp at h2; omega⟩
theorem upper16_calls (u : Nat) (w : World) :
    Calls Tryz.prog 127 #[.string ⟨(lowF 40 u []).toArray⟩] w fun e w' => e = .returned (.string ⟨(hexF 40 u []).toArray⟩) ∧ Below w.heap.size w w' := by
  obtain ⟨h1, h2⟩ := lowF_facts 40 u [] (by simp)
  have hsz : (⟨(lowF 40 u []).toArray⟩ : ByteArray).size = (lowF 40 u []).length := by simp [ByteArray.size]
  have h := Tryz.strings_ToUpper_ascii ⟨(lowF 40 u []).toArray⟩ w (by rw [hsz]; simp at h2; omega) (fun j b hb => h1 b (List.mem_of_getElem? (by simpa using hb)))
  have e : Lib.toUpperA (⟨(lowF 40 u []).toArray⟩ : ByteArray).data.toList = hexF 40 u [] := by
    show Lib.toUpperA (lowF 40 u []) = _
    rw [upper_lowF]
    rfl
  rw [e] at h
  exact h
end Go.Proofs.YtmfejjlmflgnbaaGreatDoor.Tok
