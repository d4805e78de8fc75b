/- PLAIN LAWS: the reference's printed Gone, Number, Quoted, one, Spot, further, fault, in the plain spec's words. -/
import Derived.Test.YtpecmmicndcgjaaGreatDoorPure2
import Derived.Test.YtpecmmicndcgjaaGreatDoorRspot
import Derived.Test.YtpecmmicndcgjaaGreatDoorPAy3
import Derived.Test.YtpecmmicndcgjaaGreatDoorPAy4
import Derived.Test.YtpecmmicndcgjaaGreatDoorPAy7
import Derived.Test.YtpecmmicndcgjaaGreatDoorLawC
import Derived.Test.YtpecmmicndcgjaaGreatDoorAt
namespace Go.Proofs.YtpecmmicndcgjaaGreatDoor.Tok
open Go.RowKit Go.Proofs.YtpecmmicndcgjaaGreatDoor.PA Go.Proofs.YtpecmmicndcgjaaGreatDoorW.PrintWords Go.Proofs.YtpecmmicndcgjaaGreatDoorW.PrintLast Go.Proofs.YtpecmmicndcgjaaGreatDoor.Sp
set_option linter.unusedVariables false
set_option linter.unusedSimpArgs false

theorem u8_is (c : UInt8) (n : Nat) (h : n < 256) : ((c.toNat : Int) = (n : Int)) ↔ c = UInt8.ofNat n := by
  rw [u8_eq c n h]; omega
theorem rblank_spec (c : UInt8) : tappetref02_blank.f (c.toNat : Int) = some (blankB c) := by
  have h : ∀ n : Fin 256, tappetref02_blank.f ((UInt8.ofNat n.1).toNat : Int) = some (blankB (UInt8.ofNat n.1)) := by decide +kernel
  have := h ⟨c.toNat, c.toNat_lt⟩
  simpa using this
/-! ### Gone -/
def goneR : Gap → Int × Int
  | .ends n => ((n : Int), -1)
  | .open_ n => ((n : Int), (n : Int))
theorem rgone_all (t : ByteArray) (ht : t.size ≤ 1048576) : ∀ k,
    (∀ i st, i ≤ t.size → 4 * (t.size - i) + 4 < k → tappetref02_Gone.l0 k t (i : Int) = some (goneR (gap 0 st i (t.data.toList.drop i)))) ∧
    (∀ i st, i ≤ t.size → 4 * (t.size - i) + 6 < k → tappetref02_Gone.l1 k t (i : Int) = some (goneR (gap 1 st i (t.data.toList.drop i)))) ∧
    (∀ (i st : Nat), i ≤ t.size → 4 * (t.size - i) + 6 < k → tappetref02_Gone.l2 k t (st : Int) (i : Int) = some (goneR (gap 2 st i (t.data.toList.drop i)))) := by
  intro k
  induction k using Nat.strongRecOn with
  | _ k ih =>
  refine ⟨?_, ?_, ?_⟩
  · intro i st hi hk
    obtain ⟨k, rfl⟩ : ∃ j, k = j + 1 := ⟨k - 1, by omega⟩
    simp only [tappetref02_Gone.l0]
    by_cases hlt : i < t.size
    · have hd := at_drop t i hlt
      rw [if_pos (by omega), if_pos (by omega), bt_nat t i hlt, rblank_spec, Option.bind_some, hd]
      by_cases hb : blankB t[i] = true
      · rw [if_pos hb, gap_blank hb, wrap_nat i (by omega)]
        exact (ih k (by omega)).1 (i + 1) st (by omega) (by omega)
      · have hb' : blankB t[i] = false := by simpa using hb
        rw [if_neg hb]
        by_cases h47 : t[i] = 47
        · have e47 : ((t[i].toNat : Int) = 47) := by rw [h47]; rfl
          rw [if_pos e47, h47]
          by_cases hl2 : i + 1 < t.size
          · have hd2 := at_drop t (i + 1) hl2
            rw [wrap_nat i (by omega), if_pos (by omega), if_pos (by omega), bt_nat t (i + 1) hl2, hd2]
            obtain ⟨k, rfl⟩ : ∃ j, k = j + 1 := ⟨k - 1, by omega⟩
            simp only [tappetref02_Gone.j1]
            by_cases d47 : t[i + 1] = 47
            · have e2 : (((t[i + 1]).toNat : Int) == 47) = true := by rw [d47]; rfl
              rw [if_pos e2, d47, gap_line_open]
              obtain ⟨k, rfl⟩ : ∃ j, k = j + 1 := ⟨k - 1, by omega⟩
              simp only [tappetref02_Gone.l1]
              rw [if_pos (by omega), if_pos (by omega), bt_nat t i hlt, if_neg (by rw [h47]; decide), wrap_nat i (by omega)]
              obtain ⟨k, rfl⟩ : ∃ j, k = j + 1 := ⟨k - 1, by omega⟩
              simp only [tappetref02_Gone.l1]
              rw [if_pos (by omega), if_pos (by omega), bt_nat t (i + 1) hl2, if_neg (by rw [d47]; decide), wrap_nat (i + 1) (by omega)]
              exact (ih k (by omega)).2.1 (i + 2) st (by omega) (by omega)
            · have e2 : (((t[i + 1]).toNat : Int) == 47) = false := by
                rw [beq_eq_false_iff_ne]; intro h; exact d47 (UInt8.toNat_inj.1 (by simp; omega))
              rw [if_neg (by rw [e2]; decide), if_pos (by omega), if_pos (by omega), bt_nat t i hlt, if_pos e47, wrap_nat i (by omega), if_pos (by omega), if_pos (by omega), bt_nat t (i + 1) hl2]
              obtain ⟨k, rfl⟩ : ∃ j, k = j + 1 := ⟨k - 1, by omega⟩
              simp only [tappetref02_Gone.j3]
              by_cases d42 : t[i + 1] = 42
              · have e3 : (((t[i + 1]).toNat : Int) == 42) = true := by rw [d42]; rfl
                rw [if_pos e3, d42, gap_block_open, show wrap64 ((i : Int) + 2) = ((i + 2 : Nat) : Int) from wrap_add i 2 (by omega)]
                exact (ih k (by omega)).2.2 (i + 2) i (by omega) (by omega)
              · have e3 : (((t[i + 1]).toNat : Int) == 42) = false := by
                  rw [beq_eq_false_iff_ne]; intro h; exact d42 (UInt8.toNat_inj.1 (by simp; omega))
                rw [if_neg (by rw [e3]; decide), fin_slash _ _ d47 d42]
                rfl
          · have hn : t.data.toList.drop (i + 1) = [] := List.drop_eq_nil_of_le (by rw [t_len]; omega)
            rw [wrap_nat i (by omega), if_neg (by omega), hn, fin_slash1]
            obtain ⟨k, rfl⟩ : ∃ j, k = j + 1 := ⟨k - 1, by omega⟩
            simp only [tappetref02_Gone.j1]
            rw [if_neg (by decide), if_pos (by omega), if_pos (by omega), bt_nat t i hlt, if_pos e47, wrap_nat i (by omega), if_neg (by omega)]
            obtain ⟨k, rfl⟩ : ∃ j, k = j + 1 := ⟨k - 1, by omega⟩
            simp only [tappetref02_Gone.j3]
            rw [if_neg (by decide)]
            rfl
        · have e47 : ¬ ((t[i].toNat : Int) = 47) := fun h => h47 (UInt8.toNat_inj.1 (by simp; omega))
          rw [if_neg e47, fin_cons hb' h47]
          obtain ⟨k, rfl⟩ : ∃ j, k = j + 1 := ⟨k - 1, by omega⟩
          simp only [tappetref02_Gone.j1]
          rw [if_neg (by decide), if_pos (by omega), if_pos (by omega), bt_nat t i hlt, if_neg e47]
          obtain ⟨k, rfl⟩ : ∃ j, k = j + 1 := ⟨k - 1, by omega⟩
          simp only [tappetref02_Gone.j3]
          rw [if_neg (by decide)]
          rfl
    · have hn : t.data.toList.drop i = [] := List.drop_eq_nil_of_le (by rw [t_len]; omega)
      rw [if_neg (by omega), hn]
      rfl
  · intro i st hi hk
    obtain ⟨k, rfl⟩ : ∃ j, k = j + 1 := ⟨k - 1, by omega⟩
    simp only [tappetref02_Gone.l1]
    by_cases hlt : i < t.size
    · have hd := at_drop t i hlt
      rw [if_pos (by omega), if_pos (by omega), bt_nat t i hlt]
      by_cases h10 : t[i] = 10
      · rw [if_pos (by rw [h10]; rfl), (ih k (by omega)).1 i st hi (by omega), hd, h10]
        simp only [gap, if_true, gap_blank (c := 10) rfl]
      · rw [if_neg (fun h => h10 (UInt8.toNat_inj.1 (by simp; omega))), wrap_nat i (by omega), (ih k (by omega)).2.1 (i + 1) st (by omega) (by omega), hd]
        simp only [gap, if_neg h10]
    · have hn : t.data.toList.drop i = [] := List.drop_eq_nil_of_le (by rw [t_len]; omega)
      rw [if_neg (by omega), (ih k (by omega)).1 i st hi (by omega), hn]
      rfl
  · intro i st hi hk
    obtain ⟨k, rfl⟩ : ∃ j, k = j + 1 := ⟨k - 1, by omega⟩
    simp only [tappetref02_Gone.l2]
    by_cases hl2 : i + 1 < t.size
    · have hd := at_drop t i (by omega)
      have hd2 := at_drop t (i + 1) hl2
      rw [wrap_nat i (by omega), if_pos (by omega), if_pos (by omega), if_pos (by omega), bt_nat t i (by omega)]
      by_cases c42 : t[i] = 42
      · rw [if_pos (by rw [c42]; rfl), if_pos (by omega), bt_nat t (i + 1) hl2]
        by_cases d47 : t[i + 1] = 47
        · rw [if_pos (by rw [d47]; rfl), if_neg (by omega), show wrap64 ((i : Int) + 2) = ((i + 2 : Nat) : Int) from wrap_add i 2 (by omega), (ih k (by omega)).1 (i + 2) st (by omega) (by omega), hd, hd2, c42, d47]
          simp only [gap, and_self, if_true]
        · rw [if_neg (fun h => d47 (UInt8.toNat_inj.1 (by simp; omega))), (ih k (by omega)).2.2 (i + 1) st (by omega) (by omega), hd, hd2]
          simp only [gap, d47, and_false, if_false]
      · rw [if_neg (fun h => c42 (UInt8.toNat_inj.1 (by simp; omega))), (ih k (by omega)).2.2 (i + 1) st (by omega) (by omega), hd, hd2]
        simp only [gap, c42, false_and, if_false]
    · rw [wrap_nat i (by omega), if_neg (by omega), if_pos (by omega)]
      by_cases hlt : i < t.size
      · have hd := at_drop t i hlt
        have hn : t.data.toList.drop (i + 1) = [] := List.drop_eq_nil_of_le (by rw [t_len]; omega)
        rw [hd, hn]
        rfl
      · have hn : t.data.toList.drop i = [] := List.drop_eq_nil_of_le (by rw [t_len]; omega)
        rw [hn]
        rfl
theorem rgone_spec (t : ByteArray) (ht : t.size ≤ 1048576) (i : Nat) (hi : i ≤ t.size) : tappetref02_Gone.f (4 * t.size + 8) t (i : Int) = some (goneR (gap 0 0 i (t.data.toList.drop i))) :=
  (rgone_all t ht _).1 i 0 hi (by omega)

/-! ### further, fault -/
theorem rfault_spec (t : ByteArray) (ht : t.size ≤ 1048576) (e : Int) (p : Nat) (hp : p ≤ t.size) : tappetref02_fault.f (t.size + 3) t e (p : Int) = some (e, (p : Int), (((spotT t.data.toList p).1 : Nat) : Int), (((spotT t.data.toList p).2 : Nat) : Int), ⟨#[]⟩) := by
  have hc : clampT (p : Int) t.size = p := by unfold clampT; omega
  unfold tappetref02_fault.f
  rw [rspot_spec t ht, hc]
  rfl
theorem rfurther_l0 (t : ByteArray) (ht : t.size ≤ 1048576) (off : Nat) (ho : off ≤ t.size) (z : Int) : ∀ (d i : Nat), i + d = off → tappetref02_further.l0 (d + 1) t (off : Int) (i : Int) z (((spotT t.data.toList i).1 : Nat) : Int) (((spotT t.data.toList i).2 : Nat) : Int) = some ((off : Int), (((spotT t.data.toList off).1 : Nat) : Int), (((spotT t.data.toList off).2 : Nat) : Int))
  | 0, i, h => by
    obtain rfl : i = off := by omega
    simp only [tappetref02_further.l0]
    rw [if_neg (by omega)]
  | d + 1, i, h => by
    have hlt : i < t.size := by omega
    have hs := spot_succ t i hlt
    have hb := spot_lt t i (by omega) ht
    have ih := rfurther_l0 t ht off ho z d (i + 1) (by omega)
    rw [hs] at ih
    unfold spotStep at ih
    generalize d + 1 = K at ih ⊢
    simp only [tappetref02_further.l0]
    rw [if_pos (by omega), if_pos (by omega), if_pos (by omega), bt_nat t i hlt, wrap_nat i (by omega)]
    by_cases h10 : t[i] = 10
    · rw [if_pos h10] at ih
      rw [if_pos (by rw [h10]; rfl), wrap_nat _ (by omega)]
      exact ih
    · rw [if_neg h10] at ih
      rw [if_neg (fun h => h10 (UInt8.toNat_inj.1 (by simp; omega))), wrap_nat _ (by omega)]
      exact ih
theorem rfurther_spec (t : ByteArray) (ht : t.size ≤ 1048576) (m k : Nat) (hm : m ≤ k) (hk : k ≤ t.size) : tappetref02_further.f (k - m + 1) t (m : Int) (((spotT t.data.toList m).1 : Nat) : Int) (((spotT t.data.toList m).2 : Nat) : Int) (k : Int) = some ((k : Int), (((spotT t.data.toList k).1 : Nat) : Int), (((spotT t.data.toList k).2 : Nat) : Int)) :=
  rfurther_l0 t ht k hk (m : Int) (k - m) m (by omega)

/-! ### Number -/
theorem u64_small (z : Int) (h0 : 0 ≤ z) (h1 : z < 18446744073709551616) : IntKind.u64.wrap z = z := by
  show z % 18446744073709551616 = z
  omega
def numR (b : Nat) : Option Nat → Int × Bool × Bool
  | some u => ((u : Int), b == 16, true)
  | none => (0, false, false)
theorem digitVal_cases (c : UInt8) : (48 ≤ c.toNat ∧ c.toNat ≤ 57 ∧ digitB c = true ∧ digitVal c = c.toNat - 48) ∨ (97 ≤ c.toNat ∧ c.toNat ≤ 102 ∧ digitB c = false ∧ digitVal c = c.toNat - 87) ∨ (65 ≤ c.toNat ∧ c.toNat ≤ 70 ∧ digitB c = false ∧ digitVal c = c.toNat - 55) ∨ (¬ (48 ≤ c.toNat ∧ c.toNat ≤ 57) ∧ ¬ (97 ≤ c.toNat ∧ c.toNat ≤ 102) ∧ ¬ (65 ≤ c.toNat ∧ c.toNat ≤ 70) ∧ digitB c = false ∧ digitVal c = 99) := by
  have hd : digitB c = decide (48 ≤ c.toNat ∧ c.toNat ≤ 57) := by unfold digitB; simp
  unfold digitVal
  by_cases h1 : 48 ≤ c.toNat ∧ c.toNat ≤ 57
  · left; rw [hd]; simp [h1]
  · by_cases h2 : 97 ≤ c.toNat ∧ c.toNat ≤ 102
    · right; left; rw [hd]; simp [h1, h2]
    · by_cases h3 : 65 ≤ c.toNat ∧ c.toNat ≤ 70
      · right; right; left; rw [hd]; simp [h1, h2, h3]
      · right; right; right; rw [hd]; simp [h1, h2, h3]
theorem rnum_j5 (t : ByteArray) (ht : t.size ≤ 1048576) (b : Nat) (hb : b = 10 ∨ b = 16) (k v pos d : Nat) (hv : v ≤ 4294967295) (hp : pos < t.size) (hd : d < 100) (r : Option Nat)
    (hr : r = if d < b then (if v * b + d ≤ 4294967295 then numVal b (v * b + d) (t.data.toList.drop (pos + 1)) else none) else none)
    (ih : ∀ v' : Nat, v' ≤ 4294967295 → tappetref02_Number.l0 k t (b : Int) (v' : Int) ((pos + 1 : Nat) : Int) = some (numR b (numVal b v' (t.data.toList.drop (pos + 1))))) (z : Int) (hz : z = (d : Int)) :
    tappetref02_Number.j5 (k + 1) t (b : Int) (v : Int) (pos : Int) z = some (numR b r) := by
  subst hz
  simp only [tappetref02_Number.j5]
  by_cases h1 : d < b
  · rw [if_pos h1] at hr
    have hm : v * b ≤ 4294967295 * 16 := by
      rcases hb with rfl | rfl <;> omega
    have hvb : ((v : Int) * (b : Int)) = ((v * b : Nat) : Int) := by simp
    rw [if_neg (by omega), hvb, u64_small ((v * b : Nat) : Int) (by omega) (by omega), u64_small _ (by omega) (by omega)]
    by_cases h2 : v * b + d ≤ 4294967295
    · rw [if_pos h2] at hr
      rw [if_neg (by omega), wrap_nat pos (by omega), hr]
      exact ih (v * b + d) h2
    · rw [if_neg h2] at hr
      rw [if_pos (by omega), hr]
      rfl
  · rw [if_neg h1] at hr
    rw [if_pos (by omega), hr]
    rfl
theorem rnum_l0 (t : ByteArray) (ht : t.size ≤ 1048576) (b : Nat) (hb : b = 10 ∨ b = 16) : ∀ (d pos v : Nat), pos + d = t.size → v ≤ 4294967295 → tappetref02_Number.l0 (3 * d + 1) t (b : Int) (v : Int) (pos : Int) = some (numR b (numVal b v (t.data.toList.drop pos)))
  | 0, pos, v, h, hv => by
    have hn : t.data.toList.drop pos = [] := List.drop_eq_nil_of_le (by rw [t_len]; omega)
    simp only [tappetref02_Number.l0]
    rw [if_neg (by omega), hn]
    simp only [numVal, numR]
    congr 2
    · omega
    · congr 1
      rcases hb with rfl | rfl <;> rfl
  | d + 1, pos, v, h, hv => by
    have hlt : pos < t.size := by omega
    have hd := at_drop t pos hlt
    have ih := rnum_l0 t ht b hb d (pos + 1)
    rw [show 3 * (d + 1) + 1 = (3 * d + 1 + 2) + 1 from by omega]
    simp only [tappetref02_Number.l0]
    rw [if_pos (by omega), if_pos (by omega), bt_nat t pos hlt, rdigit_spec, Option.bind_some, hd]
    simp only [numVal]
    have h256 := u8_lt t[pos]
    rcases digitVal_cases t[pos] with ⟨h1, h2, h3, h4⟩ | ⟨h1, h2, h3, h4⟩ | ⟨h1, h2, h3, h4⟩ | ⟨h0, h1, h2, h3, h4⟩
    · rw [h3, if_pos rfl]
      exact rnum_j5 t ht b hb (3 * d + 1 + 1) v pos _ hv hlt (by omega) _ rfl (fun v' hv' => fuel_le (fun k => tappetref02_Number.l0 k t (b : Int) (v' : Int) ((pos + 1 : Nat) : Int)) (fun k => (tappetref02_Number.mono_l k).2.2.2.1 _ _ _ _) (ih v' (by omega) hv') (by omega)) _ (by omega)
    · rw [h3, if_neg (by decide), if_pos (by omega), show decide (((t[pos]).toNat : Int) ≤ 102) = true from decide_eq_true (by omega), show 3 * d + 1 + 2 = (3 * d + 1 + 1) + 1 from rfl]
      simp only [tappetref02_Number.j4]
      rw [if_pos trivial, if_pos (by omega), if_pos (by omega), bt_nat t pos hlt]
      exact rnum_j5 t ht b hb (3 * d + 1) v pos _ hv hlt (by omega) _ rfl (fun v' hv' => ih v' (by omega) hv') _ (by omega)
    · rw [h3, if_neg (by decide), if_neg (by omega), show 3 * d + 1 + 2 = (3 * d + 1 + 1) + 1 from rfl]
      simp only [tappetref02_Number.j4]
      rw [if_neg (by decide), if_pos (by omega), if_pos (by omega), bt_nat t pos hlt, if_pos (by omega), if_pos (by omega)]
      exact rnum_j5 t ht b hb (3 * d + 1) v pos _ hv hlt (by omega) _ rfl (fun v' hv' => ih v' (by omega) hv') _ (by omega)
    · rw [h3, if_neg (by decide)]
      have key : ∀ x63 : Bool, x63 = false → tappetref02_Number.j4 (3 * d + 1 + 2) t (b : Int) (v : Int) (pos : Int) 99 x63 = some (numR b (if digitVal t[pos] < b then (if v * b + digitVal t[pos] ≤ 4294967295 then numVal b (v * b + digitVal t[pos]) (t.data.toList.drop (pos + 1)) else none) else none)) := by
        rintro _ rfl
        rw [show 3 * d + 1 + 2 = (3 * d + 1 + 1) + 1 from rfl]
        simp only [tappetref02_Number.j4]
        rw [if_neg (by decide), if_pos (by omega), if_pos (by omega), bt_nat t pos hlt]
        have j := rnum_j5 t ht b hb (3 * d + 1) v pos 99 hv hlt (by omega) (if digitVal t[pos] < b then (if v * b + digitVal t[pos] ≤ 4294967295 then numVal b (v * b + digitVal t[pos]) (t.data.toList.drop (pos + 1)) else none) else none) (by rw [h4]) (fun v' hv' => ih v' (by omega) hv') 99 rfl
        by_cases h65 : ((t[pos]).toNat : Int) ≥ 65
        · rw [if_pos h65, if_neg (by omega)]; exact j
        · rw [if_neg h65]; exact j
      by_cases h97 : ((t[pos]).toNat : Int) ≥ 97
      · rw [if_pos h97]; exact key _ (decide_eq_false (by omega))
      · rw [if_neg h97]; exact key _ rfl

def numF : Option (Nat × Bool) → Int × Bool × Bool
  | some (u, h) => ((u : Int), h, true)
  | none => (0, false, false)
theorem numR_10 (o : Option Nat) : numR 10 o = numF (o.map fun v => (v, false)) := by cases o <;> rfl
theorem numR_16 (o : Option Nat) : numR 16 o = numF (o.map fun v => (v, true)) := by cases o <;> rfl
theorem rnumber_spec (t : ByteArray) (ht : t.size ≤ 1048576) (h0 : 0 < t.size) : tappetref02_Number.f (3 * t.size + 5) t = some (numF (numL t.data.toList)) := by
  have hd0 := at_drop t 0 h0
  rw [List.drop_zero] at hd0
  have up : ∀ (b pos : Nat), (b = 10 ∨ b = 16) → pos ≤ t.size → tappetref02_Number.l0 (3 * t.size + 2) t (b : Int) 0 (pos : Int) = some (numR b (numVal b 0 (t.data.toList.drop pos))) := fun b pos hb hp =>
    fuel_le (fun k => tappetref02_Number.l0 k t (b : Int) 0 (pos : Int)) (fun k => (tappetref02_Number.mono_l k).2.2.2.1 _ _ _ _) (rnum_l0 t ht b hb (t.size - pos) pos 0 (by omega) (by omega)) (by omega)
  have j0f : ∀ x : Bool, x = false → ∀ r, tappetref02_Number.j1 (3 * t.size + 4) t 10 0 = r → tappetref02_Number.j0 (3 * t.size + 5) t 10 0 x = r := by
    rintro _ rfl r hr
    rw [show 3 * t.size + 5 = (3 * t.size + 4) + 1 from rfl]
    simp only [tappetref02_Number.j0]
    rw [if_neg (by decide)]
    exact hr
  have j0t : ∀ x : Bool, x = true → ∀ r, tappetref02_Number.j1 (3 * t.size + 4) t 16 2 = r → tappetref02_Number.j0 (3 * t.size + 5) t 10 0 x = r := by
    rintro _ rfl r hr
    rw [show 3 * t.size + 5 = (3 * t.size + 4) + 1 from rfl]
    simp only [tappetref02_Number.j0]
    rw [if_pos trivial]
    exact hr
  have j2f : ∀ x : Bool, x = false → ∀ (b pos : Nat), (b = 10 ∨ b = 16) → pos ≤ t.size → tappetref02_Number.j2 (3 * t.size + 3) t (b : Int) (pos : Int) x = some (numR b (numVal b 0 (t.data.toList.drop pos))) := by
    rintro _ rfl b pos hb hp
    rw [show 3 * t.size + 3 = (3 * t.size + 2) + 1 from rfl]
    simp only [tappetref02_Number.j2]
    rw [if_neg (by decide)]
    exact up b pos hb hp
  have j2t : ∀ x : Bool, x = true → ∀ (b pos : Int), tappetref02_Number.j2 (3 * t.size + 3) t b pos x = some (0, false, false) := by
    rintro _ rfl b pos
    rw [show 3 * t.size + 3 = (3 * t.size + 2) + 1 from rfl]
    simp only [tappetref02_Number.j2]
    rw [if_pos trivial]
  have b0 : bt t 0 = (t[0].toNat : Int) := bt_nat t 0 h0
  -- the decimal road
  have dec : ∀ r, (t[0] = 48 → t.size = 1) → r = numF ((numVal 10 0 t.data.toList).map fun v => (v, false)) → tappetref02_Number.j1 (3 * t.size + 4) t 10 0 = some r := by
    rintro r h48 rfl
    rw [show 3 * t.size + 4 = (3 * t.size + 3) + 1 from rfl]
    simp only [tappetref02_Number.j1]
    have hj := fun x hx => j2f x hx 10 0 (.inl rfl) (by omega)
    rw [List.drop_zero] at hj
    rw [if_neg (by omega), if_pos trivial, if_pos (by omega), b0, ← numR_10]
    by_cases hc : t[0] = 48
    · rw [if_pos (by rw [hc]; rfl)]
      exact hj _ (decide_eq_false (by have := h48 hc; omega))
    · rw [if_neg (fun h => hc (UInt8.toNat_inj.1 (by simp; omega)))]
      exact hj _ rfl
  have bad : (t[0] = 48) → 1 < t.size → tappetref02_Number.j1 (3 * t.size + 4) t 10 0 = some (0, false, false) := by
    intro hc h1
    rw [show 3 * t.size + 4 = (3 * t.size + 3) + 1 from rfl]
    simp only [tappetref02_Number.j1]
    rw [if_neg (by omega), if_pos trivial, if_pos (by omega), b0, if_pos (by rw [hc]; rfl)]
    exact j2t _ (decide_eq_true (by omega)) _ _
  unfold tappetref02_Number.f
  by_cases h1 : t.size = 1
  · rw [if_neg (by omega)]
    have hl : t.data.toList = [t[0]] := by rw [List.drop_eq_nil_of_le (by rw [t_len]; omega)] at hd0; exact hd0
    refine j0f _ rfl _ (dec _ (fun _ => h1) ?_)
    rw [hl]
    rfl
  · have hl := drop_at t 1 (by omega)
    rw [hl] at hd0
    rw [if_pos (by omega), if_pos (by omega), b0]
    by_cases hc : t[0] = 48
    · have b1 : bt t 1 = (t[1].toNat : Int) := bt_nat t 1 (by omega)
      rw [if_pos (by rw [hc]; rfl), if_pos (by omega), b1]
      have hex : t[1] = 120 ∨ t[1] = 88 → tappetref02_Number.j1 (3 * t.size + 4) t 16 2 = some (numF (numL t.data.toList)) := by
        intro hx
        rw [hd0]
        simp only [numL, hc, if_true, if_pos hx]
        rw [show 3 * t.size + 4 = (3 * t.size + 3) + 1 from rfl]
        simp only [tappetref02_Number.j1]
        by_cases h2 : t.size = 2
        · have hn : t.data.toList.drop (1 + 1) = [] := List.drop_eq_nil_of_le (by rw [t_len]; omega)
          rw [if_pos (by omega), hn]
          simp only [if_true]
          exact j2t _ rfl _ _
        · have hne : t.data.toList.drop (1 + 1) ≠ [] := fun e => by
            have := List.drop_eq_nil_iff.1 e
            rw [t_len] at this
            omega
          rw [if_neg (by omega), if_neg (by omega), if_neg hne, ← numR_16]
          exact j2f _ rfl 16 2 (.inr rfl) (by omega)
      by_cases h120 : t[1] = 120
      · rw [if_pos (by rw [h120]; rfl)]
        exact j0t _ rfl _ (hex (.inl h120))
      · rw [if_neg (fun h => h120 (UInt8.toNat_inj.1 (by simp; omega)))]
        by_cases h88 : t[1] = 88
        · exact j0t _ (by rw [h88]; rfl) _ (hex (.inr h88))
        · refine j0f _ (by rw [beq_eq_false_iff_ne]; intro h; exact h88 (UInt8.toNat_inj.1 (by simp; omega))) _ ?_
          rw [bad hc (by omega), hd0]
          simp only [numL, hc, if_true, h120, h88, or_self, if_false]
          rfl
    · rw [if_neg (fun h => hc (UInt8.toNat_inj.1 (by simp; omega)))]
      refine j0f _ rfl _ (dec _ (fun h => absurd h hc) ?_)
      rw [hd0]
      simp only [numL, if_neg hc]
/-! ### Quoted -/
def quotR (i : Nat) : Except (Nat × Nat) (Bs × Nat) → ByteArray × Int × Int × Int
  | .ok (s, e) => (⟨s.toArray⟩, ((i + e : Nat) : Int), 0, 0)
  | .error (c, n) => (⟨#[]⟩, 0, (c : Int), ((i + n : Nat) : Int))
theorem rquoted_l0 (t : ByteArray) (ht : t.size ≤ 1048576) (i : Nat) (hi : i < t.size) : ∀ (k n : Nat) (acc : Bs), i + n ≤ t.size → 2 * (t.size - (i + n)) < k → acc.length ≤ n → tappetref02_Quoted.l0 k t (i : Int) ⟨acc.toArray⟩ ((i + n : Nat) : Int) = some (quotR i (qstr acc n (t.data.toList.drop (i + n)))) := by
  intro k
  induction k using Nat.strongRecOn with
  | _ k ih =>
  intro n acc hn hk hacc
  obtain ⟨k, rfl⟩ : ∃ j, k = j + 1 := ⟨k - 1, by omega⟩
  simp only [tappetref02_Quoted.l0]
  by_cases hlt : i + n < t.size
  · have hd := at_drop t (i + n) hlt
    have h256 := u8_lt t[i + n]
    rw [if_pos (by omega), if_pos (by omega), bt_nat t (i + n) hlt, hd, qcons]
    by_cases c34 : t[i + n] = 34
    · rw [if_pos (by rw [c34]; rfl), if_pos c34, bsize]
      by_cases hl : acc.length > 255
      · rw [if_pos (by omega), if_pos hl]
        simp [quotR]
      · rw [if_neg (by omega), if_neg hl, wrap_nat _ (by omega)]
        rfl
    · rw [if_neg (fun h => c34 (UInt8.toNat_inj.1 (by simp; omega))), if_neg c34]
      have hpl : plainB t[i + n] = decide (32 ≤ (t[i + n]).toNat ∧ (t[i + n]).toNat ≤ 126) := by unfold plainB; simp
      have hk0 : ∃ j, k = j + 1 := ⟨k - 1, by omega⟩
      obtain ⟨k, rfl⟩ := hk0
      by_cases hp : plainB t[i + n] = false
      · rw [if_pos hp]
        have hp' : ¬ (32 ≤ (t[i + n]).toNat ∧ (t[i + n]).toNat ≤ 126) := by rw [hpl] at hp; simpa using hp
        have key : ∀ x : Bool, x = true → tappetref02_Quoted.j1 (k + 1) t (i : Int) ⟨acc.toArray⟩ ((i + n : Nat) : Int) ((t[i + n]).toNat : Int) x = some (quotR i (.error (22, n))) := by
          rintro _ rfl
          simp only [tappetref02_Quoted.j1]
          rw [if_pos trivial]
          rfl
        by_cases h32 : ((t[i + n]).toNat : Int) < 32
        · rw [if_pos h32]; exact key _ rfl
        · rw [if_neg h32]; exact key _ (decide_eq_true (by omega))
      · rw [if_neg hp]
        have hp' : 32 ≤ (t[i + n]).toNat ∧ (t[i + n]).toNat ≤ 126 := by rw [hpl] at hp; simpa using hp
        rw [if_neg (by omega), show decide (((t[i + n]).toNat : Int) > 126) = false from decide_eq_false (by omega)]
        simp only [tappetref02_Quoted.j1]
        rw [if_neg (by decide)]
        by_cases c92 : t[i + n] = 92
        · rw [if_pos (by rw [c92]; rfl), if_pos c92, wrap_nat _ (by omega)]
          by_cases hl2 : i + n + 1 < t.size
          · have hd2 := at_drop t (i + n + 1) hl2
            rw [if_neg (by omega), if_pos (by omega), if_pos (by omega), bt_nat t (i + n + 1) hl2, hd2]
            have w2 : wrap64 (((i + n : Nat) : Int) + 2) = ((i + (n + 2) : Nat) : Int) := wrap_add (i + n) 2 (by omega)
            have e1 : (((i + n + 1 : Nat) : Int)).toNat = i + n + 1 := by omega
            have e2 : (((i + (n + 2) : Nat) : Int)).toNat = i + n + 1 + 1 := by omega
            have hx := ext_one t (i + n + 1) hl2
            have next : ∀ d : UInt8, d = t[i + n + 1] → (if (((i + n + 1 : Nat) : Int)) ≤ ((i + (n + 2) : Nat) : Int) then (if ((i + (n + 2) : Nat) : Int) ≤ (t.size : Int) then (if (⟨acc.toArray⟩ : ByteArray).size + (t.extract (i + n + 1) (i + n + 1 + 1)).size ≤ 9223372036854775807 then (tappetref02_Quoted.l0 k t (i : Int) ((⟨acc.toArray⟩ : ByteArray) ++ t.extract (i + n + 1) (i + n + 1 + 1)) ((i + (n + 2) : Nat) : Int)) else none) else none) else none) = some (quotR i (qstr (acc ++ [d]) (n + 2) (t.data.toList.drop (i + n + 1 + 1)))) := by
              rintro d rfl
              rw [if_pos (by omega), if_pos (by omega), hx, bsize, bsize, if_pos (by simp; omega), bapp, ih k (by omega) (n + 2) _ (by omega) (by omega) (by simp; omega)]
              rfl
            by_cases d34 : t[i + n + 1] = 34
            · rw [if_pos (by rw [d34]; rfl), w2, e1, e2]
              simp only
              rw [if_pos (show t[i + n + 1] = 34 ∨ t[i + n + 1] = 92 from .inl d34)]
              exact next _ rfl
            · rw [if_neg (fun h => d34 (UInt8.toNat_inj.1 (by simp; omega)))]
              by_cases d92 : t[i + n + 1] = 92
              · rw [if_pos (by rw [d92]; rfl), w2, e1, e2]
                simp only
                rw [if_pos (show t[i + n + 1] = 34 ∨ t[i + n + 1] = 92 from .inr d92)]
                exact next _ rfl
              · rw [if_neg (fun h => d92 (UInt8.toNat_inj.1 (by simp; omega)))]
                simp only
                rw [if_neg (by simp [d34, d92])]
                rfl
          · have hn2 : t.data.toList.drop (i + n + 1) = [] := List.drop_eq_nil_of_le (by rw [t_len]; omega)
            rw [if_pos (by omega), hn2]
            rfl
        · rw [if_neg (fun h => c92 (UInt8.toNat_inj.1 (by simp; omega))), if_neg c92, wrap_nat _ (by omega)]
          have e1 : (((i + n : Nat) : Int)).toNat = i + n := by omega
          have e2 : (((i + n + 1 : Nat) : Int)).toNat = i + n + 1 := by omega
          rw [if_pos (by omega), if_pos (by omega), if_pos (by omega), e1, e2, ext_one t (i + n) hlt, bsize, bsize, if_pos (by simp; omega), bapp]
          exact ih k (by omega) (n + 1) _ (by omega) (by omega) (by simp; omega)
  · have hn2 : t.data.toList.drop (i + n) = [] := List.drop_eq_nil_of_le (by rw [t_len]; omega)
    rw [if_neg (by omega), hn2]
    simp [quotR, qstr]
theorem rquoted_spec (t : ByteArray) (ht : t.size ≤ 1048576) (i : Nat) (hi : i < t.size) : tappetref02_Quoted.f (2 * t.size + 2) t (i : Int) = some (quotR i (qstr [] 1 (t.data.toList.drop (i + 1)))) := by
  unfold tappetref02_Quoted.f
  rw [wrap_nat i (by omega)]
  exact rquoted_l0 t ht i hi _ 1 [] (by omega) (by omega) (by simp)
end Go.Proofs.YtpecmmicndcgjaaGreatDoor.Tok
