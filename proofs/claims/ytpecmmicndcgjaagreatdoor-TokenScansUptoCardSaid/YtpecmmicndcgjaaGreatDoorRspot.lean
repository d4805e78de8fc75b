/- PLAIN LAWS: the reference's printed Spot, in the plain spec's words. -/
import Derived.Test.YtpecmmicndcgjaaGreatDoorPure1
import Derived.Test.YtpecmmicndcgjaaGreatDoorPAy2
import Derived.Test.YtpecmmicndcgjaaGreatDoorAt
namespace Go.Proofs.YtpecmmicndcgjaaGreatDoor.Tok
open Go.RowKit Go.Proofs.YtpecmmicndcgjaaGreatDoor.PA Go.Proofs.YtpecmmicndcgjaaGreatDoorW.PrintWords Go.Proofs.YtpecmmicndcgjaaGreatDoorW.PrintLast Go.Proofs.YtpecmmicndcgjaaGreatDoor.Sp
set_option linter.unusedVariables false
set_option linter.unusedSimpArgs false

theorem t_len (t : ByteArray) : t.data.toList.length = t.size := by rw [Array.length_toList]; rfl
theorem bt_at (t : ByteArray) (i : Nat) (z : Int) (hz : z = (i : Int)) (h : i < t.size) : bt t z = ((t[i]).toNat : Int) := by
  subst hz; exact bt_nat t i h
theorem wrap_add (n d : Nat) (h : n + d < 9223372036854775807) : wrap64 ((n : Int) + (d : Int)) = ((n + d : Nat) : Int) := by
  unfold wrap64; omega
/-! ### Spot, further, fault -/
theorem spot_lt (t : ByteArray) (m : Nat) (hm : m ≤ t.size) (ht : t.size ≤ 1048576) : (spotT t.data.toList m).1 ≤ 1048577 ∧ (spotT t.data.toList m).2 ≤ 1048577 := by
  have := spot_le t m; omega
theorem rspot_l0 (t : ByteArray) (ht : t.size ≤ 1048576) (off : Nat) (ho : off ≤ t.size) (z : Int) : ∀ (d i : Nat), i + d = off → tappetref02_Spot.l0 (d + 1) t (off : Int) (i : Int) z (((spotT t.data.toList i).1 : Nat) : Int) (((spotT t.data.toList i).2 : Nat) : Int) = some (z, (((spotT t.data.toList off).1 : Nat) : Int), (((spotT t.data.toList off).2 : Nat) : Int))
  | 0, i, h => by
    obtain rfl : i = off := by omega
    simp only [tappetref02_Spot.l0]
    rw [if_neg (by omega)]
  | d + 1, i, h => by
    have hlt : i < t.size := by omega
    have hs := spot_succ t i hlt
    have hb := spot_lt t i (by omega) ht
    have ih := rspot_l0 t ht off ho z d (i + 1) (by omega)
    rw [hs] at ih
    unfold spotStep at ih
    generalize d + 1 = K at ih ⊢
    simp only [tappetref02_Spot.l0]
    rw [if_pos (by omega), if_pos (by omega), if_pos (by omega), bt_nat t i hlt, wrap_nat i (by omega)]
    by_cases h10 : t[i] = 10
    · rw [if_pos h10] at ih
      rw [if_pos (by rw [h10]; rfl), wrap_nat _ (by omega)]
      exact ih
    · rw [if_neg h10] at ih
      rw [if_neg (fun h => h10 (UInt8.toNat_inj.1 (by simp; omega))), wrap_nat _ (by omega)]
      exact ih
theorem rspot_spec (t : ByteArray) (ht : t.size ≤ 1048576) (off : Int) : tappetref02_Spot.f (t.size + 3) t off = some (((clampT off t.size : Nat) : Int), (((spotT t.data.toList (clampT off t.size)).1 : Nat) : Int), (((spotT t.data.toList (clampT off t.size)).2 : Nat) : Int)) := by
  have hc : clampT off t.size ≤ t.size := by unfold clampT; omega
  have key := rspot_l0 t ht (clampT off t.size) hc ((clampT off t.size : Nat) : Int) (clampT off t.size) 0 (by omega)
  have k2 := fuel_le (fun k => tappetref02_Spot.l0 k t ((clampT off t.size : Nat) : Int) 0 ((clampT off t.size : Nat) : Int) 1 1) (fun k => (tappetref02_Spot.mono_l k).2.2 _ _ _ _ _ _) key (by omega : clampT off t.size + 1 ≤ t.size + 1)
  have hcl : clampT off t.size = min off.toNat t.size := rfl
  unfold tappetref02_Spot.f
  by_cases h0 : off < 0
  · have e : ((clampT off t.size : Nat) : Int) = 0 := by omega
    rw [if_pos h0, show (t.size + 3) = (t.size + 2) + 1 from rfl]
    simp only [tappetref02_Spot.j0]
    rw [if_neg (by omega), show (t.size + 2) = (t.size + 1) + 1 from rfl]
    simp only [tappetref02_Spot.j1]
    rw [e] at k2 ⊢
    exact k2
  · rw [if_neg h0, show (t.size + 3) = (t.size + 2) + 1 from rfl]
    simp only [tappetref02_Spot.j0]
    by_cases h1 : off > (t.size : Int)
    · have e : ((clampT off t.size : Nat) : Int) = (t.size : Int) := by omega
      rw [if_pos h1, show (t.size + 2) = (t.size + 1) + 1 from rfl]
      simp only [tappetref02_Spot.j1]
      rw [e] at k2 ⊢
      exact k2
    · have e : ((clampT off t.size : Nat) : Int) = off := by omega
      rw [if_neg h1, show (t.size + 2) = (t.size + 1) + 1 from rfl]
      simp only [tappetref02_Spot.j1]
      rw [e] at k2 ⊢
      exact k2
end Go.Proofs.YtpecmmicndcgjaaGreatDoor.Tok
