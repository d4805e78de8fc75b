/- token.Join's answer and its length, for lists of bulk at most 2^20. -/
import Derived.Test.YtpecmmicndcgjaaGreatDoorJoin
import Derived.Test.YtpecmmicndcgjaaGreatDoorOpenL
namespace Go.Proofs.YtpecmmicndcgjaaGreatDoor.Tok
open Go.RowKit Go.Proofs.YtpecmmicndcgjaaGreatDoor.PA Go.Proofs.YtpecmmicndcgjaaGreatDoorW.PrintWords Go.Proofs.YtpecmmicndcgjaaGreatDoorW.PrintLast Go.Proofs.YtpecmmicndcgjaaGreatDoor.Sp
set_option linter.unusedVariables false
set_option linter.unusedSimpArgs false

theorem decF_lenV : ∀ (f v : Nat) (acc : Bs), (decF f v acc).length ≤ acc.length + f
  | 0, _, acc => Nat.le_refl _
  | f + 1, v, acc => by
    unfold decF
    split
    · simp
    · have := decF_lenV f (v / 10) (UInt8.ofNat (48 + v % 10) :: acc)
      rw [List.length_cons] at this
      omega
theorem spell_lenV (k : Int) (t : Bs) (v : Nat) (h : Bool) (s : Bs) (e : spellT k t v h = some s) : s.length ≤ 3 * t.length + 50 := by
  unfold spellT at e
  split at e
  · split at e <;> simp at e; subst e; omega
  split at e
  · split at e
    · split at e
      · simp at e; subst e
        have := hexF_len v
        simp [hexL]; omega
      · simp at e; subst e
        have := decF_lenV 40 v []
        simp [decT] at *; omega
    · simp at e
  split at e
  · split at e <;> simp at e
    subst e
    have h1 := escT_len t
    have h2 := cnt_le t
    simp [quoteT]; omega
  split at e
  · split at e <;> simp at e; subst e; simp
  split at e
  · split at e <;> simp at e; subst e; simp
  simp at e
def roomV (l : List S34) : Nat := (l.map fun x => 3 * x.f2.size + 60).sum
theorem room_bulkV : ∀ l : List S34, roomV l ≤ 7 * bulkS l
  | [] => by simp [roomV, bulkS]
  | x :: l => by
    have := room_bulkV l
    simp only [roomV, bulkS, List.map_cons, List.sum_cons] at this ⊢
    omega
theorem joinTail_lenV : ∀ (l : List S34) (s : List Bs), joinF l = some s → (Lib.joinTail [32] s).length ≤ roomV l
  | [], s, h => by
    simp only [joinF, Option.some.injEq] at h
    subst h
    simp [Lib.joinTail]
  | x :: r, s, h => by
    unfold joinF at h
    split at h
    · cases h
    · rename_i s1 hs
      split at h
      · cases h
      · obtain ⟨s2, h2, rfl⟩ := Option.map_eq_some_iff.1 h
        have h3 := joinTail_lenV r s2 h2
        have h4 := spell_lenV _ _ _ _ _ hs
        have e : x.f2.data.toList.length = x.f2.size := by rw [Array.length_toList]; rfl
        simp only [Lib.joinTail, List.map_cons, List.flatten_cons, List.length_append, List.length_singleton, roomV, List.sum_cons] at h3 ⊢
        omega
theorem join_lenV (l : List S34) (s : List Bs) (h : joinF l = some s) : (Lib.join s [32]).length ≤ roomV l := by
  have h1 := joinTail_lenV l s h
  cases s with
  | nil => simp [Lib.join_nil]
  | cons a s =>
    rw [Lib.join_cons]
    simp only [Lib.joinTail, List.map_cons, List.flatten_cons, List.length_append, List.length_singleton] at h1 ⊢
    omega
theorem join_val (A0 : Option Addr) (c0 : Nat) (l : List S34) (w : World) (hr : Kd.C k34 w A0 l.length l) (hc : l.length ≤ c0) (hwf : ∀ x ∈ l, 0 ≤ x.f3 ∧ x.f3 < 4294967296) (hb : bulkS l ≤ 1048576) (hG : Glob w) :
    Calls Tryz.prog 17 #[.slice A0 l.length c0] w fun e w' => e = .returned (match joinF l with
      | some s => .tuple #[.string ⟨(Lib.join s [32]).toArray⟩, .int .i64 0]
      | none => .tuple #[.string ⟨#[]⟩, .int .i64 20]) ∧ Below w.heap.size w w' :=
  (join_calls A0 c0 l w hr hc (by have := len_bulk l; omega) hwf (fun s hs => by have := join_lenV l s hs; have := room_bulkV l; omega) hG).mono fun e w' hp => ⟨hp.2, hp.1⟩
end Go.Proofs.YtpecmmicndcgjaaGreatDoor.Tok
