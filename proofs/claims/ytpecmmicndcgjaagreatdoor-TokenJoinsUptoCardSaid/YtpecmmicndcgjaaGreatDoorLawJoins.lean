/- THE LAWS' WALKS: TokenJoins answers true, of every list of tokens of bulk at most 2^20. -/
import Derived.Test.YtpecmmicndcgjaaGreatDoorLive
import Derived.Test.YtpecmmicndcgjaaGreatDoorPure5
import Derived.Test.YtpecmmicndcgjaaGreatDoorOpenL
namespace Go.Proofs.YtpecmmicndcgjaaGreatDoor.Tok
open Go.RowKit Go.Proofs.YtpecmmicndcgjaaGreatDoor.PA Go.Proofs.YtpecmmicndcgjaaGreatDoorW.PrintWords Go.Proofs.YtpecmmicndcgjaaGreatDoorW.PrintLast Go.Proofs.YtpecmmicndcgjaaGreatDoor.Sp
set_option linter.unusedVariables false
set_option linter.unusedSimpArgs false
set_option maxRecDepth 100000

theorem room_bulk : ∀ l : List S34, room l ≤ 7 * bulkS l
  | [] => by simp [room, bulkS]
  | x :: l => by
    have := room_bulk l
    simp only [room, bulkS, List.map_cons, List.sum_cons] at this ⊢
    omega
theorem joinTail_len : ∀ (l : List S34) (s : List Bs), joinF l = some s → (Lib.joinTail [32] s).length ≤ room l
  | [], s, h => by
    simp only [joinF, Option.some.injEq] at h
    subst h
    simp [Lib.joinTail]
  | x :: r, s, h => by
    unfold joinF at h
    split at h
    · cases h
    · rename_i s1 hs
      split at h
      · cases h
      · obtain ⟨s2, h2, rfl⟩ := Option.map_eq_some_iff.1 h
        have h3 := joinTail_len r s2 h2
        have h4 := spell_len _ _ _ _ _ hs
        have e : x.f2.data.toList.length = x.f2.size := by rw [Array.length_toList]; rfl
        simp only [Lib.joinTail, List.map_cons, List.flatten_cons, List.length_append, List.length_singleton, room, List.sum_cons] at h3 ⊢
        omega
theorem join_len (l : List S34) (s : List Bs) (h : joinF l = some s) : (Lib.join s [32]).length ≤ room l := by
  have h1 := joinTail_len l s h
  cases s with
  | nil => simp [Lib.join_nil]
  | cons a s =>
    rw [Lib.join_cons]
    simp only [Lib.joinTail, List.map_cons, List.flatten_cons, List.length_append, List.length_singleton] at h1 ⊢
    omega
theorem join_pair (A0 : Option Addr) (c0 : Nat) (l : List S34) (w : World) (hr : Kd.C k34 w A0 l.length l) (hc : l.length ≤ c0) (hwf : ∀ x ∈ l, 0 ≤ x.f3 ∧ x.f3 < 4294967296) (hb : bulkS l ≤ 1048576) (hG : Glob w) :
    Calls Tryz.prog 17 #[.slice A0 l.length c0] w fun e w' => e = .returned (.tuple #[.string (joinR (joinF l) 0 []).1, .int .i64 (joinR (joinF l) 0 []).2]) ∧ Below w.heap.size w w' :=
  (join_calls A0 c0 l w hr hc (by have := len_bulk l; omega) hwf (fun s hs => by have := join_len l s hs; have := room_bulk l; omega) hG).mono fun e w' hp => by
    obtain ⟨hB, he⟩ := hp
    refine ⟨?_, hB⟩
    rw [he]
    cases joinF l <;> rfl
theorem toks_of_R {w : World} {base : Nat} {ok : Nat → Prop} {v : Value} {l : List S34} (h : Kd.R k34 34 w base ok v l) : ∃ A c, v = .slice A l.length c ∧ l.length ≤ c ∧ Kd.C k34 w A l.length l := by
  obtain ⟨_, inner, hown, hr⟩ := h
  have hK : Reps (k34.K w) 7 l inner := ⟨hr.1, fun j p hj => by
    have := k34_openM (hr.2 j p hj)
    have e := k34_mk w p
    rw [← this] at e
    exact e⟩
  obtain ⟨A, c, rfl, hC⟩ := own_reads_row hown hK rfl
  exact ⟨A, c, rfl, own_cap hown, hC⟩
set_option maxHeartbeats 2000000 in
theorem law_joins (A : Option Addr) (c : Nat) (l : List S34) (w : World) (hC : Kd.C k34 w A l.length l) (hc : l.length ≤ c) (hwf : ∀ x ∈ l, 0 ≤ x.f3 ∧ x.f3 < 4294967296) (hb : bulkS l ≤ 1048576) (hG : Glob w) :
    Calls Tryz.prog 5 #[.slice A l.length c] w fun e w' => e = .returned (.bool true) ∧ Below w.heap.size w w' := by
  have hn := len_bulk l
  have HG := Lib.hid hG
  have HL := Lib.hid hC
  have Hc := Lib.hid hc
  have HN := Lib.hid (show l.length ≤ 1048576 by omega)
  have HR := Lib.hid (rjoin_spec 1048576 (by omega) l (by omega) (fun x hx => ⟨(hwf x hx).1, (hwf x hx).2, by have := size_bulk l x hx; omega⟩) (by have := room_bulk l; omega))
  have HJ := Lib.hid (fun A1 c1 W h1 h2 h3 => join_pair A1 c1 l W h1 h2 hwf hb h3)
  clear hG hC hc hwf hb hn
  generalize joinR (joinF l) 0 [] = R at HR HJ
  obtain ⟨r1, r2⟩ := R
  go_enter Tryz.func5, Tryz.ntmps5
  go_wp2_with (first
    | (at_builtin; refine Kd.R_append_rows (w0 := w) k34 (Rr := k34.K w) w.heap.size rfl (.const (.slice none 0 0)) (.tmp 8) 22 34 (.agg tok0) 56 rfl Tryz.underlying22 (by kernel_rfl) rfl (by decide) (by decide) (.slice none 0 0) [] l A l.length c (fun _ => True) (fun _ => False) rfl rfl (Kd.R_nil _ _ _ _ _) HL.out (fun x cs hx => by rw [k34_open hx]; exact k34_mkM _ _ _ x) (fun k hk => hk.elim) (fun _ _ => trivial) (Below.refl _ _) (Nat.le_refl _) (by have := HN.out; simp; omega) ?_; intro v1 w1 hR hB1 _ _; obtain ⟨A1, c1, rfl, hc1, hC1⟩ := toks_of_R hR; clear hR; have T1 := Lib.hid hC1; have U1 := Lib.hid hc1; have B1 := Lib.hid hB1; clear hB1 hc1 hC1)
    | (go_at_call 17; refine (HJ.out _ _ _ T1.out U1.out (HG.out.below B1.out)).mono ?_; rintro e w2 ⟨rfl, hB2⟩; have T2 := Lib.hid (Kd.C_below T1.out hB2); have B2 := Lib.hid (B1.out.trans (hB2.mono B1.out.size)); clear hB2)
    | (go_at_call 18; refine (tappetref02_Join.calls _ _ _ _ _ _ _ (Kd.C_below HL.out B2.out) Hc.out HR.out).mono ?_; rintro e w3 ⟨rfl, hB3⟩; have T3 := Lib.hid (Kd.C_below T2.out hB3); have B3 := Lib.hid (B2.out.trans (hB3.mono B2.out.size)); clear hB3)
    | (go_at_call 16; refine (num_calls _ _).mono ?_; rintro e w4 ⟨rfl, hB4⟩; have T4 := Lib.hid (Kd.C_below T3.out hB4); have B4 := Lib.hid (B3.out.trans (hB4.mono B3.out.size)); clear hB4)
    | (go_at_call 12; refine (same_calls _ _ _ _ l l _ T4.out (Kd.C_below HL.out B4.out) U1.out Hc.out (by have := HN.out; omega) (same_self l)).mono ?_; rintro e w5 ⟨rfl, hB5⟩; have B5 := Lib.hid (B4.out.trans (hB5.mono B4.out.size)); clear hB5)
    | (go_at_call 13; refine (alive_calls _ (HG.out.below B5.out)).mono ?_; rintro e w6 ⟨rfl, hB6⟩; have B6 := Lib.hid (B5.out.trans (hB6.mono B5.out.size)); clear hB6))
  go_ret
  exact ⟨rfl, B6.out⟩
end Go.Proofs.YtpecmmicndcgjaaGreatDoor.Tok
