/- A part of the set. -/
import Derived.Test.YtmfejjlmflgnbaaGreatDoorZPAy4
import Derived.Test.YtmfejjlmflgnbaaGreatDoorZPAy6
-- Laid by wip/tools/pr.py and pack3.py (the kit's print.py over several roots in one namespace). Not trusted: Lean checks it.
namespace Go.Proofs.YtmfejjlmflgnbaaGreatDoor.PA
open Go.RowKit Go.Proofs.YtmfejjlmflgnbaaGreatDoorW.PrintWords Go.Proofs.YtmfejjlmflgnbaaGreatDoorW.PrintLast Go.Proofs.YtmfejjlmflgnbaaGreatDoorW.PrintMore
attribute [local go_sem] max2_int min2_int max_two min_two max_three min_three max_four min_four   -- for this text's walks alone
set_option linter.unusedVariables false
set_option linter.unusedSimpArgs false

/-! ### tappetref02_Spell: function 98 -/
mutual
def tappetref02_Spell.j0 : Nat → Bool → Int → Int → Int → Int → ByteArray → Int → Bool → Option (ByteArray × Int)
  | 0, _, _, _, _, _, _, _, _ => none
  | k + 1, x4, x158000, x158001, x158002, x158003, x158004, x158005, x158006 => if x158000 = 1 then (if x4 = true then ((tappetref02_Name.f k x158004).bind fun t158 => (tappetref02_Spell.j1 k x4 t158 x158000 x158001 x158002 x158003 x158004 x158005 x158006)) else (tappetref02_Spell.j1 k x4 false x158000 x158001 x158002 x158003 x158004 x158005 x158006)) else (tappetref02_Spell.j1 k x4 false x158000 x158001 x158002 x158003 x158004 x158005 x158006)
def tappetref02_Spell.j1 : Nat → Bool → Bool → Int → Int → Int → Int → ByteArray → Int → Bool → Option (ByteArray × Int)
  | 0, _, _, _, _, _, _, _, _, _ => none
  | k + 1, x4, x14, x158000, x158001, x158002, x158003, x158004, x158005, x158006 => if x14 = true then (some (x158004, 0)) else (if x158000 = 2 then (if x158004.toList = ([] : List UInt8) then (tappetref02_Spell.j2 k x4 x158006 x158000 x158001 x158002 x158003 x158004 x158005 x158006) else (tappetref02_Spell.j2 k x4 false x158000 x158001 x158002 x158003 x158004 x158005 x158006)) else (tappetref02_Spell.j2 k x4 false x158000 x158001 x158002 x158003 x158004 x158005 x158006))
def tappetref02_Spell.j2 : Nat → Bool → Bool → Int → Int → Int → Int → ByteArray → Int → Bool → Option (ByteArray × Int)
  | 0, _, _, _, _, _, _, _, _, _ => none
  | k + 1, x4, x28, x158000, x158001, x158002, x158003, x158004, x158005, x158006 => if x28 = true then ((tappetref02_Hex.f k x158005).bind fun t159 => (some (t159, 0))) else (if x158000 = 2 then (tappetref02_Spell.j3 k x4 (x158004.toList == ([] : List UInt8)) x158000 x158001 x158002 x158003 x158004 x158005 x158006) else (tappetref02_Spell.j3 k x4 false x158000 x158001 x158002 x158003 x158004 x158005 x158006))
def tappetref02_Spell.j3 : Nat → Bool → Bool → Int → Int → Int → Int → ByteArray → Int → Bool → Option (ByteArray × Int)
  | 0, _, _, _, _, _, _, _, _, _ => none
  | k + 1, x4, x44, x158000, x158001, x158002, x158003, x158004, x158005, x158006 => if x44 = true then ((tappetref02_Decimal.f k x158005).bind fun t160 => (some (t160, 0))) else (if x158000 = 3 then (if x4 = true then ((tappetref02_String.f k x158004).bind fun t161 => (tappetref02_Spell.j4 k x4 t161 x158000 x158001 x158002 x158003 x158004 x158005 x158006)) else (tappetref02_Spell.j4 k x4 false x158000 x158001 x158002 x158003 x158004 x158005 x158006)) else (tappetref02_Spell.j4 k x4 false x158000 x158001 x158002 x158003 x158004 x158005 x158006))
def tappetref02_Spell.j4 : Nat → Bool → Bool → Int → Int → Int → Int → ByteArray → Int → Bool → Option (ByteArray × Int)
  | 0, _, _, _, _, _, _, _, _, _ => none
  | k + 1, x4, x56, x158000, x158001, x158002, x158003, x158004, x158005, x158006 => if x56 = true then ((tappetref02_quote.f k x158004).bind fun t162 => (some (t162, 0))) else (if x158000 = 0 then (if x4 = true then (tappetref02_Spell.j5 k x4 (x158004.toList == ([] : List UInt8)) x158000 x158001 x158002 x158003 x158004 x158005 x158006) else (tappetref02_Spell.j5 k x4 false x158000 x158001 x158002 x158003 x158004 x158005 x158006)) else (tappetref02_Spell.j5 k x4 false x158000 x158001 x158002 x158003 x158004 x158005 x158006))
def tappetref02_Spell.j5 : Nat → Bool → Bool → Int → Int → Int → Int → ByteArray → Int → Bool → Option (ByteArray × Int)
  | 0, _, _, _, _, _, _, _, _, _ => none
  | k + 1, x4, x71, x158000, x158001, x158002, x158003, x158004, x158005, x158006 => if x71 = true then (some ((⟨#[]⟩ : ByteArray), 0)) else (if x158000 ≥ 4 then (if x158000 ≤ 8 then (if x4 = true then (if x158004.toList = ([] : List UInt8) then (if 0 ≤ (wrap64 (x158000 - 4)) then (if (wrap64 (x158000 - 4)) ≤ (wrap64 ((wrap64 (x158000 - 4)) + 1)) then (if (wrap64 ((wrap64 (x158000 - 4)) + 1)) ≤ 5 then (some ((⟨#[123, 125, 61, 59, 58]⟩ : ByteArray).extract ((wrap64 (x158000 - 4)) : Int).toNat ((wrap64 ((wrap64 (x158000 - 4)) + 1)) : Int).toNat, 0)) else (none)) else (none)) else (none)) else (some ((⟨#[]⟩ : ByteArray), 20))) else (some ((⟨#[]⟩ : ByteArray), 20))) else (some ((⟨#[]⟩ : ByteArray), 20))) else (some ((⟨#[]⟩ : ByteArray), 20)))
end
def tappetref02_Spell.f (k : Nat) (a0_0 : Int) (a0_1 : Int) (a0_2 : Int) (a0_3 : Int) (a0_4 : ByteArray) (a0_5 : Int) (a0_6 : Bool) : Option (ByteArray × Int) := if a0_5 = 0 then (tappetref02_Spell.j0 k (!a0_6) a0_0 a0_1 a0_2 a0_3 a0_4 a0_5 a0_6) else (tappetref02_Spell.j0 k false a0_0 a0_1 a0_2 a0_3 a0_4 a0_5 a0_6)
theorem tappetref02_Spell.mono_l : ∀ k, (∀ y0 y1 y2 y3 y4 y5 y6 y7, LeO (tappetref02_Spell.j0 k y0 y1 y2 y3 y4 y5 y6 y7) (tappetref02_Spell.j0 (k + 1) y0 y1 y2 y3 y4 y5 y6 y7)) ∧ (∀ y0 y1 y2 y3 y4 y5 y6 y7 y8, LeO (tappetref02_Spell.j1 k y0 y1 y2 y3 y4 y5 y6 y7 y8) (tappetref02_Spell.j1 (k + 1) y0 y1 y2 y3 y4 y5 y6 y7 y8)) ∧ (∀ y0 y1 y2 y3 y4 y5 y6 y7 y8, LeO (tappetref02_Spell.j2 k y0 y1 y2 y3 y4 y5 y6 y7 y8) (tappetref02_Spell.j2 (k + 1) y0 y1 y2 y3 y4 y5 y6 y7 y8)) ∧ (∀ y0 y1 y2 y3 y4 y5 y6 y7 y8, LeO (tappetref02_Spell.j3 k y0 y1 y2 y3 y4 y5 y6 y7 y8) (tappetref02_Spell.j3 (k + 1) y0 y1 y2 y3 y4 y5 y6 y7 y8)) ∧ (∀ y0 y1 y2 y3 y4 y5 y6 y7 y8, LeO (tappetref02_Spell.j4 k y0 y1 y2 y3 y4 y5 y6 y7 y8) (tappetref02_Spell.j4 (k + 1) y0 y1 y2 y3 y4 y5 y6 y7 y8)) ∧ (∀ y0 y1 y2 y3 y4 y5 y6 y7 y8, LeO (tappetref02_Spell.j5 k y0 y1 y2 y3 y4 y5 y6 y7 y8) (tappetref02_Spell.j5 (k + 1) y0 y1 y2 y3 y4 y5 y6 y7 y8))
  | 0 => ⟨fun _ _ _ _ _ _ _ _ r h => by simp [tappetref02_Spell.j0] at h, fun _ _ _ _ _ _ _ _ _ r h => by simp [tappetref02_Spell.j1] at h, fun _ _ _ _ _ _ _ _ _ r h => by simp [tappetref02_Spell.j2] at h, fun _ _ _ _ _ _ _ _ _ r h => by simp [tappetref02_Spell.j3] at h, fun _ _ _ _ _ _ _ _ _ r h => by simp [tappetref02_Spell.j4] at h, fun _ _ _ _ _ _ _ _ _ r h => by simp [tappetref02_Spell.j5] at h⟩
  | k + 1 => by
    obtain ⟨ih0, ih1, ih2, ih3, ih4, ih5⟩ := tappetref02_Spell.mono_l k
    refine ⟨?_, ?_, ?_, ?_, ?_, ?_⟩
    · intro y0 y1 y2 y3 y4 y5 y6 y7
      unfold tappetref02_Spell.j0
      repeat' first
      | (with_reducible exact ih0 _ _ _ _ _ _ _ _)
      | (with_reducible exact ih1 _ _ _ _ _ _ _ _ _)
      | (with_reducible exact ih2 _ _ _ _ _ _ _ _ _)
      | (with_reducible exact ih3 _ _ _ _ _ _ _ _ _)
      | (with_reducible exact ih4 _ _ _ _ _ _ _ _ _)
      | (with_reducible exact ih5 _ _ _ _ _ _ _ _ _)
      | (with_reducible exact tappetref02_Decimal.mono _ _)
      | (with_reducible exact tappetref02_Hex.mono _ _)
      | (with_reducible exact tappetref02_Name.mono _ _)
      | (with_reducible exact tappetref02_String.mono _ _)
      | (with_reducible exact tappetref02_quote.mono _ _)
      | (with_reducible exact LeO.refl _)
      | (with_reducible exact LeO.none _)
      | (with_reducible refine LeO.ite ?_ ?_)
      | (with_reducible refine LeO.bind ?_ (fun _ => ?_))
      | exact ih0 _ _ _ _ _ _ _ _
      | exact ih1 _ _ _ _ _ _ _ _ _
      | exact ih2 _ _ _ _ _ _ _ _ _
      | exact ih3 _ _ _ _ _ _ _ _ _
      | exact ih4 _ _ _ _ _ _ _ _ _
      | exact ih5 _ _ _ _ _ _ _ _ _
      | exact tappetref02_Decimal.mono _ _
      | exact tappetref02_Hex.mono _ _
      | exact tappetref02_Name.mono _ _
      | exact tappetref02_String.mono _ _
      | exact tappetref02_quote.mono _ _
      | exact LeO.none _
      | refine LeO.ite ?_ ?_
      | refine LeO.bind ?_ (fun _ => ?_)
    · intro y0 y1 y2 y3 y4 y5 y6 y7 y8
      unfold tappetref02_Spell.j1
      repeat' first
      | (with_reducible exact ih0 _ _ _ _ _ _ _ _)
      | (with_reducible exact ih1 _ _ _ _ _ _ _ _ _)
      | (with_reducible exact ih2 _ _ _ _ _ _ _ _ _)
      | (with_reducible exact ih3 _ _ _ _ _ _ _ _ _)
      | (with_reducible exact ih4 _ _ _ _ _ _ _ _ _)
      | (with_reducible exact ih5 _ _ _ _ _ _ _ _ _)
      | (with_reducible exact tappetref02_Decimal.mono _ _)
      | (with_reducible exact tappetref02_Hex.mono _ _)
      | (with_reducible exact tappetref02_Name.mono _ _)
      | (with_reducible exact tappetref02_String.mono _ _)
      | (with_reducible exact tappetref02_quote.mono _ _)
      | (with_reducible exact LeO.refl _)
      | (with_reducible exact LeO.none _)
      | (with_reducible refine LeO.ite ?_ ?_)
      | (with_reducible refine LeO.bind ?_ (fun _ => ?_))
      | exact ih0 _ _ _ _ _ _ _ _
      | exact ih1 _ _ _ _ _ _ _ _ _
      | exact ih2 _ _ _ _ _ _ _ _ _
      | exact ih3 _ _ _ _ _ _ _ _ _
      | exact ih4 _ _ _ _ _ _ _ _ _
      | exact ih5 _ _ _ _ _ _ _ _ _
      | exact tappetref02_Decimal.mono _ _
      | exact tappetref02_Hex.mono _ _
      | exact tappetref02_Name.mono _ _
      | exact tappetref02_String.mono _ _
      | exact tappetref02_quote.mono _ _
      | exact LeO.none _
      | refine LeO.ite ?_ ?_
      | refine LeO.bind ?_ (fun _ => ?_)
    · intro y0 y1 y2 y3 y4 y5 y6 y7 y8
      unfold tappetref02_Spell.j2
      repeat' first
      | (with_reducible exact ih0 _ _ _ _ _ _ _ _)
      | (with_reducible exact ih1 _ _ _ _ _ _ _ _ _)
      | (with_reducible exact ih2 _ _ _ _ _ _ _ _ _)
      | (with_reducible exact ih3 _ _ _ _ _ _ _ _ _)
      | (with_reducible exact ih4 _ _ _ _ _ _ _ _ _)
      | (with_reducible exact ih5 _ _ _ _ _ _ _ _ _)
      | (with_reducible exact tappetref02_Decimal.mono _ _)
      | (with_reducible exact tappetref02_Hex.mono _ _)
      | (with_reducible exact tappetref02_Name.mono _ _)
      | (with_reducible exact tappetref02_String.mono _ _)
      | (with_reducible exact tappetref02_quote.mono _ _)
      | (with_reducible exact LeO.refl _)
      | (with_reducible exact LeO.none _)
      | (with_reducible refine LeO.ite ?_ ?_)
      | (with_reducible refine LeO.bind ?_ (fun _ => ?_))
      | exact ih0 _ _ _ _ _ _ _ _
      | exact ih1 _ _ _ _ _ _ _ _ _
      | exact ih2 _ _ _ _ _ _ _ _ _
      | exact ih3 _ _ _ _ _ _ _ _ _
      | exact ih4 _ _ _ _ _ _ _ _ _
      | exact ih5 _ _ _ _ _ _ _ _ _
      | exact tappetref02_Decimal.mono _ _
      | exact tappetref02_Hex.mono _ _
      | exact tappetref02_Name.mono _ _
      | exact tappetref02_String.mono _ _
      | exact tappetref02_quote.mono _ _
      | exact LeO.none _
      | refine LeO.ite ?_ ?_
      | refine LeO.bind ?_ (fun _ => ?_)
    · intro y0 y1 y2 y3 y4 y5 y6 y7 y8
      unfold tappetref02_Spell.j3
      repeat' first
      | (with_reducible exact ih0 _ _ _ _ _ _ _ _)
      | (with_reducible exact ih1 _ _ _ _ _ _ _ _ _)
      | (with_reducible exact ih2 _ _ _ _ _ _ _ _ _)
      | (with_reducible exact ih3 _ _ _ _ _ _ _ _ _)
      | (with_reducible exact ih4 _ _ _ _ _ _ _ _ _)
      | (with_reducible exact ih5 _ _ _ _ _ _ _ _ _)
      | (with_reducible exact tappetref02_Decimal.mono _ _)
      | (with_reducible exact tappetref02_Hex.mono _ _)
      | (with_reducible exact tappetref02_Name.mono _ _)
      | (with_reducible exact tappetref02_String.mono _ _)
      | (with_reducible exact tappetref02_quote.mono _ _)
      | (with_reducible exact LeO.refl _)
      | (with_reducible exact LeO.none _)
      | (with_reducible refine LeO.ite ?_ ?_)
      | (with_reducible refine LeO.bind ?_ (fun _ => ?_))
      | exact ih0 _ _ _ _ _ _ _ _
      | exact ih1 _ _ _ _ _ _ _ _ _
      | exact ih2 _ _ _ _ _ _ _ _ _
      | exact ih3 _ _ _ _ _ _ _ _ _
      | exact ih4 _ _ _ _ _ _ _ _ _
      | exact ih5 _ _ _ _ _ _ _ _ _
      | exact tappetref02_Decimal.mono _ _
      | exact tappetref02_Hex.mono _ _
      | exact tappetref02_Name.mono _ _
      | exact tappetref02_String.mono _ _
      | exact tappetref02_quote.mono _ _
      | exact LeO.none _
      | refine LeO.ite ?_ ?_
      | refine LeO.bind ?_ (fun _ => ?_)
    · intro y0 y1 y2 y3 y4 y5 y6 y7 y8
      unfold tappetref02_Spell.j4
      repeat' first
      | (with_reducible exact ih0 _ _ _ _ _ _ _ _)
      | (with_reducible exact ih1 _ _ _ _ _ _ _ _ _)
      | (with_reducible exact ih2 _ _ _ _ _ _ _ _ _)
      | (with_reducible exact ih3 _ _ _ _ _ _ _ _ _)
      | (with_reducible exact ih4 _ _ _ _ _ _ _ _ _)
      | (with_reducible exact ih5 _ _ _ _ _ _ _ _ _)
      | (with_reducible exact tappetref02_Decimal.mono _ _)
      | (with_reducible exact tappetref02_Hex.mono _ _)
      | (with_reducible exact tappetref02_Name.mono _ _)
      | (with_reducible exact tappetref02_String.mono _ _)
      | (with_reducible exact tappetref02_quote.mono _ _)
      | (with_reducible exact LeO.refl _)
      | (with_reducible exact LeO.none _)
      | (with_reducible refine LeO.ite ?_ ?_)
      | (with_reducible refine LeO.bind ?_ (fun _ => ?_))
      | exact ih0 _ _ _ _ _ _ _ _
      | exact ih1 _ _ _ _ _ _ _ _ _
      | exact ih2 _ _ _ _ _ _ _ _ _
      | exact ih3 _ _ _ _ _ _ _ _ _
      | exact ih4 _ _ _ _ _ _ _ _ _
      | exact ih5 _ _ _ _ _ _ _ _ _
      | exact tappetref02_Decimal.mono _ _
      | exact tappetref02_Hex.mono _ _
      | exact tappetref02_Name.mono _ _
      | exact tappetref02_String.mono _ _
      | exact tappetref02_quote.mono _ _
      | exact LeO.none _
      | refine LeO.ite ?_ ?_
      | refine LeO.bind ?_ (fun _ => ?_)
    · intro y0 y1 y2 y3 y4 y5 y6 y7 y8
      unfold tappetref02_Spell.j5
      repeat' first
      | (with_reducible exact ih0 _ _ _ _ _ _ _ _)
      | (with_reducible exact ih1 _ _ _ _ _ _ _ _ _)
      | (with_reducible exact ih2 _ _ _ _ _ _ _ _ _)
      | (with_reducible exact ih3 _ _ _ _ _ _ _ _ _)
      | (with_reducible exact ih4 _ _ _ _ _ _ _ _ _)
      | (with_reducible exact ih5 _ _ _ _ _ _ _ _ _)
      | (with_reducible exact tappetref02_Decimal.mono _ _)
      | (with_reducible exact tappetref02_Hex.mono _ _)
      | (with_reducible exact tappetref02_Name.mono _ _)
      | (with_reducible exact tappetref02_String.mono _ _)
      | (with_reducible exact tappetref02_quote.mono _ _)
      | (with_reducible exact LeO.refl _)
      | (with_reducible exact LeO.none _)
      | (with_reducible refine LeO.ite ?_ ?_)
      | (with_reducible refine LeO.bind ?_ (fun _ => ?_))
      | exact ih0 _ _ _ _ _ _ _ _
      | exact ih1 _ _ _ _ _ _ _ _ _
      | exact ih2 _ _ _ _ _ _ _ _ _
      | exact ih3 _ _ _ _ _ _ _ _ _
      | exact ih4 _ _ _ _ _ _ _ _ _
      | exact ih5 _ _ _ _ _ _ _ _ _
      | exact tappetref02_Decimal.mono _ _
      | exact tappetref02_Hex.mono _ _
      | exact tappetref02_Name.mono _ _
      | exact tappetref02_String.mono _ _
      | exact tappetref02_quote.mono _ _
      | exact LeO.none _
      | refine LeO.ite ?_ ?_
      | refine LeO.bind ?_ (fun _ => ?_)
theorem tappetref02_Spell.mono : ∀ a0 a1 a2 a3 a4 a5 a6 k, LeO (tappetref02_Spell.f k a0 a1 a2 a3 a4 a5 a6) (tappetref02_Spell.f (k + 1) a0 a1 a2 a3 a4 a5 a6) := by
  intro a0 a1 a2 a3 a4 a5 a6 k
  obtain ⟨ih0, ih1, ih2, ih3, ih4, ih5⟩ := tappetref02_Spell.mono_l k
  unfold tappetref02_Spell.f
  repeat' first
      | (with_reducible exact ih0 _ _ _ _ _ _ _ _)
      | (with_reducible exact ih1 _ _ _ _ _ _ _ _ _)
      | (with_reducible exact ih2 _ _ _ _ _ _ _ _ _)
      | (with_reducible exact ih3 _ _ _ _ _ _ _ _ _)
      | (with_reducible exact ih4 _ _ _ _ _ _ _ _ _)
      | (with_reducible exact ih5 _ _ _ _ _ _ _ _ _)
      | (with_reducible exact tappetref02_Decimal.mono _ _)
      | (with_reducible exact tappetref02_Hex.mono _ _)
      | (with_reducible exact tappetref02_Name.mono _ _)
      | (with_reducible exact tappetref02_String.mono _ _)
      | (with_reducible exact tappetref02_quote.mono _ _)
      | (with_reducible exact LeO.refl _)
      | (with_reducible exact LeO.none _)
      | (with_reducible refine LeO.ite ?_ ?_)
      | (with_reducible refine LeO.bind ?_ (fun _ => ?_))
      | exact ih0 _ _ _ _ _ _ _ _
      | exact ih1 _ _ _ _ _ _ _ _ _
      | exact ih2 _ _ _ _ _ _ _ _ _
      | exact ih3 _ _ _ _ _ _ _ _ _
      | exact ih4 _ _ _ _ _ _ _ _ _
      | exact ih5 _ _ _ _ _ _ _ _ _
      | exact tappetref02_Decimal.mono _ _
      | exact tappetref02_Hex.mono _ _
      | exact tappetref02_Name.mono _ _
      | exact tappetref02_String.mono _ _
      | exact tappetref02_quote.mono _ _
      | exact LeO.none _
      | refine LeO.ite ?_ ?_
      | refine LeO.bind ?_ (fun _ => ?_)
set_option maxHeartbeats 8000000 in
set_option maxRecDepth 100000 in
theorem tappetref02_Spell.calls (k : Nat) (a0_0 : Int) (a0_1 : Int) (a0_2 : Int) (a0_3 : Int) (a0_4 : ByteArray) (a0_5 : Int) (a0_6 : Bool) (r1 : ByteArray) (r2 : Int) (w : World) (h : tappetref02_Spell.f k a0_0 a0_1 a0_2 a0_3 a0_4 a0_5 a0_6 = some (r1, r2)) :
    Calls Tryz.prog 98 #[.agg #[.int .i64 a0_0, .int .i64 a0_1, .int .i64 a0_2, .int .i64 a0_3, .string a0_4, .int .u32 a0_5, .bool a0_6]] w fun e w' => e = .returned (.tuple #[.string r1, .int .i64 r2]) ∧ Below w.heap.size w w' := by
  have hu104 := Tryz.underlying104
  have HB := Aside0.mk (Below.refl w.heap.size w)
  have H : (if a0_5 = 0 then (tappetref02_Spell.j0 k (!a0_6) a0_0 a0_1 a0_2 a0_3 a0_4 a0_5 a0_6) else (tappetref02_Spell.j0 k false a0_0 a0_1 a0_2 a0_3 a0_4 a0_5 a0_6)) = some (r1, r2) := h
  clear h
  have HC2 := Aside0.mk H
  clear H
  go_enter Tryz.func98, Tryz.ntmps98
  go_upto_region 1 with (first | ((with_reducible refine gate_dst (N := 1) rfl ?_); refine box_event ?hg (N := 1) ?hd (cs := #[.int .i64 a0_0, .int .i64 a0_1, .int .i64 a0_2, .int .i64 a0_3, .string a0_4, .int .u32 a0_5, .bool a0_6]) (t := 104) ?hr ?_; (case hd => rfl); (case hg => rfl); (case hr => first | (go_simp; done) | (go_simp; rfl)); intro gb157 hg w3 hbox hb; have n0_ := Aside0.mk (below_step (by repeat (first | (with_reducible first | exact HB.out | apply below_alloc | apply pw_below_drewN | apply below_drew1) | exact HB.out)) hb); have n1_ := Aside0.mk (hbox); have n2_ := Aside0.mk ((by rw [hg]; exact (below_size (by repeat (first | (with_reducible first | exact HB.out | apply below_alloc | apply pw_below_drewN | apply below_drew1) | exact HB.out))) : w.heap.size ≤ gb157)); have n3_ := Aside0.mk ((by rw [hg]; exact (below_size (by repeat (first | (with_reducible first | exact HB.out | apply below_alloc | apply pw_below_drewN | apply below_drew1) | exact HB.out))) : w.heap.size ≤ gb157)); clear HB; have HB := n0_; have BK157 := n1_; have GW157 := n2_; have GE157 := n3_; clear n0_ n1_ n2_ n3_; clear hb hbox hg))
  (try simp only [Act.put, List.setIfInBounds_toArray, List.set_cons_zero, List.set_cons_succ])
  go_cut [4] (fun v4 wc => ∃ (kq : Nat) (x4_1 : Bool), v4 = .bool x4_1 ∧ Aside0 (tappetref02_Spell.j0 kq x4_1 a0_0 a0_1 a0_2 a0_3 a0_4 a0_5 a0_6 = some (r1, r2)) ∧ Aside0 (kq ≤ k) ∧ Aside0 (wc.heap[gb157]? = some (.cells #[.int .i64 a0_0, .int .i64 a0_1, .int .i64 a0_2, .int .i64 a0_3, .string a0_4, .int .u32 a0_5, .bool a0_6] 104 (0, 0))) ∧ Aside0 (Below w.heap.size w wc))
  case first =>
    have H := HC2.out
    clear HC2
    by_cases c4 : a0_5 = 0
    · rw [if_pos c4] at H
      have c4b0 : (a0_5 == 0) = true := beq_iff_eq.mpr c4
      have c4b1 : (a0_5 != 0) = false := bne_eq_false_iff_eq.mpr c4
      clear c4
      (first | rw [c4b0] | (simp only [i64_w, i32_w]; rw [c4b0]) | skip)
      have H' := Aside0.mk H
      clear H
      have hcz5_0 : w3.cell? ⟨gb157, 0, none⟩ = some (.int .i64 a0_0) := (blk_cell BK157.out 0).trans rfl
      have hcz5_1 : w3.cell? ⟨gb157, 1, none⟩ = some (.int .i64 a0_1) := (blk_cell BK157.out 1).trans rfl
      have hcz5_2 : w3.cell? ⟨gb157, 2, none⟩ = some (.int .i64 a0_2) := (blk_cell BK157.out 2).trans rfl
      have hcz5_3 : w3.cell? ⟨gb157, 3, none⟩ = some (.int .i64 a0_3) := (blk_cell BK157.out 3).trans rfl
      have hcz5_4 : w3.cell? ⟨gb157, 4, none⟩ = some (.string a0_4) := (blk_cell BK157.out 4).trans rfl
      have hcz5_5 : w3.cell? ⟨gb157, 5, none⟩ = some (.int .u32 a0_5) := (blk_cell BK157.out 5).trans rfl
      have hcz5_6 : w3.cell? ⟨gb157, 6, none⟩ = some (.bool a0_6) := (blk_cell BK157.out 6).trans rfl
      have hfz5_0 := blk_frozen BK157.out 0
      have hfz5_1 := blk_frozen BK157.out 1
      have hfz5_2 := blk_frozen BK157.out 2
      have hfz5_3 := blk_frozen BK157.out 3
      have hfz5_4 := blk_frozen BK157.out 4
      have hfz5_5 := blk_frozen BK157.out 5
      have hfz5_6 := blk_frozen BK157.out 6
      go_wp2
      go_meet
      case rel => exact ⟨_, (!a0_6), (by first | rfl | (simp; done) | (simp [*]; done)), H', ⟨by first | omega | exact Nat.le_refl _⟩, ⟨by (with_reducible repeat (first | refine blk_drewN ?_ _ | refine blk_drew ?_ | refine blk_alloc ?_ _)); exact BK157.out⟩, ⟨by repeat (first | (with_reducible first | exact HB.out | apply below_alloc | apply pw_below_drewN | apply below_drew1 | refine below_set ?_ GE157.out) | exact HB.out)⟩⟩
    · rw [if_neg c4] at H
      have c4b0 : (a0_5 == 0) = false := beq_eq_false_iff_ne.mpr c4
      have c4b1 : (a0_5 != 0) = true := bne_iff_ne.mpr c4
      (first | rw [c4b0] | (simp only [i64_w, i32_w]; rw [c4b0]) | skip)
      have H' := Aside0.mk H
      clear H
      have hcz6_0 : w3.cell? ⟨gb157, 0, none⟩ = some (.int .i64 a0_0) := (blk_cell BK157.out 0).trans rfl
      have hcz6_1 : w3.cell? ⟨gb157, 1, none⟩ = some (.int .i64 a0_1) := (blk_cell BK157.out 1).trans rfl
      have hcz6_2 : w3.cell? ⟨gb157, 2, none⟩ = some (.int .i64 a0_2) := (blk_cell BK157.out 2).trans rfl
      have hcz6_3 : w3.cell? ⟨gb157, 3, none⟩ = some (.int .i64 a0_3) := (blk_cell BK157.out 3).trans rfl
      have hcz6_4 : w3.cell? ⟨gb157, 4, none⟩ = some (.string a0_4) := (blk_cell BK157.out 4).trans rfl
      have hcz6_5 : w3.cell? ⟨gb157, 5, none⟩ = some (.int .u32 a0_5) := (blk_cell BK157.out 5).trans rfl
      have hcz6_6 : w3.cell? ⟨gb157, 6, none⟩ = some (.bool a0_6) := (blk_cell BK157.out 6).trans rfl
      have hfz6_0 := blk_frozen BK157.out 0
      have hfz6_1 := blk_frozen BK157.out 1
      have hfz6_2 := blk_frozen BK157.out 2
      have hfz6_3 := blk_frozen BK157.out 3
      have hfz6_4 := blk_frozen BK157.out 4
      have hfz6_5 := blk_frozen BK157.out 5
      have hfz6_6 := blk_frozen BK157.out 6
      go_wp2
      go_meet
      case rel => exact ⟨_, (false), (by first | rfl | (simp; done) | (simp [*]; done)), H', ⟨by first | omega | exact Nat.le_refl _⟩, ⟨by (with_reducible repeat (first | refine blk_drewN ?_ _ | refine blk_drew ?_ | refine blk_alloc ?_ _)); exact BK157.out⟩, ⟨by repeat (first | (with_reducible first | exact HB.out | apply below_alloc | apply pw_below_drewN | apply below_drew1 | refine below_set ?_ GE157.out) | exact HB.out)⟩⟩
  case rest =>
    clear HC2
    try clear p2
    try clear c4
    try clear c4b0
    try clear c4b1
    try clear hcz5_0
    try clear hcz5_1
    try clear hcz5_2
    try clear hcz5_3
    try clear hcz5_4
    try clear hcz5_5
    try clear hcz5_6
    try clear hcz6_0
    try clear hcz6_1
    try clear hcz6_2
    try clear hcz6_3
    try clear hcz6_4
    try clear hcz6_5
    try clear hcz6_6
    try clear hfz5_0
    try clear hfz5_1
    try clear hfz5_2
    try clear hfz5_3
    try clear hfz5_4
    try clear hfz5_5
    try clear hfz5_6
    try clear hfz6_0
    try clear hfz6_1
    try clear hfz6_2
    try clear hfz6_3
    try clear hfz6_4
    try clear hfz6_5
    try clear hfz6_6
    obtain ⟨kq, x4_1, rfl, HA, HJ1, BK157, HB⟩ := hcut
    cases kq with
    | zero => exact absurd HA.out (by simp [tappetref02_Spell.j0])
    | succ kj1 =>
      have H := HA.out
      clear HA
      simp only [tappetref02_Spell.j0] at H
      have HC7 := Aside0.mk H
      clear H
      go_upto_region 2 with (fail)
      go_cut [14] (fun v14 wc => ∃ (kq : Nat) (x14_6 : Bool), v14 = .bool x14_6 ∧ Aside0 (tappetref02_Spell.j1 kq x4_1 x14_6 a0_0 a0_1 a0_2 a0_3 a0_4 a0_5 a0_6 = some (r1, r2)) ∧ Aside0 (kq ≤ kj1) ∧ Aside0 (wc.heap[gb157]? = some (.cells #[.int .i64 a0_0, .int .i64 a0_1, .int .i64 a0_2, .int .i64 a0_3, .string a0_4, .int .u32 a0_5, .bool a0_6] 104 (0, 0))) ∧ Aside0 (Below w.heap.size w wc))
      case first =>
        have H := HC7.out
        clear HC7
        by_cases c8 : a0_0 = 1
        · rw [if_pos c8] at H
          have c8b0 : (a0_0 == 1) = true := beq_iff_eq.mpr c8
          have c8b1 : (a0_0 != 1) = false := bne_eq_false_iff_eq.mpr c8
          clear c8
          (first | rw [c8b0] | (simp only [i64_w, i32_w]; rw [c8b0]) | skip)
          by_cases c9 : x4_1 = true
          · subst c9
            have H1 : ((tappetref02_Name.f kj1 a0_4).bind fun t158 => (tappetref02_Spell.j1 kj1 true t158 a0_0 a0_1 a0_2 a0_3 a0_4 a0_5 a0_6)) = some (r1, r2) := by rw [if_pos rfl] at H; exact H
            clear H
            have H := H1
            clear H1
            replace H := Option.bind_eq_some_iff.mp H
            obtain ⟨t158, A100, H⟩ := H
            replace H : (tappetref02_Spell.j1 kj1 true t158 a0_0 a0_1 a0_2 a0_3 a0_4 a0_5 a0_6) = some (r1, r2) := H
            have A10 := Aside0.mk A100
            clear A100
            have H' := Aside0.mk H
            clear H
            have hcz11_0 : wc.cell? ⟨gb157, 0, none⟩ = some (.int .i64 a0_0) := (blk_cell BK157.out 0).trans rfl
            have hcz11_1 : wc.cell? ⟨gb157, 1, none⟩ = some (.int .i64 a0_1) := (blk_cell BK157.out 1).trans rfl
            have hcz11_2 : wc.cell? ⟨gb157, 2, none⟩ = some (.int .i64 a0_2) := (blk_cell BK157.out 2).trans rfl
            have hcz11_3 : wc.cell? ⟨gb157, 3, none⟩ = some (.int .i64 a0_3) := (blk_cell BK157.out 3).trans rfl
            have hcz11_4 : wc.cell? ⟨gb157, 4, none⟩ = some (.string a0_4) := (blk_cell BK157.out 4).trans rfl
            have hcz11_5 : wc.cell? ⟨gb157, 5, none⟩ = some (.int .u32 a0_5) := (blk_cell BK157.out 5).trans rfl
            have hcz11_6 : wc.cell? ⟨gb157, 6, none⟩ = some (.bool a0_6) := (blk_cell BK157.out 6).trans rfl
            have hfz11_0 := blk_frozen BK157.out 0
            have hfz11_1 := blk_frozen BK157.out 1
            have hfz11_2 := blk_frozen BK157.out 2
            have hfz11_3 := blk_frozen BK157.out 3
            have hfz11_4 := blk_frozen BK157.out 4
            have hfz11_5 := blk_frozen BK157.out 5
            have hfz11_6 := blk_frozen BK157.out 6
            go_wp2_with (first | (go_at_call 39; (with_reducible refine (tappetref02_Name.calls kj1 a0_4 t158 _ A10.out).mono ?_); rintro e w' ⟨rfl, ⟨nd, rfl⟩⟩))
            go_meet
            case rel => exact ⟨_, (t158), (by first | rfl | (simp; done) | (simp [*]; done)), H', ⟨by have := HJ1.out; first | omega | exact Nat.le_refl _⟩, ⟨by (with_reducible repeat (first | refine blk_drewN ?_ _ | refine blk_drew ?_ | refine blk_alloc ?_ _)); exact BK157.out⟩, ⟨by repeat (first | (with_reducible first | exact HB.out | apply below_alloc | apply pw_below_drewN | apply below_drew1 | refine below_set ?_ GE157.out) | exact HB.out)⟩⟩
          · replace c9 := Bool.eq_false_iff.mpr c9
            subst c9
            have H1 : (tappetref02_Spell.j1 kj1 false false a0_0 a0_1 a0_2 a0_3 a0_4 a0_5 a0_6) = some (r1, r2) := by rw [if_neg (show ¬ (false = true) by decide)] at H; exact H
            clear H
            have H := H1
            clear H1
            have H' := Aside0.mk H
            clear H
            have hcz12_0 : wc.cell? ⟨gb157, 0, none⟩ = some (.int .i64 a0_0) := (blk_cell BK157.out 0).trans rfl
            have hcz12_1 : wc.cell? ⟨gb157, 1, none⟩ = some (.int .i64 a0_1) := (blk_cell BK157.out 1).trans rfl
            have hcz12_2 : wc.cell? ⟨gb157, 2, none⟩ = some (.int .i64 a0_2) := (blk_cell BK157.out 2).trans rfl
            have hcz12_3 : wc.cell? ⟨gb157, 3, none⟩ = some (.int .i64 a0_3) := (blk_cell BK157.out 3).trans rfl
            have hcz12_4 : wc.cell? ⟨gb157, 4, none⟩ = some (.string a0_4) := (blk_cell BK157.out 4).trans rfl
            have hcz12_5 : wc.cell? ⟨gb157, 5, none⟩ = some (.int .u32 a0_5) := (blk_cell BK157.out 5).trans rfl
            have hcz12_6 : wc.cell? ⟨gb157, 6, none⟩ = some (.bool a0_6) := (blk_cell BK157.out 6).trans rfl
            have hfz12_0 := blk_frozen BK157.out 0
            have hfz12_1 := blk_frozen BK157.out 1
            have hfz12_2 := blk_frozen BK157.out 2
            have hfz12_3 := blk_frozen BK157.out 3
            have hfz12_4 := blk_frozen BK157.out 4
            have hfz12_5 := blk_frozen BK157.out 5
            have hfz12_6 := blk_frozen BK157.out 6
            go_wp2
            go_meet
            case rel => exact ⟨_, (false), (by first | rfl | (simp; done) | (simp [*]; done)), H', ⟨by have := HJ1.out; first | omega | exact Nat.le_refl _⟩, ⟨by (with_reducible repeat (first | refine blk_drewN ?_ _ | refine blk_drew ?_ | refine blk_alloc ?_ _)); exact BK157.out⟩, ⟨by repeat (first | (with_reducible first | exact HB.out | apply below_alloc | apply pw_below_drewN | apply below_drew1 | refine below_set ?_ GE157.out) | exact HB.out)⟩⟩
        · rw [if_neg c8] at H
          have c8b0 : (a0_0 == 1) = false := beq_eq_false_iff_ne.mpr c8
          have c8b1 : (a0_0 != 1) = true := bne_iff_ne.mpr c8
          (first | rw [c8b0] | (simp only [i64_w, i32_w]; rw [c8b0]) | skip)
          have H' := Aside0.mk H
          clear H
          have hcz13_0 : wc.cell? ⟨gb157, 0, none⟩ = some (.int .i64 a0_0) := (blk_cell BK157.out 0).trans rfl
          have hcz13_1 : wc.cell? ⟨gb157, 1, none⟩ = some (.int .i64 a0_1) := (blk_cell BK157.out 1).trans rfl
          have hcz13_2 : wc.cell? ⟨gb157, 2, none⟩ = some (.int .i64 a0_2) := (blk_cell BK157.out 2).trans rfl
          have hcz13_3 : wc.cell? ⟨gb157, 3, none⟩ = some (.int .i64 a0_3) := (blk_cell BK157.out 3).trans rfl
          have hcz13_4 : wc.cell? ⟨gb157, 4, none⟩ = some (.string a0_4) := (blk_cell BK157.out 4).trans rfl
          have hcz13_5 : wc.cell? ⟨gb157, 5, none⟩ = some (.int .u32 a0_5) := (blk_cell BK157.out 5).trans rfl
          have hcz13_6 : wc.cell? ⟨gb157, 6, none⟩ = some (.bool a0_6) := (blk_cell BK157.out 6).trans rfl
          have hfz13_0 := blk_frozen BK157.out 0
          have hfz13_1 := blk_frozen BK157.out 1
          have hfz13_2 := blk_frozen BK157.out 2
          have hfz13_3 := blk_frozen BK157.out 3
          have hfz13_4 := blk_frozen BK157.out 4
          have hfz13_5 := blk_frozen BK157.out 5
          have hfz13_6 := blk_frozen BK157.out 6
          go_wp2
          go_meet
          case rel => exact ⟨_, (false), (by first | rfl | (simp; done) | (simp [*]; done)), H', ⟨by have := HJ1.out; first | omega | exact Nat.le_refl _⟩, ⟨by (with_reducible repeat (first | refine blk_drewN ?_ _ | refine blk_drew ?_ | refine blk_alloc ?_ _)); exact BK157.out⟩, ⟨by repeat (first | (with_reducible first | exact HB.out | apply below_alloc | apply pw_below_drewN | apply below_drew1 | refine below_set ?_ GE157.out) | exact HB.out)⟩⟩
      case rest =>
        clear HC7
        try clear p2
        try clear c4
        try clear c4b0
        try clear c4b1
        try clear c8
        try clear c8b0
        try clear c8b1
        try clear c9
        try clear hcz11_0
        try clear hcz11_1
        try clear hcz11_2
        try clear hcz11_3
        try clear hcz11_4
        try clear hcz11_5
        try clear hcz11_6
        try clear hcz12_0
        try clear hcz12_1
        try clear hcz12_2
        try clear hcz12_3
        try clear hcz12_4
        try clear hcz12_5
        try clear hcz12_6
        try clear hcz13_0
        try clear hcz13_1
        try clear hcz13_2
        try clear hcz13_3
        try clear hcz13_4
        try clear hcz13_5
        try clear hcz13_6
        try clear hcz5_0
        try clear hcz5_1
        try clear hcz5_2
        try clear hcz5_3
        try clear hcz5_4
        try clear hcz5_5
        try clear hcz5_6
        try clear hcz6_0
        try clear hcz6_1
        try clear hcz6_2
        try clear hcz6_3
        try clear hcz6_4
        try clear hcz6_5
        try clear hcz6_6
        try clear hfz11_0
        try clear hfz11_1
        try clear hfz11_2
        try clear hfz11_3
        try clear hfz11_4
        try clear hfz11_5
        try clear hfz11_6
        try clear hfz12_0
        try clear hfz12_1
        try clear hfz12_2
        try clear hfz12_3
        try clear hfz12_4
        try clear hfz12_5
        try clear hfz12_6
        try clear hfz13_0
        try clear hfz13_1
        try clear hfz13_2
        try clear hfz13_3
        try clear hfz13_4
        try clear hfz13_5
        try clear hfz13_6
        try clear hfz5_0
        try clear hfz5_1
        try clear hfz5_2
        try clear hfz5_3
        try clear hfz5_4
        try clear hfz5_5
        try clear hfz5_6
        try clear hfz6_0
        try clear hfz6_1
        try clear hfz6_2
        try clear hfz6_3
        try clear hfz6_4
        try clear hfz6_5
        try clear hfz6_6
        try clear p2
        obtain ⟨kq, x14_6, rfl, HA, HJ6, BK157, HB⟩ := hcut
        cases kq with
        | zero => exact absurd HA.out (by simp [tappetref02_Spell.j1])
        | succ kj6 =>
          have H := HA.out
          clear HA
          simp only [tappetref02_Spell.j1] at H
          by_cases c14 : x14_6 = true
          · subst c14
            have H1 : (some (a0_4, 0)) = some (r1, r2) := by rw [if_pos rfl] at H; exact H
            clear H
            have H := H1
            clear H1
            simp only [Option.some.injEq, Prod.mk.injEq] at H
            obtain ⟨rfl, rfl⟩ := H
            have hcz15_0 : wc.cell? ⟨gb157, 0, none⟩ = some (.int .i64 a0_0) := (blk_cell BK157.out 0).trans rfl
            have hcz15_1 : wc.cell? ⟨gb157, 1, none⟩ = some (.int .i64 a0_1) := (blk_cell BK157.out 1).trans rfl
            have hcz15_2 : wc.cell? ⟨gb157, 2, none⟩ = some (.int .i64 a0_2) := (blk_cell BK157.out 2).trans rfl
            have hcz15_3 : wc.cell? ⟨gb157, 3, none⟩ = some (.int .i64 a0_3) := (blk_cell BK157.out 3).trans rfl
            have hcz15_4 : wc.cell? ⟨gb157, 4, none⟩ = some (.string a0_4) := (blk_cell BK157.out 4).trans rfl
            have hcz15_5 : wc.cell? ⟨gb157, 5, none⟩ = some (.int .u32 a0_5) := (blk_cell BK157.out 5).trans rfl
            have hcz15_6 : wc.cell? ⟨gb157, 6, none⟩ = some (.bool a0_6) := (blk_cell BK157.out 6).trans rfl
            have hfz15_0 := blk_frozen BK157.out 0
            have hfz15_1 := blk_frozen BK157.out 1
            have hfz15_2 := blk_frozen BK157.out 2
            have hfz15_3 := blk_frozen BK157.out 3
            have hfz15_4 := blk_frozen BK157.out 4
            have hfz15_5 := blk_frozen BK157.out 5
            have hfz15_6 := blk_frozen BK157.out 6
            go_wp2
            go_ret2
            exact ⟨by first | rfl | (simp [errW_none, errW_some] <;> rfl) | (simp [*, errW_none, errW_some] <;> rfl), by repeat (first | (with_reducible first | exact HB.out | apply below_alloc | apply pw_below_drewN | apply below_drew1 | refine below_set ?_ GE157.out) | exact HB.out)⟩
          · replace c14 := Bool.eq_false_iff.mpr c14
            subst c14
            have H1 : (if a0_0 = 2 then (if a0_4.toList = ([] : List UInt8) then (tappetref02_Spell.j2 kj6 x4_1 a0_6 a0_0 a0_1 a0_2 a0_3 a0_4 a0_5 a0_6) else (tappetref02_Spell.j2 kj6 x4_1 false a0_0 a0_1 a0_2 a0_3 a0_4 a0_5 a0_6)) else (tappetref02_Spell.j2 kj6 x4_1 false a0_0 a0_1 a0_2 a0_3 a0_4 a0_5 a0_6)) = some (r1, r2) := by rw [if_neg (show ¬ (false = true) by decide)] at H; exact H
            clear H
            have H := H1
            clear H1
            have HC16 := Aside0.mk H
            clear H
            go_upto_region 4 with (fail)
            go_cut [28] (fun v28 wc => ∃ (kq : Nat) (x28_15 : Bool), v28 = .bool x28_15 ∧ Aside0 (tappetref02_Spell.j2 kq x4_1 x28_15 a0_0 a0_1 a0_2 a0_3 a0_4 a0_5 a0_6 = some (r1, r2)) ∧ Aside0 (kq ≤ kj6) ∧ Aside0 (wc.heap[gb157]? = some (.cells #[.int .i64 a0_0, .int .i64 a0_1, .int .i64 a0_2, .int .i64 a0_3, .string a0_4, .int .u32 a0_5, .bool a0_6] 104 (0, 0))) ∧ Aside0 (Below w.heap.size w wc))
            case first =>
              have H := HC16.out
              clear HC16
              by_cases c17 : a0_0 = 2
              · rw [if_pos c17] at H
                have c17b0 : (a0_0 == 2) = true := beq_iff_eq.mpr c17
                have c17b1 : (a0_0 != 2) = false := bne_eq_false_iff_eq.mpr c17
                clear c17
                (first | rw [c17b0] | (simp only [i64_w, i32_w]; rw [c17b0]) | skip)
                by_cases c18 : a0_4.toList = ([] : List UInt8)
                · rw [if_pos c18] at H
                  have c18b0 : (a0_4.toList == ([] : List UInt8)) = true := beq_iff_eq.mpr c18
                  have c18b1 : (a0_4.toList != ([] : List UInt8)) = false := bne_eq_false_iff_eq.mpr c18
                  clear c18
                  have H' := Aside0.mk H
                  clear H
                  have hcz19_0 : wc.cell? ⟨gb157, 0, none⟩ = some (.int .i64 a0_0) := (blk_cell BK157.out 0).trans rfl
                  have hcz19_1 : wc.cell? ⟨gb157, 1, none⟩ = some (.int .i64 a0_1) := (blk_cell BK157.out 1).trans rfl
                  have hcz19_2 : wc.cell? ⟨gb157, 2, none⟩ = some (.int .i64 a0_2) := (blk_cell BK157.out 2).trans rfl
                  have hcz19_3 : wc.cell? ⟨gb157, 3, none⟩ = some (.int .i64 a0_3) := (blk_cell BK157.out 3).trans rfl
                  have hcz19_4 : wc.cell? ⟨gb157, 4, none⟩ = some (.string a0_4) := (blk_cell BK157.out 4).trans rfl
                  have hcz19_5 : wc.cell? ⟨gb157, 5, none⟩ = some (.int .u32 a0_5) := (blk_cell BK157.out 5).trans rfl
                  have hcz19_6 : wc.cell? ⟨gb157, 6, none⟩ = some (.bool a0_6) := (blk_cell BK157.out 6).trans rfl
                  have hfz19_0 := blk_frozen BK157.out 0
                  have hfz19_1 := blk_frozen BK157.out 1
                  have hfz19_2 := blk_frozen BK157.out 2
                  have hfz19_3 := blk_frozen BK157.out 3
                  have hfz19_4 := blk_frozen BK157.out 4
                  have hfz19_5 := blk_frozen BK157.out 5
                  have hfz19_6 := blk_frozen BK157.out 6
                  go_wp2
                  go_meet
                  case rel => exact ⟨_, (a0_6), (by first | rfl | (simp; done) | (simp [*]; done)), H', ⟨by have := HJ1.out; have := HJ6.out; first | omega | exact Nat.le_refl _⟩, ⟨by (with_reducible repeat (first | refine blk_drewN ?_ _ | refine blk_drew ?_ | refine blk_alloc ?_ _)); exact BK157.out⟩, ⟨by repeat (first | (with_reducible first | exact HB.out | apply below_alloc | apply pw_below_drewN | apply below_drew1 | refine below_set ?_ GE157.out) | exact HB.out)⟩⟩
                · rw [if_neg c18] at H
                  have c18b0 : (a0_4.toList == ([] : List UInt8)) = false := beq_eq_false_iff_ne.mpr c18
                  have c18b1 : (a0_4.toList != ([] : List UInt8)) = true := bne_iff_ne.mpr c18
                  have H' := Aside0.mk H
                  clear H
                  have hcz20_0 : wc.cell? ⟨gb157, 0, none⟩ = some (.int .i64 a0_0) := (blk_cell BK157.out 0).trans rfl
                  have hcz20_1 : wc.cell? ⟨gb157, 1, none⟩ = some (.int .i64 a0_1) := (blk_cell BK157.out 1).trans rfl
                  have hcz20_2 : wc.cell? ⟨gb157, 2, none⟩ = some (.int .i64 a0_2) := (blk_cell BK157.out 2).trans rfl
                  have hcz20_3 : wc.cell? ⟨gb157, 3, none⟩ = some (.int .i64 a0_3) := (blk_cell BK157.out 3).trans rfl
                  have hcz20_4 : wc.cell? ⟨gb157, 4, none⟩ = some (.string a0_4) := (blk_cell BK157.out 4).trans rfl
                  have hcz20_5 : wc.cell? ⟨gb157, 5, none⟩ = some (.int .u32 a0_5) := (blk_cell BK157.out 5).trans rfl
                  have hcz20_6 : wc.cell? ⟨gb157, 6, none⟩ = some (.bool a0_6) := (blk_cell BK157.out 6).trans rfl
                  have hfz20_0 := blk_frozen BK157.out 0
                  have hfz20_1 := blk_frozen BK157.out 1
                  have hfz20_2 := blk_frozen BK157.out 2
                  have hfz20_3 := blk_frozen BK157.out 3
                  have hfz20_4 := blk_frozen BK157.out 4
                  have hfz20_5 := blk_frozen BK157.out 5
                  have hfz20_6 := blk_frozen BK157.out 6
                  go_wp2
                  go_meet
                  case rel => exact ⟨_, (false), (by first | rfl | (simp; done) | (simp [*]; done)), H', ⟨by have := HJ1.out; have := HJ6.out; first | omega | exact Nat.le_refl _⟩, ⟨by (with_reducible repeat (first | refine blk_drewN ?_ _ | refine blk_drew ?_ | refine blk_alloc ?_ _)); exact BK157.out⟩, ⟨by repeat (first | (with_reducible first | exact HB.out | apply below_alloc | apply pw_below_drewN | apply below_drew1 | refine below_set ?_ GE157.out) | exact HB.out)⟩⟩
              · rw [if_neg c17] at H
                have c17b0 : (a0_0 == 2) = false := beq_eq_false_iff_ne.mpr c17
                have c17b1 : (a0_0 != 2) = true := bne_iff_ne.mpr c17
                (first | rw [c17b0] | (simp only [i64_w, i32_w]; rw [c17b0]) | skip)
                have H' := Aside0.mk H
                clear H
                have hcz21_0 : wc.cell? ⟨gb157, 0, none⟩ = some (.int .i64 a0_0) := (blk_cell BK157.out 0).trans rfl
                have hcz21_1 : wc.cell? ⟨gb157, 1, none⟩ = some (.int .i64 a0_1) := (blk_cell BK157.out 1).trans rfl
                have hcz21_2 : wc.cell? ⟨gb157, 2, none⟩ = some (.int .i64 a0_2) := (blk_cell BK157.out 2).trans rfl
                have hcz21_3 : wc.cell? ⟨gb157, 3, none⟩ = some (.int .i64 a0_3) := (blk_cell BK157.out 3).trans rfl
                have hcz21_4 : wc.cell? ⟨gb157, 4, none⟩ = some (.string a0_4) := (blk_cell BK157.out 4).trans rfl
                have hcz21_5 : wc.cell? ⟨gb157, 5, none⟩ = some (.int .u32 a0_5) := (blk_cell BK157.out 5).trans rfl
                have hcz21_6 : wc.cell? ⟨gb157, 6, none⟩ = some (.bool a0_6) := (blk_cell BK157.out 6).trans rfl
                have hfz21_0 := blk_frozen BK157.out 0
                have hfz21_1 := blk_frozen BK157.out 1
                have hfz21_2 := blk_frozen BK157.out 2
                have hfz21_3 := blk_frozen BK157.out 3
                have hfz21_4 := blk_frozen BK157.out 4
                have hfz21_5 := blk_frozen BK157.out 5
                have hfz21_6 := blk_frozen BK157.out 6
                go_wp2
                go_meet
                case rel => exact ⟨_, (false), (by first | rfl | (simp; done) | (simp [*]; done)), H', ⟨by have := HJ1.out; have := HJ6.out; first | omega | exact Nat.le_refl _⟩, ⟨by (with_reducible repeat (first | refine blk_drewN ?_ _ | refine blk_drew ?_ | refine blk_alloc ?_ _)); exact BK157.out⟩, ⟨by repeat (first | (with_reducible first | exact HB.out | apply below_alloc | apply pw_below_drewN | apply below_drew1 | refine below_set ?_ GE157.out) | exact HB.out)⟩⟩
            case rest =>
              clear HC16
              try clear c1
              try clear p2
              try clear c4
              try clear c4b0
              try clear c4b1
              try clear c8
              try clear c8b0
              try clear c8b1
              try clear c9
              try clear c14
              try clear c17
              try clear c17b0
              try clear c17b1
              try clear c18
              try clear c18b0
              try clear c18b1
              try clear hcz11_0
              try clear hcz11_1
              try clear hcz11_2
              try clear hcz11_3
              try clear hcz11_4
              try clear hcz11_5
              try clear hcz11_6
              try clear hcz12_0
              try clear hcz12_1
              try clear hcz12_2
              try clear hcz12_3
              try clear hcz12_4
              try clear hcz12_5
              try clear hcz12_6
              try clear hcz13_0
              try clear hcz13_1
              try clear hcz13_2
              try clear hcz13_3
              try clear hcz13_4
              try clear hcz13_5
              try clear hcz13_6
              try clear hcz15_0
              try clear hcz15_1
              try clear hcz15_2
              try clear hcz15_3
              try clear hcz15_4
              try clear hcz15_5
              try clear hcz15_6
              try clear hcz19_0
              try clear hcz19_1
              try clear hcz19_2
              try clear hcz19_3
              try clear hcz19_4
              try clear hcz19_5
              try clear hcz19_6
              try clear hcz20_0
              try clear hcz20_1
              try clear hcz20_2
              try clear hcz20_3
              try clear hcz20_4
              try clear hcz20_5
              try clear hcz20_6
              try clear hcz21_0
              try clear hcz21_1
              try clear hcz21_2
              try clear hcz21_3
              try clear hcz21_4
              try clear hcz21_5
              try clear hcz21_6
              try clear hcz5_0
              try clear hcz5_1
              try clear hcz5_2
              try clear hcz5_3
              try clear hcz5_4
              try clear hcz5_5
              try clear hcz5_6
              try clear hcz6_0
              try clear hcz6_1
              try clear hcz6_2
              try clear hcz6_3
              try clear hcz6_4
              try clear hcz6_5
              try clear hcz6_6
              try clear hfz11_0
              try clear hfz11_1
              try clear hfz11_2
              try clear hfz11_3
              try clear hfz11_4
              try clear hfz11_5
              try clear hfz11_6
              try clear hfz12_0
              try clear hfz12_1
              try clear hfz12_2
              try clear hfz12_3
              try clear hfz12_4
              try clear hfz12_5
              try clear hfz12_6
              try clear hfz13_0
              try clear hfz13_1
              try clear hfz13_2
              try clear hfz13_3
              try clear hfz13_4
              try clear hfz13_5
              try clear hfz13_6
              try clear hfz15_0
              try clear hfz15_1
              try clear hfz15_2
              try clear hfz15_3
              try clear hfz15_4
              try clear hfz15_5
              try clear hfz15_6
              try clear hfz19_0
              try clear hfz19_1
              try clear hfz19_2
              try clear hfz19_3
              try clear hfz19_4
              try clear hfz19_5
              try clear hfz19_6
              try clear hfz20_0
              try clear hfz20_1
              try clear hfz20_2
              try clear hfz20_3
              try clear hfz20_4
              try clear hfz20_5
              try clear hfz20_6
              try clear hfz21_0
              try clear hfz21_1
              try clear hfz21_2
              try clear hfz21_3
              try clear hfz21_4
              try clear hfz21_5
              try clear hfz21_6
              try clear hfz5_0
              try clear hfz5_1
              try clear hfz5_2
              try clear hfz5_3
              try clear hfz5_4
              try clear hfz5_5
              try clear hfz5_6
              try clear hfz6_0
              try clear hfz6_1
              try clear hfz6_2
              try clear hfz6_3
              try clear hfz6_4
              try clear hfz6_5
              try clear hfz6_6
              try clear p2
              obtain ⟨kq, x28_15, rfl, HA, HJ15, BK157, HB⟩ := hcut
              cases kq with
              | zero => exact absurd HA.out (by simp [tappetref02_Spell.j2])
              | succ kj15 =>
                have H := HA.out
                clear HA
                simp only [tappetref02_Spell.j2] at H
                by_cases c22 : x28_15 = true
                · subst c22
                  have H1 : ((tappetref02_Hex.f kj15 a0_5).bind fun t159 => (some (t159, 0))) = some (r1, r2) := by rw [if_pos rfl] at H; exact H
                  clear H
                  have H := H1
                  clear H1
                  replace H := Option.bind_eq_some_iff.mp H
                  obtain ⟨t159, A230, H⟩ := H
                  replace H : (some (t159, 0)) = some (r1, r2) := H
                  have A23 := Aside0.mk A230
                  clear A230
                  simp only [Option.some.injEq, Prod.mk.injEq] at H
                  obtain ⟨rfl, rfl⟩ := H
                  have hcz24_0 : wc.cell? ⟨gb157, 0, none⟩ = some (.int .i64 a0_0) := (blk_cell BK157.out 0).trans rfl
                  have hcz24_1 : wc.cell? ⟨gb157, 1, none⟩ = some (.int .i64 a0_1) := (blk_cell BK157.out 1).trans rfl
                  have hcz24_2 : wc.cell? ⟨gb157, 2, none⟩ = some (.int .i64 a0_2) := (blk_cell BK157.out 2).trans rfl
                  have hcz24_3 : wc.cell? ⟨gb157, 3, none⟩ = some (.int .i64 a0_3) := (blk_cell BK157.out 3).trans rfl
                  have hcz24_4 : wc.cell? ⟨gb157, 4, none⟩ = some (.string a0_4) := (blk_cell BK157.out 4).trans rfl
                  have hcz24_5 : wc.cell? ⟨gb157, 5, none⟩ = some (.int .u32 a0_5) := (blk_cell BK157.out 5).trans rfl
                  have hcz24_6 : wc.cell? ⟨gb157, 6, none⟩ = some (.bool a0_6) := (blk_cell BK157.out 6).trans rfl
                  have hfz24_0 := blk_frozen BK157.out 0
                  have hfz24_1 := blk_frozen BK157.out 1
                  have hfz24_2 := blk_frozen BK157.out 2
                  have hfz24_3 := blk_frozen BK157.out 3
                  have hfz24_4 := blk_frozen BK157.out 4
                  have hfz24_5 := blk_frozen BK157.out 5
                  have hfz24_6 := blk_frozen BK157.out 6
                  go_wp2_with (first | ((with_reducible refine gate_callee (f := 133) rfl ?_); refine goesL_ (some 43) rfl rfl Tryz.func133 (by kernel_rfl) rfl #[.int .u32 a0_5] rfl (by (try simp only [List.map_toArray, List.map_cons, List.map_nil]); first | done | rfl | (simp only [List.length_drop, List.length_take]; rfl)) ?_; (with_reducible refine (tappetref02_Hex.calls kj15 a0_5 t159 _ A23.out).mono ?_); rintro e w' ⟨rfl, ⟨nd, rfl⟩⟩; refine ⟨_, rfl, ?_⟩))
                  go_ret2
                  exact ⟨by first | rfl | (simp [errW_none, errW_some] <;> rfl) | (simp [*, errW_none, errW_some] <;> rfl), by repeat (first | (with_reducible first | exact HB.out | apply below_alloc | apply pw_below_drewN | apply below_drew1 | refine below_set ?_ GE157.out) | exact HB.out)⟩
                · replace c22 := Bool.eq_false_iff.mpr c22
                  subst c22
                  have H1 : (if a0_0 = 2 then (tappetref02_Spell.j3 kj15 x4_1 (a0_4.toList == ([] : List UInt8)) a0_0 a0_1 a0_2 a0_3 a0_4 a0_5 a0_6) else (tappetref02_Spell.j3 kj15 x4_1 false a0_0 a0_1 a0_2 a0_3 a0_4 a0_5 a0_6)) = some (r1, r2) := by rw [if_neg (show ¬ (false = true) by decide)] at H; exact H
                  clear H
                  have H := H1
                  clear H1
                  have HC25 := Aside0.mk H
                  clear H
                  go_upto_region 6 with (fail)
                  go_cut [44] (fun v44 wc => ∃ (kq : Nat) (x44_24 : Bool), v44 = .bool x44_24 ∧ Aside0 (tappetref02_Spell.j3 kq x4_1 x44_24 a0_0 a0_1 a0_2 a0_3 a0_4 a0_5 a0_6 = some (r1, r2)) ∧ Aside0 (kq ≤ kj15) ∧ Aside0 (wc.heap[gb157]? = some (.cells #[.int .i64 a0_0, .int .i64 a0_1, .int .i64 a0_2, .int .i64 a0_3, .string a0_4, .int .u32 a0_5, .bool a0_6] 104 (0, 0))) ∧ Aside0 (Below w.heap.size w wc))
                  case first =>
                    have H := HC25.out
                    clear HC25
                    by_cases c26 : a0_0 = 2
                    · rw [if_pos c26] at H
                      have c26b0 : (a0_0 == 2) = true := beq_iff_eq.mpr c26
                      have c26b1 : (a0_0 != 2) = false := bne_eq_false_iff_eq.mpr c26
                      clear c26
                      (first | rw [c26b0] | (simp only [i64_w, i32_w]; rw [c26b0]) | skip)
                      have H' := Aside0.mk H
                      clear H
                      have hcz27_0 : wc.cell? ⟨gb157, 0, none⟩ = some (.int .i64 a0_0) := (blk_cell BK157.out 0).trans rfl
                      have hcz27_1 : wc.cell? ⟨gb157, 1, none⟩ = some (.int .i64 a0_1) := (blk_cell BK157.out 1).trans rfl
                      have hcz27_2 : wc.cell? ⟨gb157, 2, none⟩ = some (.int .i64 a0_2) := (blk_cell BK157.out 2).trans rfl
                      have hcz27_3 : wc.cell? ⟨gb157, 3, none⟩ = some (.int .i64 a0_3) := (blk_cell BK157.out 3).trans rfl
                      have hcz27_4 : wc.cell? ⟨gb157, 4, none⟩ = some (.string a0_4) := (blk_cell BK157.out 4).trans rfl
                      have hcz27_5 : wc.cell? ⟨gb157, 5, none⟩ = some (.int .u32 a0_5) := (blk_cell BK157.out 5).trans rfl
                      have hcz27_6 : wc.cell? ⟨gb157, 6, none⟩ = some (.bool a0_6) := (blk_cell BK157.out 6).trans rfl
                      have hfz27_0 := blk_frozen BK157.out 0
                      have hfz27_1 := blk_frozen BK157.out 1
                      have hfz27_2 := blk_frozen BK157.out 2
                      have hfz27_3 := blk_frozen BK157.out 3
                      have hfz27_4 := blk_frozen BK157.out 4
                      have hfz27_5 := blk_frozen BK157.out 5
                      have hfz27_6 := blk_frozen BK157.out 6
                      go_wp2
                      go_meet
                      case rel => exact ⟨_, ((a0_4.toList == ([] : List UInt8))), (by first | rfl | (simp; done) | (simp [*]; done)), H', ⟨by have := HJ1.out; have := HJ6.out; have := HJ15.out; first | omega | exact Nat.le_refl _⟩, ⟨by (with_reducible repeat (first | refine blk_drewN ?_ _ | refine blk_drew ?_ | refine blk_alloc ?_ _)); exact BK157.out⟩, ⟨by repeat (first | (with_reducible first | exact HB.out | apply below_alloc | apply pw_below_drewN | apply below_drew1 | refine below_set ?_ GE157.out) | exact HB.out)⟩⟩
                    · rw [if_neg c26] at H
                      have c26b0 : (a0_0 == 2) = false := beq_eq_false_iff_ne.mpr c26
                      have c26b1 : (a0_0 != 2) = true := bne_iff_ne.mpr c26
                      (first | rw [c26b0] | (simp only [i64_w, i32_w]; rw [c26b0]) | skip)
                      have H' := Aside0.mk H
                      clear H
                      have hcz28_0 : wc.cell? ⟨gb157, 0, none⟩ = some (.int .i64 a0_0) := (blk_cell BK157.out 0).trans rfl
                      have hcz28_1 : wc.cell? ⟨gb157, 1, none⟩ = some (.int .i64 a0_1) := (blk_cell BK157.out 1).trans rfl
                      have hcz28_2 : wc.cell? ⟨gb157, 2, none⟩ = some (.int .i64 a0_2) := (blk_cell BK157.out 2).trans rfl
                      have hcz28_3 : wc.cell? ⟨gb157, 3, none⟩ = some (.int .i64 a0_3) := (blk_cell BK157.out 3).trans rfl
                      have hcz28_4 : wc.cell? ⟨gb157, 4, none⟩ = some (.string a0_4) := (blk_cell BK157.out 4).trans rfl
                      have hcz28_5 : wc.cell? ⟨gb157, 5, none⟩ = some (.int .u32 a0_5) := (blk_cell BK157.out 5).trans rfl
                      have hcz28_6 : wc.cell? ⟨gb157, 6, none⟩ = some (.bool a0_6) := (blk_cell BK157.out 6).trans rfl
                      have hfz28_0 := blk_frozen BK157.out 0
                      have hfz28_1 := blk_frozen BK157.out 1
                      have hfz28_2 := blk_frozen BK157.out 2
                      have hfz28_3 := blk_frozen BK157.out 3
                      have hfz28_4 := blk_frozen BK157.out 4
                      have hfz28_5 := blk_frozen BK157.out 5
                      have hfz28_6 := blk_frozen BK157.out 6
                      go_wp2
                      go_meet
                      case rel => exact ⟨_, (false), (by first | rfl | (simp; done) | (simp [*]; done)), H', ⟨by have := HJ1.out; have := HJ6.out; have := HJ15.out; first | omega | exact Nat.le_refl _⟩, ⟨by (with_reducible repeat (first | refine blk_drewN ?_ _ | refine blk_drew ?_ | refine blk_alloc ?_ _)); exact BK157.out⟩, ⟨by repeat (first | (with_reducible first | exact HB.out | apply below_alloc | apply pw_below_drewN | apply below_drew1 | refine below_set ?_ GE157.out) | exact HB.out)⟩⟩
                  case rest =>
                    clear HC25
                    try clear c1
                    try clear c2
                    try clear p2
                    try clear c4
                    try clear c4b0
                    try clear c4b1
                    try clear c8
                    try clear c8b0
                    try clear c8b1
                    try clear c9
                    try clear c13
                    try clear c14
                    try clear c17
                    try clear c17b0
                    try clear c17b1
                    try clear c18
                    try clear c18b0
                    try clear c18b1
                    try clear c22
                    try clear c26
                    try clear c26b0
                    try clear c26b1
                    try clear hcz11_0
                    try clear hcz11_1
                    try clear hcz11_2
                    try clear hcz11_3
                    try clear hcz11_4
                    try clear hcz11_5
                    try clear hcz11_6
                    try clear hcz12_0
                    try clear hcz12_1
                    try clear hcz12_2
                    try clear hcz12_3
                    try clear hcz12_4
                    try clear hcz12_5
                    try clear hcz12_6
                    try clear hcz13_0
                    try clear hcz13_1
                    try clear hcz13_2
                    try clear hcz13_3
                    try clear hcz13_4
                    try clear hcz13_5
                    try clear hcz13_6
                    try clear hcz15_0
                    try clear hcz15_1
                    try clear hcz15_2
                    try clear hcz15_3
                    try clear hcz15_4
                    try clear hcz15_5
                    try clear hcz15_6
                    try clear hcz19_0
                    try clear hcz19_1
                    try clear hcz19_2
                    try clear hcz19_3
                    try clear hcz19_4
                    try clear hcz19_5
                    try clear hcz19_6
                    try clear hcz20_0
                    try clear hcz20_1
                    try clear hcz20_2
                    try clear hcz20_3
                    try clear hcz20_4
                    try clear hcz20_5
                    try clear hcz20_6
                    try clear hcz21_0
                    try clear hcz21_1
                    try clear hcz21_2
                    try clear hcz21_3
                    try clear hcz21_4
                    try clear hcz21_5
                    try clear hcz21_6
                    try clear hcz24_0
                    try clear hcz24_1
                    try clear hcz24_2
                    try clear hcz24_3
                    try clear hcz24_4
                    try clear hcz24_5
                    try clear hcz24_6
                    try clear hcz27_0
                    try clear hcz27_1
                    try clear hcz27_2
                    try clear hcz27_3
                    try clear hcz27_4
                    try clear hcz27_5
                    try clear hcz27_6
                    try clear hcz28_0
                    try clear hcz28_1
                    try clear hcz28_2
                    try clear hcz28_3
                    try clear hcz28_4
                    try clear hcz28_5
                    try clear hcz28_6
                    try clear hcz5_0
                    try clear hcz5_1
                    try clear hcz5_2
                    try clear hcz5_3
                    try clear hcz5_4
                    try clear hcz5_5
                    try clear hcz5_6
                    try clear hcz6_0
                    try clear hcz6_1
                    try clear hcz6_2
                    try clear hcz6_3
                    try clear hcz6_4
                    try clear hcz6_5
                    try clear hcz6_6
                    try clear hfz11_0
                    try clear hfz11_1
                    try clear hfz11_2
                    try clear hfz11_3
                    try clear hfz11_4
                    try clear hfz11_5
                    try clear hfz11_6
                    try clear hfz12_0
                    try clear hfz12_1
                    try clear hfz12_2
                    try clear hfz12_3
                    try clear hfz12_4
                    try clear hfz12_5
                    try clear hfz12_6
                    try clear hfz13_0
                    try clear hfz13_1
                    try clear hfz13_2
                    try clear hfz13_3
                    try clear hfz13_4
                    try clear hfz13_5
                    try clear hfz13_6
                    try clear hfz15_0
                    try clear hfz15_1
                    try clear hfz15_2
                    try clear hfz15_3
                    try clear hfz15_4
                    try clear hfz15_5
                    try clear hfz15_6
                    try clear hfz19_0
                    try clear hfz19_1
                    try clear hfz19_2
                    try clear hfz19_3
                    try clear hfz19_4
                    try clear hfz19_5
                    try clear hfz19_6
                    try clear hfz20_0
                    try clear hfz20_1
                    try clear hfz20_2
                    try clear hfz20_3
                    try clear hfz20_4
                    try clear hfz20_5
                    try clear hfz20_6
                    try clear hfz21_0
                    try clear hfz21_1
                    try clear hfz21_2
                    try clear hfz21_3
                    try clear hfz21_4
                    try clear hfz21_5
                    try clear hfz21_6
                    try clear hfz24_0
                    try clear hfz24_1
                    try clear hfz24_2
                    try clear hfz24_3
                    try clear hfz24_4
                    try clear hfz24_5
                    try clear hfz24_6
                    try clear hfz27_0
                    try clear hfz27_1
                    try clear hfz27_2
                    try clear hfz27_3
                    try clear hfz27_4
                    try clear hfz27_5
                    try clear hfz27_6
                    try clear hfz28_0
                    try clear hfz28_1
                    try clear hfz28_2
                    try clear hfz28_3
                    try clear hfz28_4
                    try clear hfz28_5
                    try clear hfz28_6
                    try clear hfz5_0
                    try clear hfz5_1
                    try clear hfz5_2
                    try clear hfz5_3
                    try clear hfz5_4
                    try clear hfz5_5
                    try clear hfz5_6
                    try clear hfz6_0
                    try clear hfz6_1
                    try clear hfz6_2
                    try clear hfz6_3
                    try clear hfz6_4
                    try clear hfz6_5
                    try clear hfz6_6
                    try clear p2
                    obtain ⟨kq, x44_24, rfl, HA, HJ24, BK157, HB⟩ := hcut
                    cases kq with
                    | zero => exact absurd HA.out (by simp [tappetref02_Spell.j3])
                    | succ kj24 =>
                      have H := HA.out
                      clear HA
                      simp only [tappetref02_Spell.j3] at H
                      by_cases c29 : x44_24 = true
                      · subst c29
                        have H1 : ((tappetref02_Decimal.f kj24 a0_5).bind fun t160 => (some (t160, 0))) = some (r1, r2) := by rw [if_pos rfl] at H; exact H
                        clear H
                        have H := H1
                        clear H1
                        replace H := Option.bind_eq_some_iff.mp H
                        obtain ⟨t160, A300, H⟩ := H
                        replace H : (some (t160, 0)) = some (r1, r2) := H
                        have A30 := Aside0.mk A300
                        clear A300
                        simp only [Option.some.injEq, Prod.mk.injEq] at H
                        obtain ⟨rfl, rfl⟩ := H
                        have hcz31_0 : wc.cell? ⟨gb157, 0, none⟩ = some (.int .i64 a0_0) := (blk_cell BK157.out 0).trans rfl
                        have hcz31_1 : wc.cell? ⟨gb157, 1, none⟩ = some (.int .i64 a0_1) := (blk_cell BK157.out 1).trans rfl
                        have hcz31_2 : wc.cell? ⟨gb157, 2, none⟩ = some (.int .i64 a0_2) := (blk_cell BK157.out 2).trans rfl
                        have hcz31_3 : wc.cell? ⟨gb157, 3, none⟩ = some (.int .i64 a0_3) := (blk_cell BK157.out 3).trans rfl
                        have hcz31_4 : wc.cell? ⟨gb157, 4, none⟩ = some (.string a0_4) := (blk_cell BK157.out 4).trans rfl
                        have hcz31_5 : wc.cell? ⟨gb157, 5, none⟩ = some (.int .u32 a0_5) := (blk_cell BK157.out 5).trans rfl
                        have hcz31_6 : wc.cell? ⟨gb157, 6, none⟩ = some (.bool a0_6) := (blk_cell BK157.out 6).trans rfl
                        have hfz31_0 := blk_frozen BK157.out 0
                        have hfz31_1 := blk_frozen BK157.out 1
                        have hfz31_2 := blk_frozen BK157.out 2
                        have hfz31_3 := blk_frozen BK157.out 3
                        have hfz31_4 := blk_frozen BK157.out 4
                        have hfz31_5 := blk_frozen BK157.out 5
                        have hfz31_6 := blk_frozen BK157.out 6
                        go_wp2_with (first | ((with_reducible refine gate_callee (f := 134) rfl ?_); refine goesL_ (some 55) rfl rfl Tryz.func134 (by kernel_rfl) rfl #[.int .u32 a0_5] rfl (by (try simp only [List.map_toArray, List.map_cons, List.map_nil]); first | done | rfl | (simp only [List.length_drop, List.length_take]; rfl)) ?_; (with_reducible refine (tappetref02_Decimal.calls kj24 a0_5 t160 _ A30.out).mono ?_); rintro e w32 ⟨rfl, hb⟩; refine ⟨_, rfl, ?_⟩; have n0_ := Aside0.mk (blk_below (g := gb157) (o := .cells #[.int .i64 a0_0, .int .i64 a0_1, .int .i64 a0_2, .int .i64 a0_3, .string a0_4, .int .u32 a0_5, .bool a0_6] 104 (0, 0)) (by (with_reducible repeat (first | refine blk_drewN ?_ _ | refine blk_drew ?_ | refine blk_alloc ?_ _)); exact BK157.out) hb); have n1_ := Aside0.mk (below_step (by repeat (first | (with_reducible first | exact HB.out | apply below_alloc | apply pw_below_drewN | apply below_drew1 | refine below_set ?_ GE157.out) | exact HB.out)) hb); clear BK157; clear HB; have BK157 := n0_; have HB := n1_; clear n0_ n1_; (try clear hb); (try clear hb2); (try clear hk); (try clear hi)))
                        go_ret2
                        exact ⟨by first | rfl | (simp [errW_none, errW_some] <;> rfl) | (simp [*, errW_none, errW_some] <;> rfl), by repeat (first | (with_reducible first | exact HB.out | apply below_alloc | apply pw_below_drewN | apply below_drew1 | refine below_set ?_ GE157.out) | exact HB.out)⟩
                      · replace c29 := Bool.eq_false_iff.mpr c29
                        subst c29
                        have H1 : (if a0_0 = 3 then (if x4_1 = true then ((tappetref02_String.f kj24 a0_4).bind fun t161 => (tappetref02_Spell.j4 kj24 x4_1 t161 a0_0 a0_1 a0_2 a0_3 a0_4 a0_5 a0_6)) else (tappetref02_Spell.j4 kj24 x4_1 false a0_0 a0_1 a0_2 a0_3 a0_4 a0_5 a0_6)) else (tappetref02_Spell.j4 kj24 x4_1 false a0_0 a0_1 a0_2 a0_3 a0_4 a0_5 a0_6)) = some (r1, r2) := by rw [if_neg (show ¬ (false = true) by decide)] at H; exact H
                        clear H
                        have H := H1
                        clear H1
                        have HC33 := Aside0.mk H
                        clear H
                        go_upto_region 8 with (fail)
                        go_cut [56] (fun v56 wc => ∃ (kq : Nat) (x56_32 : Bool), v56 = .bool x56_32 ∧ Aside0 (tappetref02_Spell.j4 kq x4_1 x56_32 a0_0 a0_1 a0_2 a0_3 a0_4 a0_5 a0_6 = some (r1, r2)) ∧ Aside0 (kq ≤ kj24) ∧ Aside0 (wc.heap[gb157]? = some (.cells #[.int .i64 a0_0, .int .i64 a0_1, .int .i64 a0_2, .int .i64 a0_3, .string a0_4, .int .u32 a0_5, .bool a0_6] 104 (0, 0))) ∧ Aside0 (Below w.heap.size w wc))
                        case first =>
                          have H := HC33.out
                          clear HC33
                          by_cases c34 : a0_0 = 3
                          · rw [if_pos c34] at H
                            have c34b0 : (a0_0 == 3) = true := beq_iff_eq.mpr c34
                            have c34b1 : (a0_0 != 3) = false := bne_eq_false_iff_eq.mpr c34
                            clear c34
                            (first | rw [c34b0] | (simp only [i64_w, i32_w]; rw [c34b0]) | skip)
                            by_cases c35 : x4_1 = true
                            · subst c35
                              have H1 : ((tappetref02_String.f kj24 a0_4).bind fun t161 => (tappetref02_Spell.j4 kj24 true t161 a0_0 a0_1 a0_2 a0_3 a0_4 a0_5 a0_6)) = some (r1, r2) := by rw [if_pos rfl] at H; exact H
                              clear H
                              have H := H1
                              clear H1
                              replace H := Option.bind_eq_some_iff.mp H
                              obtain ⟨t161, A360, H⟩ := H
                              replace H : (tappetref02_Spell.j4 kj24 true t161 a0_0 a0_1 a0_2 a0_3 a0_4 a0_5 a0_6) = some (r1, r2) := H
                              have A36 := Aside0.mk A360
                              clear A360
                              have H' := Aside0.mk H
                              clear H
                              have hcz37_0 : wc.cell? ⟨gb157, 0, none⟩ = some (.int .i64 a0_0) := (blk_cell BK157.out 0).trans rfl
                              have hcz37_1 : wc.cell? ⟨gb157, 1, none⟩ = some (.int .i64 a0_1) := (blk_cell BK157.out 1).trans rfl
                              have hcz37_2 : wc.cell? ⟨gb157, 2, none⟩ = some (.int .i64 a0_2) := (blk_cell BK157.out 2).trans rfl
                              have hcz37_3 : wc.cell? ⟨gb157, 3, none⟩ = some (.int .i64 a0_3) := (blk_cell BK157.out 3).trans rfl
                              have hcz37_4 : wc.cell? ⟨gb157, 4, none⟩ = some (.string a0_4) := (blk_cell BK157.out 4).trans rfl
                              have hcz37_5 : wc.cell? ⟨gb157, 5, none⟩ = some (.int .u32 a0_5) := (blk_cell BK157.out 5).trans rfl
                              have hcz37_6 : wc.cell? ⟨gb157, 6, none⟩ = some (.bool a0_6) := (blk_cell BK157.out 6).trans rfl
                              have hfz37_0 := blk_frozen BK157.out 0
                              have hfz37_1 := blk_frozen BK157.out 1
                              have hfz37_2 := blk_frozen BK157.out 2
                              have hfz37_3 := blk_frozen BK157.out 3
                              have hfz37_4 := blk_frozen BK157.out 4
                              have hfz37_5 := blk_frozen BK157.out 5
                              have hfz37_6 := blk_frozen BK157.out 6
                              go_wp2_with (first | (go_at_call 38; (with_reducible refine (tappetref02_String.calls kj24 a0_4 t161 _ A36.out).mono ?_); rintro e w' ⟨rfl, ⟨nd, rfl⟩⟩))
                              go_meet
                              case rel => exact ⟨_, (t161), (by first | rfl | (simp; done) | (simp [*]; done)), H', ⟨by have := HJ1.out; have := HJ6.out; have := HJ15.out; have := HJ24.out; first | omega | exact Nat.le_refl _⟩, ⟨by (with_reducible repeat (first | refine blk_drewN ?_ _ | refine blk_drew ?_ | refine blk_alloc ?_ _)); exact BK157.out⟩, ⟨by repeat (first | (with_reducible first | exact HB.out | apply below_alloc | apply pw_below_drewN | apply below_drew1 | refine below_set ?_ GE157.out) | exact HB.out)⟩⟩
                            · replace c35 := Bool.eq_false_iff.mpr c35
                              subst c35
                              have H1 : (tappetref02_Spell.j4 kj24 false false a0_0 a0_1 a0_2 a0_3 a0_4 a0_5 a0_6) = some (r1, r2) := by rw [if_neg (show ¬ (false = true) by decide)] at H; exact H
                              clear H
                              have H := H1
                              clear H1
                              have H' := Aside0.mk H
                              clear H
                              have hcz38_0 : wc.cell? ⟨gb157, 0, none⟩ = some (.int .i64 a0_0) := (blk_cell BK157.out 0).trans rfl
                              have hcz38_1 : wc.cell? ⟨gb157, 1, none⟩ = some (.int .i64 a0_1) := (blk_cell BK157.out 1).trans rfl
                              have hcz38_2 : wc.cell? ⟨gb157, 2, none⟩ = some (.int .i64 a0_2) := (blk_cell BK157.out 2).trans rfl
                              have hcz38_3 : wc.cell? ⟨gb157, 3, none⟩ = some (.int .i64 a0_3) := (blk_cell BK157.out 3).trans rfl
                              have hcz38_4 : wc.cell? ⟨gb157, 4, none⟩ = some (.string a0_4) := (blk_cell BK157.out 4).trans rfl
                              have hcz38_5 : wc.cell? ⟨gb157, 5, none⟩ = some (.int .u32 a0_5) := (blk_cell BK157.out 5).trans rfl
                              have hcz38_6 : wc.cell? ⟨gb157, 6, none⟩ = some (.bool a0_6) := (blk_cell BK157.out 6).trans rfl
                              have hfz38_0 := blk_frozen BK157.out 0
                              have hfz38_1 := blk_frozen BK157.out 1
                              have hfz38_2 := blk_frozen BK157.out 2
                              have hfz38_3 := blk_frozen BK157.out 3
                              have hfz38_4 := blk_frozen BK157.out 4
                              have hfz38_5 := blk_frozen BK157.out 5
                              have hfz38_6 := blk_frozen BK157.out 6
                              go_wp2
                              go_meet
                              case rel => exact ⟨_, (false), (by first | rfl | (simp; done) | (simp [*]; done)), H', ⟨by have := HJ1.out; have := HJ6.out; have := HJ15.out; have := HJ24.out; first | omega | exact Nat.le_refl _⟩, ⟨by (with_reducible repeat (first | refine blk_drewN ?_ _ | refine blk_drew ?_ | refine blk_alloc ?_ _)); exact BK157.out⟩, ⟨by repeat (first | (with_reducible first | exact HB.out | apply below_alloc | apply pw_below_drewN | apply below_drew1 | refine below_set ?_ GE157.out) | exact HB.out)⟩⟩
                          · rw [if_neg c34] at H
                            have c34b0 : (a0_0 == 3) = false := beq_eq_false_iff_ne.mpr c34
                            have c34b1 : (a0_0 != 3) = true := bne_iff_ne.mpr c34
                            (first | rw [c34b0] | (simp only [i64_w, i32_w]; rw [c34b0]) | skip)
                            have H' := Aside0.mk H
                            clear H
                            have hcz39_0 : wc.cell? ⟨gb157, 0, none⟩ = some (.int .i64 a0_0) := (blk_cell BK157.out 0).trans rfl
                            have hcz39_1 : wc.cell? ⟨gb157, 1, none⟩ = some (.int .i64 a0_1) := (blk_cell BK157.out 1).trans rfl
                            have hcz39_2 : wc.cell? ⟨gb157, 2, none⟩ = some (.int .i64 a0_2) := (blk_cell BK157.out 2).trans rfl
                            have hcz39_3 : wc.cell? ⟨gb157, 3, none⟩ = some (.int .i64 a0_3) := (blk_cell BK157.out 3).trans rfl
                            have hcz39_4 : wc.cell? ⟨gb157, 4, none⟩ = some (.string a0_4) := (blk_cell BK157.out 4).trans rfl
                            have hcz39_5 : wc.cell? ⟨gb157, 5, none⟩ = some (.int .u32 a0_5) := (blk_cell BK157.out 5).trans rfl
                            have hcz39_6 : wc.cell? ⟨gb157, 6, none⟩ = some (.bool a0_6) := (blk_cell BK157.out 6).trans rfl
                            have hfz39_0 := blk_frozen BK157.out 0
                            have hfz39_1 := blk_frozen BK157.out 1
                            have hfz39_2 := blk_frozen BK157.out 2
                            have hfz39_3 := blk_frozen BK157.out 3
                            have hfz39_4 := blk_frozen BK157.out 4
                            have hfz39_5 := blk_frozen BK157.out 5
                            have hfz39_6 := blk_frozen BK157.out 6
                            go_wp2
                            go_meet
                            case rel => exact ⟨_, (false), (by first | rfl | (simp; done) | (simp [*]; done)), H', ⟨by have := HJ1.out; have := HJ6.out; have := HJ15.out; have := HJ24.out; first | omega | exact Nat.le_refl _⟩, ⟨by (with_reducible repeat (first | refine blk_drewN ?_ _ | refine blk_drew ?_ | refine blk_alloc ?_ _)); exact BK157.out⟩, ⟨by repeat (first | (with_reducible first | exact HB.out | apply below_alloc | apply pw_below_drewN | apply below_drew1 | refine below_set ?_ GE157.out) | exact HB.out)⟩⟩
                        case rest =>
                          clear HC33
                          try clear c1
                          try clear c2
                          try clear p2
                          try clear c3
                          try clear c4
                          try clear c4b0
                          try clear c4b1
                          try clear c8
                          try clear c8b0
                          try clear c8b1
                          try clear c9
                          try clear c13
                          try clear c14
                          try clear c17
                          try clear c17b0
                          try clear c17b1
                          try clear c18
                          try clear c18b0
                          try clear c18b1
                          try clear c22
                          try clear c26
                          try clear c26b0
                          try clear c26b1
                          try clear c29
                          try clear c34
                          try clear c34b0
                          try clear c34b1
                          try clear c35
                          try clear hcz11_0
                          try clear hcz11_1
                          try clear hcz11_2
                          try clear hcz11_3
                          try clear hcz11_4
                          try clear hcz11_5
                          try clear hcz11_6
                          try clear hcz12_0
                          try clear hcz12_1
                          try clear hcz12_2
                          try clear hcz12_3
                          try clear hcz12_4
                          try clear hcz12_5
                          try clear hcz12_6
                          try clear hcz13_0
                          try clear hcz13_1
                          try clear hcz13_2
                          try clear hcz13_3
                          try clear hcz13_4
                          try clear hcz13_5
                          try clear hcz13_6
                          try clear hcz15_0
                          try clear hcz15_1
                          try clear hcz15_2
                          try clear hcz15_3
                          try clear hcz15_4
                          try clear hcz15_5
                          try clear hcz15_6
                          try clear hcz19_0
                          try clear hcz19_1
                          try clear hcz19_2
                          try clear hcz19_3
                          try clear hcz19_4
                          try clear hcz19_5
                          try clear hcz19_6
                          try clear hcz20_0
                          try clear hcz20_1
                          try clear hcz20_2
                          try clear hcz20_3
                          try clear hcz20_4
                          try clear hcz20_5
                          try clear hcz20_6
                          try clear hcz21_0
                          try clear hcz21_1
                          try clear hcz21_2
                          try clear hcz21_3
                          try clear hcz21_4
                          try clear hcz21_5
                          try clear hcz21_6
                          try clear hcz24_0
                          try clear hcz24_1
                          try clear hcz24_2
                          try clear hcz24_3
                          try clear hcz24_4
                          try clear hcz24_5
                          try clear hcz24_6
                          try clear hcz27_0
                          try clear hcz27_1
                          try clear hcz27_2
                          try clear hcz27_3
                          try clear hcz27_4
                          try clear hcz27_5
                          try clear hcz27_6
                          try clear hcz28_0
                          try clear hcz28_1
                          try clear hcz28_2
                          try clear hcz28_3
                          try clear hcz28_4
                          try clear hcz28_5
                          try clear hcz28_6
                          try clear hcz31_0
                          try clear hcz31_1
                          try clear hcz31_2
                          try clear hcz31_3
                          try clear hcz31_4
                          try clear hcz31_5
                          try clear hcz31_6
                          try clear hcz37_0
                          try clear hcz37_1
                          try clear hcz37_2
                          try clear hcz37_3
                          try clear hcz37_4
                          try clear hcz37_5
                          try clear hcz37_6
                          try clear hcz38_0
                          try clear hcz38_1
                          try clear hcz38_2
                          try clear hcz38_3
                          try clear hcz38_4
                          try clear hcz38_5
                          try clear hcz38_6
                          try clear hcz39_0
                          try clear hcz39_1
                          try clear hcz39_2
                          try clear hcz39_3
                          try clear hcz39_4
                          try clear hcz39_5
                          try clear hcz39_6
                          try clear hcz5_0
                          try clear hcz5_1
                          try clear hcz5_2
                          try clear hcz5_3
                          try clear hcz5_4
                          try clear hcz5_5
                          try clear hcz5_6
                          try clear hcz6_0
                          try clear hcz6_1
                          try clear hcz6_2
                          try clear hcz6_3
                          try clear hcz6_4
                          try clear hcz6_5
                          try clear hcz6_6
                          try clear hfz11_0
                          try clear hfz11_1
                          try clear hfz11_2
                          try clear hfz11_3
                          try clear hfz11_4
                          try clear hfz11_5
                          try clear hfz11_6
                          try clear hfz12_0
                          try clear hfz12_1
                          try clear hfz12_2
                          try clear hfz12_3
                          try clear hfz12_4
                          try clear hfz12_5
                          try clear hfz12_6
                          try clear hfz13_0
                          try clear hfz13_1
                          try clear hfz13_2
                          try clear hfz13_3
                          try clear hfz13_4
                          try clear hfz13_5
                          try clear hfz13_6
                          try clear hfz15_0
                          try clear hfz15_1
                          try clear hfz15_2
                          try clear hfz15_3
                          try clear hfz15_4
                          try clear hfz15_5
                          try clear hfz15_6
                          try clear hfz19_0
                          try clear hfz19_1
                          try clear hfz19_2
                          try clear hfz19_3
                          try clear hfz19_4
                          try clear hfz19_5
                          try clear hfz19_6
                          try clear hfz20_0
                          try clear hfz20_1
                          try clear hfz20_2
                          try clear hfz20_3
                          try clear hfz20_4
                          try clear hfz20_5
                          try clear hfz20_6
                          try clear hfz21_0
                          try clear hfz21_1
                          try clear hfz21_2
                          try clear hfz21_3
                          try clear hfz21_4
                          try clear hfz21_5
                          try clear hfz21_6
                          try clear hfz24_0
                          try clear hfz24_1
                          try clear hfz24_2
                          try clear hfz24_3
                          try clear hfz24_4
                          try clear hfz24_5
                          try clear hfz24_6
                          try clear hfz27_0
                          try clear hfz27_1
                          try clear hfz27_2
                          try clear hfz27_3
                          try clear hfz27_4
                          try clear hfz27_5
                          try clear hfz27_6
                          try clear hfz28_0
                          try clear hfz28_1
                          try clear hfz28_2
                          try clear hfz28_3
                          try clear hfz28_4
                          try clear hfz28_5
                          try clear hfz28_6
                          try clear hfz31_0
                          try clear hfz31_1
                          try clear hfz31_2
                          try clear hfz31_3
                          try clear hfz31_4
                          try clear hfz31_5
                          try clear hfz31_6
                          try clear hfz37_0
                          try clear hfz37_1
                          try clear hfz37_2
                          try clear hfz37_3
                          try clear hfz37_4
                          try clear hfz37_5
                          try clear hfz37_6
                          try clear hfz38_0
                          try clear hfz38_1
                          try clear hfz38_2
                          try clear hfz38_3
                          try clear hfz38_4
                          try clear hfz38_5
                          try clear hfz38_6
                          try clear hfz39_0
                          try clear hfz39_1
                          try clear hfz39_2
                          try clear hfz39_3
                          try clear hfz39_4
                          try clear hfz39_5
                          try clear hfz39_6
                          try clear hfz5_0
                          try clear hfz5_1
                          try clear hfz5_2
                          try clear hfz5_3
                          try clear hfz5_4
                          try clear hfz5_5
                          try clear hfz5_6
                          try clear hfz6_0
                          try clear hfz6_1
                          try clear hfz6_2
                          try clear hfz6_3
                          try clear hfz6_4
                          try clear hfz6_5
                          try clear hfz6_6
                          try clear p2
                          obtain ⟨kq, x56_32, rfl, HA, HJ32, BK157, HB⟩ := hcut
                          cases kq with
                          | zero => exact absurd HA.out (by simp [tappetref02_Spell.j4])
                          | succ kj32 =>
                            have H := HA.out
                            clear HA
                            simp only [tappetref02_Spell.j4] at H
                            by_cases c40 : x56_32 = true
                            · subst c40
                              have H1 : ((tappetref02_quote.f kj32 a0_4).bind fun t162 => (some (t162, 0))) = some (r1, r2) := by rw [if_pos rfl] at H; exact H
                              clear H
                              have H := H1
                              clear H1
                              replace H := Option.bind_eq_some_iff.mp H
                              obtain ⟨t162, A410, H⟩ := H
                              replace H : (some (t162, 0)) = some (r1, r2) := H
                              have A41 := Aside0.mk A410
                              clear A410
                              simp only [Option.some.injEq, Prod.mk.injEq] at H
                              obtain ⟨rfl, rfl⟩ := H
                              have hcz42_0 : wc.cell? ⟨gb157, 0, none⟩ = some (.int .i64 a0_0) := (blk_cell BK157.out 0).trans rfl
                              have hcz42_1 : wc.cell? ⟨gb157, 1, none⟩ = some (.int .i64 a0_1) := (blk_cell BK157.out 1).trans rfl
                              have hcz42_2 : wc.cell? ⟨gb157, 2, none⟩ = some (.int .i64 a0_2) := (blk_cell BK157.out 2).trans rfl
                              have hcz42_3 : wc.cell? ⟨gb157, 3, none⟩ = some (.int .i64 a0_3) := (blk_cell BK157.out 3).trans rfl
                              have hcz42_4 : wc.cell? ⟨gb157, 4, none⟩ = some (.string a0_4) := (blk_cell BK157.out 4).trans rfl
                              have hcz42_5 : wc.cell? ⟨gb157, 5, none⟩ = some (.int .u32 a0_5) := (blk_cell BK157.out 5).trans rfl
                              have hcz42_6 : wc.cell? ⟨gb157, 6, none⟩ = some (.bool a0_6) := (blk_cell BK157.out 6).trans rfl
                              have hfz42_0 := blk_frozen BK157.out 0
                              have hfz42_1 := blk_frozen BK157.out 1
                              have hfz42_2 := blk_frozen BK157.out 2
                              have hfz42_3 := blk_frozen BK157.out 3
                              have hfz42_4 := blk_frozen BK157.out 4
                              have hfz42_5 := blk_frozen BK157.out 5
                              have hfz42_6 := blk_frozen BK157.out 6
                              go_wp2_with (first | ((with_reducible refine gate_callee (f := 135) rfl ?_); refine goesL_ (some 70) rfl rfl Tryz.func135 (by kernel_rfl) rfl #[.string a0_4] rfl (by (try simp only [List.map_toArray, List.map_cons, List.map_nil]); first | done | rfl | (simp only [List.length_drop, List.length_take]; rfl)) ?_; (with_reducible refine (tappetref02_quote.calls kj32 a0_4 t162 _ A41.out).mono ?_); rintro e w' ⟨rfl, ⟨nd, rfl⟩⟩; refine ⟨_, rfl, ?_⟩))
                              go_ret2
                              exact ⟨by first | rfl | (simp [errW_none, errW_some] <;> rfl) | (simp [*, errW_none, errW_some] <;> rfl), by repeat (first | (with_reducible first | exact HB.out | apply below_alloc | apply pw_below_drewN | apply below_drew1 | refine below_set ?_ GE157.out) | exact HB.out)⟩
                            · replace c40 := Bool.eq_false_iff.mpr c40
                              subst c40
                              have H1 : (if a0_0 = 0 then (if x4_1 = true then (tappetref02_Spell.j5 kj32 x4_1 (a0_4.toList == ([] : List UInt8)) a0_0 a0_1 a0_2 a0_3 a0_4 a0_5 a0_6) else (tappetref02_Spell.j5 kj32 x4_1 false a0_0 a0_1 a0_2 a0_3 a0_4 a0_5 a0_6)) else (tappetref02_Spell.j5 kj32 x4_1 false a0_0 a0_1 a0_2 a0_3 a0_4 a0_5 a0_6)) = some (r1, r2) := by rw [if_neg (show ¬ (false = true) by decide)] at H; exact H
                              clear H
                              have H := H1
                              clear H1
                              have HC43 := Aside0.mk H
                              clear H
                              go_upto_region 10 with (fail)
                              go_cut [71] (fun v71 wc => ∃ (kq : Nat) (x71_42 : Bool), v71 = .bool x71_42 ∧ Aside0 (tappetref02_Spell.j5 kq x4_1 x71_42 a0_0 a0_1 a0_2 a0_3 a0_4 a0_5 a0_6 = some (r1, r2)) ∧ Aside0 (kq ≤ kj32) ∧ Aside0 (wc.heap[gb157]? = some (.cells #[.int .i64 a0_0, .int .i64 a0_1, .int .i64 a0_2, .int .i64 a0_3, .string a0_4, .int .u32 a0_5, .bool a0_6] 104 (0, 0))) ∧ Aside0 (Below w.heap.size w wc))
                              case first =>
                                have H := HC43.out
                                clear HC43
                                by_cases c44 : a0_0 = 0
                                · rw [if_pos c44] at H
                                  have c44b0 : (a0_0 == 0) = true := beq_iff_eq.mpr c44
                                  have c44b1 : (a0_0 != 0) = false := bne_eq_false_iff_eq.mpr c44
                                  clear c44
                                  (first | rw [c44b0] | (simp only [i64_w, i32_w]; rw [c44b0]) | skip)
                                  by_cases c45 : x4_1 = true
                                  · subst c45
                                    have H1 : (tappetref02_Spell.j5 kj32 true (a0_4.toList == ([] : List UInt8)) a0_0 a0_1 a0_2 a0_3 a0_4 a0_5 a0_6) = some (r1, r2) := by rw [if_pos rfl] at H; exact H
                                    clear H
                                    have H := H1
                                    clear H1
                                    have H' := Aside0.mk H
                                    clear H
                                    have hcz46_0 : wc.cell? ⟨gb157, 0, none⟩ = some (.int .i64 a0_0) := (blk_cell BK157.out 0).trans rfl
                                    have hcz46_1 : wc.cell? ⟨gb157, 1, none⟩ = some (.int .i64 a0_1) := (blk_cell BK157.out 1).trans rfl
                                    have hcz46_2 : wc.cell? ⟨gb157, 2, none⟩ = some (.int .i64 a0_2) := (blk_cell BK157.out 2).trans rfl
                                    have hcz46_3 : wc.cell? ⟨gb157, 3, none⟩ = some (.int .i64 a0_3) := (blk_cell BK157.out 3).trans rfl
                                    have hcz46_4 : wc.cell? ⟨gb157, 4, none⟩ = some (.string a0_4) := (blk_cell BK157.out 4).trans rfl
                                    have hcz46_5 : wc.cell? ⟨gb157, 5, none⟩ = some (.int .u32 a0_5) := (blk_cell BK157.out 5).trans rfl
                                    have hcz46_6 : wc.cell? ⟨gb157, 6, none⟩ = some (.bool a0_6) := (blk_cell BK157.out 6).trans rfl
                                    have hfz46_0 := blk_frozen BK157.out 0
                                    have hfz46_1 := blk_frozen BK157.out 1
                                    have hfz46_2 := blk_frozen BK157.out 2
                                    have hfz46_3 := blk_frozen BK157.out 3
                                    have hfz46_4 := blk_frozen BK157.out 4
                                    have hfz46_5 := blk_frozen BK157.out 5
                                    have hfz46_6 := blk_frozen BK157.out 6
                                    go_wp2
                                    go_meet
                                    case rel => exact ⟨_, ((a0_4.toList == ([] : List UInt8))), (by first | rfl | (simp; done) | (simp [*]; done)), H', ⟨by have := HJ1.out; have := HJ6.out; have := HJ15.out; have := HJ24.out; have := HJ32.out; first | omega | exact Nat.le_refl _⟩, ⟨by (with_reducible repeat (first | refine blk_drewN ?_ _ | refine blk_drew ?_ | refine blk_alloc ?_ _)); exact BK157.out⟩, ⟨by repeat (first | (with_reducible first | exact HB.out | apply below_alloc | apply pw_below_drewN | apply below_drew1 | refine below_set ?_ GE157.out) | exact HB.out)⟩⟩
                                  · replace c45 := Bool.eq_false_iff.mpr c45
                                    subst c45
                                    have H1 : (tappetref02_Spell.j5 kj32 false false a0_0 a0_1 a0_2 a0_3 a0_4 a0_5 a0_6) = some (r1, r2) := by rw [if_neg (show ¬ (false = true) by decide)] at H; exact H
                                    clear H
                                    have H := H1
                                    clear H1
                                    have H' := Aside0.mk H
                                    clear H
                                    have hcz47_0 : wc.cell? ⟨gb157, 0, none⟩ = some (.int .i64 a0_0) := (blk_cell BK157.out 0).trans rfl
                                    have hcz47_1 : wc.cell? ⟨gb157, 1, none⟩ = some (.int .i64 a0_1) := (blk_cell BK157.out 1).trans rfl
                                    have hcz47_2 : wc.cell? ⟨gb157, 2, none⟩ = some (.int .i64 a0_2) := (blk_cell BK157.out 2).trans rfl
                                    have hcz47_3 : wc.cell? ⟨gb157, 3, none⟩ = some (.int .i64 a0_3) := (blk_cell BK157.out 3).trans rfl
                                    have hcz47_4 : wc.cell? ⟨gb157, 4, none⟩ = some (.string a0_4) := (blk_cell BK157.out 4).trans rfl
                                    have hcz47_5 : wc.cell? ⟨gb157, 5, none⟩ = some (.int .u32 a0_5) := (blk_cell BK157.out 5).trans rfl
                                    have hcz47_6 : wc.cell? ⟨gb157, 6, none⟩ = some (.bool a0_6) := (blk_cell BK157.out 6).trans rfl
                                    have hfz47_0 := blk_frozen BK157.out 0
                                    have hfz47_1 := blk_frozen BK157.out 1
                                    have hfz47_2 := blk_frozen BK157.out 2
                                    have hfz47_3 := blk_frozen BK157.out 3
                                    have hfz47_4 := blk_frozen BK157.out 4
                                    have hfz47_5 := blk_frozen BK157.out 5
                                    have hfz47_6 := blk_frozen BK157.out 6
                                    go_wp2
                                    go_meet
                                    case rel => exact ⟨_, (false), (by first | rfl | (simp; done) | (simp [*]; done)), H', ⟨by have := HJ1.out; have := HJ6.out; have := HJ15.out; have := HJ24.out; have := HJ32.out; first | omega | exact Nat.le_refl _⟩, ⟨by (with_reducible repeat (first | refine blk_drewN ?_ _ | refine blk_drew ?_ | refine blk_alloc ?_ _)); exact BK157.out⟩, ⟨by repeat (first | (with_reducible first | exact HB.out | apply below_alloc | apply pw_below_drewN | apply below_drew1 | refine below_set ?_ GE157.out) | exact HB.out)⟩⟩
                                · rw [if_neg c44] at H
                                  have c44b0 : (a0_0 == 0) = false := beq_eq_false_iff_ne.mpr c44
                                  have c44b1 : (a0_0 != 0) = true := bne_iff_ne.mpr c44
                                  (first | rw [c44b0] | (simp only [i64_w, i32_w]; rw [c44b0]) | skip)
                                  have H' := Aside0.mk H
                                  clear H
                                  have hcz48_0 : wc.cell? ⟨gb157, 0, none⟩ = some (.int .i64 a0_0) := (blk_cell BK157.out 0).trans rfl
                                  have hcz48_1 : wc.cell? ⟨gb157, 1, none⟩ = some (.int .i64 a0_1) := (blk_cell BK157.out 1).trans rfl
                                  have hcz48_2 : wc.cell? ⟨gb157, 2, none⟩ = some (.int .i64 a0_2) := (blk_cell BK157.out 2).trans rfl
                                  have hcz48_3 : wc.cell? ⟨gb157, 3, none⟩ = some (.int .i64 a0_3) := (blk_cell BK157.out 3).trans rfl
                                  have hcz48_4 : wc.cell? ⟨gb157, 4, none⟩ = some (.string a0_4) := (blk_cell BK157.out 4).trans rfl
                                  have hcz48_5 : wc.cell? ⟨gb157, 5, none⟩ = some (.int .u32 a0_5) := (blk_cell BK157.out 5).trans rfl
                                  have hcz48_6 : wc.cell? ⟨gb157, 6, none⟩ = some (.bool a0_6) := (blk_cell BK157.out 6).trans rfl
                                  have hfz48_0 := blk_frozen BK157.out 0
                                  have hfz48_1 := blk_frozen BK157.out 1
                                  have hfz48_2 := blk_frozen BK157.out 2
                                  have hfz48_3 := blk_frozen BK157.out 3
                                  have hfz48_4 := blk_frozen BK157.out 4
                                  have hfz48_5 := blk_frozen BK157.out 5
                                  have hfz48_6 := blk_frozen BK157.out 6
                                  go_wp2
                                  go_meet
                                  case rel => exact ⟨_, (false), (by first | rfl | (simp; done) | (simp [*]; done)), H', ⟨by have := HJ1.out; have := HJ6.out; have := HJ15.out; have := HJ24.out; have := HJ32.out; first | omega | exact Nat.le_refl _⟩, ⟨by (with_reducible repeat (first | refine blk_drewN ?_ _ | refine blk_drew ?_ | refine blk_alloc ?_ _)); exact BK157.out⟩, ⟨by repeat (first | (with_reducible first | exact HB.out | apply below_alloc | apply pw_below_drewN | apply below_drew1 | refine below_set ?_ GE157.out) | exact HB.out)⟩⟩
                              case rest =>
                                clear HC43
                                try clear c1
                                try clear c2
                                try clear p2
                                try clear c3
                                try clear c4
                                try clear c4b0
                                try clear c4b1
                                try clear c8
                                try clear c8b0
                                try clear c8b1
                                try clear c9
                                try clear c13
                                try clear c14
                                try clear c17
                                try clear c17b0
                                try clear c17b1
                                try clear c18
                                try clear c18b0
                                try clear c18b1
                                try clear c22
                                try clear c26
                                try clear c26b0
                                try clear c26b1
                                try clear c29
                                try clear c34
                                try clear c34b0
                                try clear c34b1
                                try clear c35
                                try clear c40
                                try clear c44
                                try clear c44b0
                                try clear c44b1
                                try clear c45
                                try clear hcz11_0
                                try clear hcz11_1
                                try clear hcz11_2
                                try clear hcz11_3
                                try clear hcz11_4
                                try clear hcz11_5
                                try clear hcz11_6
                                try clear hcz12_0
                                try clear hcz12_1
                                try clear hcz12_2
                                try clear hcz12_3
                                try clear hcz12_4
                                try clear hcz12_5
                                try clear hcz12_6
                                try clear hcz13_0
                                try clear hcz13_1
                                try clear hcz13_2
                                try clear hcz13_3
                                try clear hcz13_4
                                try clear hcz13_5
                                try clear hcz13_6
                                try clear hcz15_0
                                try clear hcz15_1
                                try clear hcz15_2
                                try clear hcz15_3
                                try clear hcz15_4
                                try clear hcz15_5
                                try clear hcz15_6
                                try clear hcz19_0
                                try clear hcz19_1
                                try clear hcz19_2
                                try clear hcz19_3
                                try clear hcz19_4
                                try clear hcz19_5
                                try clear hcz19_6
                                try clear hcz20_0
                                try clear hcz20_1
                                try clear hcz20_2
                                try clear hcz20_3
                                try clear hcz20_4
                                try clear hcz20_5
                                try clear hcz20_6
                                try clear hcz21_0
                                try clear hcz21_1
                                try clear hcz21_2
                                try clear hcz21_3
                                try clear hcz21_4
                                try clear hcz21_5
                                try clear hcz21_6
                                try clear hcz24_0
                                try clear hcz24_1
                                try clear hcz24_2
                                try clear hcz24_3
                                try clear hcz24_4
                                try clear hcz24_5
                                try clear hcz24_6
                                try clear hcz27_0
                                try clear hcz27_1
                                try clear hcz27_2
                                try clear hcz27_3
                                try clear hcz27_4
                                try clear hcz27_5
                                try clear hcz27_6
                                try clear hcz28_0
                                try clear hcz28_1
                                try clear hcz28_2
                                try clear hcz28_3
                                try clear hcz28_4
                                try clear hcz28_5
                                try clear hcz28_6
                                try clear hcz31_0
                                try clear hcz31_1
                                try clear hcz31_2
                                try clear hcz31_3
                                try clear hcz31_4
                                try clear hcz31_5
                                try clear hcz31_6
                                try clear hcz37_0
                                try clear hcz37_1
                                try clear hcz37_2
                                try clear hcz37_3
                                try clear hcz37_4
                                try clear hcz37_5
                                try clear hcz37_6
                                try clear hcz38_0
                                try clear hcz38_1
                                try clear hcz38_2
                                try clear hcz38_3
                                try clear hcz38_4
                                try clear hcz38_5
                                try clear hcz38_6
                                try clear hcz39_0
                                try clear hcz39_1
                                try clear hcz39_2
                                try clear hcz39_3
                                try clear hcz39_4
                                try clear hcz39_5
                                try clear hcz39_6
                                try clear hcz42_0
                                try clear hcz42_1
                                try clear hcz42_2
                                try clear hcz42_3
                                try clear hcz42_4
                                try clear hcz42_5
                                try clear hcz42_6
                                try clear hcz46_0
                                try clear hcz46_1
                                try clear hcz46_2
                                try clear hcz46_3
                                try clear hcz46_4
                                try clear hcz46_5
                                try clear hcz46_6
                                try clear hcz47_0
                                try clear hcz47_1
                                try clear hcz47_2
                                try clear hcz47_3
                                try clear hcz47_4
                                try clear hcz47_5
                                try clear hcz47_6
                                try clear hcz48_0
                                try clear hcz48_1
                                try clear hcz48_2
                                try clear hcz48_3
                                try clear hcz48_4
                                try clear hcz48_5
                                try clear hcz48_6
                                try clear hcz5_0
                                try clear hcz5_1
                                try clear hcz5_2
                                try clear hcz5_3
                                try clear hcz5_4
                                try clear hcz5_5
                                try clear hcz5_6
                                try clear hcz6_0
                                try clear hcz6_1
                                try clear hcz6_2
                                try clear hcz6_3
                                try clear hcz6_4
                                try clear hcz6_5
                                try clear hcz6_6
                                try clear hfz11_0
                                try clear hfz11_1
                                try clear hfz11_2
                                try clear hfz11_3
                                try clear hfz11_4
                                try clear hfz11_5
                                try clear hfz11_6
                                try clear hfz12_0
                                try clear hfz12_1
                                try clear hfz12_2
                                try clear hfz12_3
                                try clear hfz12_4
                                try clear hfz12_5
                                try clear hfz12_6
                                try clear hfz13_0
                                try clear hfz13_1
                                try clear hfz13_2
                                try clear hfz13_3
                                try clear hfz13_4
                                try clear hfz13_5
                                try clear hfz13_6
                                try clear hfz15_0
                                try clear hfz15_1
                                try clear hfz15_2
                                try clear hfz15_3
                                try clear hfz15_4
                                try clear hfz15_5
                                try clear hfz15_6
                                try clear hfz19_0
                                try clear hfz19_1
                                try clear hfz19_2
                                try clear hfz19_3
                                try clear hfz19_4
                                try clear hfz19_5
                                try clear hfz19_6
                                try clear hfz20_0
                                try clear hfz20_1
                                try clear hfz20_2
                                try clear hfz20_3
                                try clear hfz20_4
                                try clear hfz20_5
                                try clear hfz20_6
                                try clear hfz21_0
                                try clear hfz21_1
                                try clear hfz21_2
                                try clear hfz21_3
                                try clear hfz21_4
                                try clear hfz21_5
                                try clear hfz21_6
                                try clear hfz24_0
                                try clear hfz24_1
                                try clear hfz24_2
                                try clear hfz24_3
                                try clear hfz24_4
                                try clear hfz24_5
                                try clear hfz24_6
                                try clear hfz27_0
                                try clear hfz27_1
                                try clear hfz27_2
                                try clear hfz27_3
                                try clear hfz27_4
                                try clear hfz27_5
                                try clear hfz27_6
                                try clear hfz28_0
                                try clear hfz28_1
                                try clear hfz28_2
                                try clear hfz28_3
                                try clear hfz28_4
                                try clear hfz28_5
                                try clear hfz28_6
                                try clear hfz31_0
                                try clear hfz31_1
                                try clear hfz31_2
                                try clear hfz31_3
                                try clear hfz31_4
                                try clear hfz31_5
                                try clear hfz31_6
                                try clear hfz37_0
                                try clear hfz37_1
                                try clear hfz37_2
                                try clear hfz37_3
                                try clear hfz37_4
                                try clear hfz37_5
                                try clear hfz37_6
                                try clear hfz38_0
                                try clear hfz38_1
                                try clear hfz38_2
                                try clear hfz38_3
                                try clear hfz38_4
                                try clear hfz38_5
                                try clear hfz38_6
                                try clear hfz39_0
                                try clear hfz39_1
                                try clear hfz39_2
                                try clear hfz39_3
                                try clear hfz39_4
                                try clear hfz39_5
                                try clear hfz39_6
                                try clear hfz42_0
                                try clear hfz42_1
                                try clear hfz42_2
                                try clear hfz42_3
                                try clear hfz42_4
                                try clear hfz42_5
                                try clear hfz42_6
                                try clear hfz46_0
                                try clear hfz46_1
                                try clear hfz46_2
                                try clear hfz46_3
                                try clear hfz46_4
                                try clear hfz46_5
                                try clear hfz46_6
                                try clear hfz47_0
                                try clear hfz47_1
                                try clear hfz47_2
                                try clear hfz47_3
                                try clear hfz47_4
                                try clear hfz47_5
                                try clear hfz47_6
                                try clear hfz48_0
                                try clear hfz48_1
                                try clear hfz48_2
                                try clear hfz48_3
                                try clear hfz48_4
                                try clear hfz48_5
                                try clear hfz48_6
                                try clear hfz5_0
                                try clear hfz5_1
                                try clear hfz5_2
                                try clear hfz5_3
                                try clear hfz5_4
                                try clear hfz5_5
                                try clear hfz5_6
                                try clear hfz6_0
                                try clear hfz6_1
                                try clear hfz6_2
                                try clear hfz6_3
                                try clear hfz6_4
                                try clear hfz6_5
                                try clear hfz6_6
                                try clear p2
                                obtain ⟨kq, x71_42, rfl, HA, HJ42, BK157, HB⟩ := hcut
                                cases kq with
                                | zero => exact absurd HA.out (by simp [tappetref02_Spell.j5])
                                | succ kj42 =>
                                  have H := HA.out
                                  clear HA
                                  simp only [tappetref02_Spell.j5] at H
                                  by_cases c49 : x71_42 = true
                                  · subst c49
                                    have H1 : (some ((⟨#[]⟩ : ByteArray), 0)) = some (r1, r2) := by rw [if_pos rfl] at H; exact H
                                    clear H
                                    have H := H1
                                    clear H1
                                    simp only [Option.some.injEq, Prod.mk.injEq] at H
                                    obtain ⟨rfl, rfl⟩ := H
                                    go_wp2
                                    go_ret2
                                    exact ⟨by first | rfl | (simp [errW_none, errW_some] <;> rfl) | (simp [*, errW_none, errW_some] <;> rfl), by repeat (first | (with_reducible first | exact HB.out | apply below_alloc | apply pw_below_drewN | apply below_drew1 | refine below_set ?_ GE157.out) | exact HB.out)⟩
                                  · replace c49 := Bool.eq_false_iff.mpr c49
                                    subst c49
                                    have H1 : (if a0_0 ≥ 4 then (if a0_0 ≤ 8 then (if x4_1 = true then (if a0_4.toList = ([] : List UInt8) then (if 0 ≤ (wrap64 (a0_0 - 4)) then (if (wrap64 (a0_0 - 4)) ≤ (wrap64 ((wrap64 (a0_0 - 4)) + 1)) then (if (wrap64 ((wrap64 (a0_0 - 4)) + 1)) ≤ 5 then (some ((⟨#[123, 125, 61, 59, 58]⟩ : ByteArray).extract ((wrap64 (a0_0 - 4)) : Int).toNat ((wrap64 ((wrap64 (a0_0 - 4)) + 1)) : Int).toNat, 0)) else (none)) else (none)) else (none)) else (some ((⟨#[]⟩ : ByteArray), 20))) else (some ((⟨#[]⟩ : ByteArray), 20))) else (some ((⟨#[]⟩ : ByteArray), 20))) else (some ((⟨#[]⟩ : ByteArray), 20))) = some (r1, r2) := by rw [if_neg (show ¬ (false = true) by decide)] at H; exact H
                                    clear H
                                    have H := H1
                                    clear H1
                                    by_cases c50 : a0_0 ≥ 4
                                    · rw [if_pos c50] at H
                                      have c50b0 : decide (4 ≤ a0_0) = true := decide_eq_true c50
                                      clear c50
                                      by_cases c51 : a0_0 ≤ 8
                                      · rw [if_pos c51] at H
                                        have c51b0 : decide (a0_0 ≤ 8) = true := decide_eq_true c51
                                        clear c51
                                        by_cases c52 : x4_1 = true
                                        · subst c52
                                          have H1 : (if a0_4.toList = ([] : List UInt8) then (if 0 ≤ (wrap64 (a0_0 - 4)) then (if (wrap64 (a0_0 - 4)) ≤ (wrap64 ((wrap64 (a0_0 - 4)) + 1)) then (if (wrap64 ((wrap64 (a0_0 - 4)) + 1)) ≤ 5 then (some ((⟨#[123, 125, 61, 59, 58]⟩ : ByteArray).extract ((wrap64 (a0_0 - 4)) : Int).toNat ((wrap64 ((wrap64 (a0_0 - 4)) + 1)) : Int).toNat, 0)) else (none)) else (none)) else (none)) else (some ((⟨#[]⟩ : ByteArray), 20))) = some (r1, r2) := by rw [if_pos rfl] at H; exact H
                                          clear H
                                          have H := H1
                                          clear H1
                                          by_cases c53 : a0_4.toList = ([] : List UInt8)
                                          · rw [if_pos c53] at H
                                            have c53b0 : (a0_4.toList == ([] : List UInt8)) = true := beq_iff_eq.mpr c53
                                            have c53b1 : (a0_4.toList != ([] : List UInt8)) = false := bne_eq_false_iff_eq.mpr c53
                                            clear c53
                                            obtain ⟨ji54, hji54⟩ : ∃ j_ : Int, (wrap64 (a0_0 - 4)) = j_ := ⟨_, rfl⟩
                                            replace H : (if 0 ≤ (ji54) then (if (ji54) ≤ (wrap64 ((ji54) + 1)) then (if (wrap64 ((ji54) + 1)) ≤ 5 then (some ((⟨#[123, 125, 61, 59, 58]⟩ : ByteArray).extract ((ji54) : Int).toNat ((wrap64 ((ji54) + 1)) : Int).toNat, 0)) else (none)) else (none)) else (none)) = some (r1, r2) := by first | (rw [hji54] at H; exact H) | (simp only [hji54] at H ⊢; exact H)
                                            have hji54w : (IntKind.i64.wrap (a0_0 - 4)) = ji54 := (i64_w _).trans hji54
                                            by_cases c55 : 0 ≤ (ji54)
                                            · rw [if_pos c55] at H
                                              have c55b0 := eq_true c55
                                              have c55b1 : decide (0 ≤ (ji54)) = true := decide_eq_true c55
                                              clear c55
                                              by_cases c56 : (ji54) ≤ (wrap64 ((ji54) + 1))
                                              · rw [if_pos c56] at H
                                                have c56b0 := eq_true c56
                                                have c56b1 : decide ((ji54) ≤ (wrap64 ((ji54) + 1))) = true := decide_eq_true c56
                                                by_cases c57 : (wrap64 ((ji54) + 1)) ≤ 5
                                                · rw [if_pos c57] at H
                                                  have c57b0 := eq_true c57
                                                  have c57b1 : decide ((wrap64 ((ji54) + 1)) ≤ 5) = true := decide_eq_true c57
                                                  simp only [Option.some.injEq, Prod.mk.injEq] at H
                                                  obtain ⟨rfl, rfl⟩ := H
                                                  have hcz58_0 : wc.cell? ⟨gb157, 0, none⟩ = some (.int .i64 a0_0) := (blk_cell BK157.out 0).trans rfl
                                                  have hcz58_1 : wc.cell? ⟨gb157, 1, none⟩ = some (.int .i64 a0_1) := (blk_cell BK157.out 1).trans rfl
                                                  have hcz58_2 : wc.cell? ⟨gb157, 2, none⟩ = some (.int .i64 a0_2) := (blk_cell BK157.out 2).trans rfl
                                                  have hcz58_3 : wc.cell? ⟨gb157, 3, none⟩ = some (.int .i64 a0_3) := (blk_cell BK157.out 3).trans rfl
                                                  have hcz58_4 : wc.cell? ⟨gb157, 4, none⟩ = some (.string a0_4) := (blk_cell BK157.out 4).trans rfl
                                                  have hcz58_5 : wc.cell? ⟨gb157, 5, none⟩ = some (.int .u32 a0_5) := (blk_cell BK157.out 5).trans rfl
                                                  have hcz58_6 : wc.cell? ⟨gb157, 6, none⟩ = some (.bool a0_6) := (blk_cell BK157.out 6).trans rfl
                                                  have hfz58_0 := blk_frozen BK157.out 0
                                                  have hfz58_1 := blk_frozen BK157.out 1
                                                  have hfz58_2 := blk_frozen BK157.out 2
                                                  have hfz58_3 := blk_frozen BK157.out 3
                                                  have hfz58_4 := blk_frozen BK157.out 4
                                                  have hfz58_5 := blk_frozen BK157.out 5
                                                  have hfz58_6 := blk_frozen BK157.out 6
                                                  go_wp2
                                                  go_ret2
                                                  exact ⟨by first | rfl | (simp [errW_none, errW_some] <;> rfl) | (simp only [← hji54]; first | rfl | (simp [errW_none, errW_some] <;> rfl)) | (simp [*, errW_none, errW_some] <;> rfl), by repeat (first | (with_reducible first | exact HB.out | apply below_alloc | apply pw_below_drewN | apply below_drew1 | refine below_set ?_ GE157.out) | exact HB.out)⟩
                                                · rw [if_neg c57] at H
                                                  exact absurd H (by simp)
                                              · rw [if_neg c56] at H
                                                exact absurd H (by simp)
                                            · rw [if_neg c55] at H
                                              exact absurd H (by simp)
                                          · rw [if_neg c53] at H
                                            have c53b0 : (a0_4.toList == ([] : List UInt8)) = false := beq_eq_false_iff_ne.mpr c53
                                            have c53b1 : (a0_4.toList != ([] : List UInt8)) = true := bne_iff_ne.mpr c53
                                            simp only [Option.some.injEq, Prod.mk.injEq] at H
                                            obtain ⟨rfl, rfl⟩ := H
                                            have hcz59_0 : wc.cell? ⟨gb157, 0, none⟩ = some (.int .i64 a0_0) := (blk_cell BK157.out 0).trans rfl
                                            have hcz59_1 : wc.cell? ⟨gb157, 1, none⟩ = some (.int .i64 a0_1) := (blk_cell BK157.out 1).trans rfl
                                            have hcz59_2 : wc.cell? ⟨gb157, 2, none⟩ = some (.int .i64 a0_2) := (blk_cell BK157.out 2).trans rfl
                                            have hcz59_3 : wc.cell? ⟨gb157, 3, none⟩ = some (.int .i64 a0_3) := (blk_cell BK157.out 3).trans rfl
                                            have hcz59_4 : wc.cell? ⟨gb157, 4, none⟩ = some (.string a0_4) := (blk_cell BK157.out 4).trans rfl
                                            have hcz59_5 : wc.cell? ⟨gb157, 5, none⟩ = some (.int .u32 a0_5) := (blk_cell BK157.out 5).trans rfl
                                            have hcz59_6 : wc.cell? ⟨gb157, 6, none⟩ = some (.bool a0_6) := (blk_cell BK157.out 6).trans rfl
                                            have hfz59_0 := blk_frozen BK157.out 0
                                            have hfz59_1 := blk_frozen BK157.out 1
                                            have hfz59_2 := blk_frozen BK157.out 2
                                            have hfz59_3 := blk_frozen BK157.out 3
                                            have hfz59_4 := blk_frozen BK157.out 4
                                            have hfz59_5 := blk_frozen BK157.out 5
                                            have hfz59_6 := blk_frozen BK157.out 6
                                            go_wp2
                                            go_ret2
                                            exact ⟨by first | rfl | (simp [errW_none, errW_some] <;> rfl) | (simp [*, errW_none, errW_some] <;> rfl), by repeat (first | (with_reducible first | exact HB.out | apply below_alloc | apply pw_below_drewN | apply below_drew1 | refine below_set ?_ GE157.out) | exact HB.out)⟩
                                        · replace c52 := Bool.eq_false_iff.mpr c52
                                          subst c52
                                          have H1 : (some ((⟨#[]⟩ : ByteArray), 20)) = some (r1, r2) := by rw [if_neg (show ¬ (false = true) by decide)] at H; exact H
                                          clear H
                                          have H := H1
                                          clear H1
                                          simp only [Option.some.injEq, Prod.mk.injEq] at H
                                          obtain ⟨rfl, rfl⟩ := H
                                          have hcz60_0 : wc.cell? ⟨gb157, 0, none⟩ = some (.int .i64 a0_0) := (blk_cell BK157.out 0).trans rfl
                                          have hcz60_1 : wc.cell? ⟨gb157, 1, none⟩ = some (.int .i64 a0_1) := (blk_cell BK157.out 1).trans rfl
                                          have hcz60_2 : wc.cell? ⟨gb157, 2, none⟩ = some (.int .i64 a0_2) := (blk_cell BK157.out 2).trans rfl
                                          have hcz60_3 : wc.cell? ⟨gb157, 3, none⟩ = some (.int .i64 a0_3) := (blk_cell BK157.out 3).trans rfl
                                          have hcz60_4 : wc.cell? ⟨gb157, 4, none⟩ = some (.string a0_4) := (blk_cell BK157.out 4).trans rfl
                                          have hcz60_5 : wc.cell? ⟨gb157, 5, none⟩ = some (.int .u32 a0_5) := (blk_cell BK157.out 5).trans rfl
                                          have hcz60_6 : wc.cell? ⟨gb157, 6, none⟩ = some (.bool a0_6) := (blk_cell BK157.out 6).trans rfl
                                          have hfz60_0 := blk_frozen BK157.out 0
                                          have hfz60_1 := blk_frozen BK157.out 1
                                          have hfz60_2 := blk_frozen BK157.out 2
                                          have hfz60_3 := blk_frozen BK157.out 3
                                          have hfz60_4 := blk_frozen BK157.out 4
                                          have hfz60_5 := blk_frozen BK157.out 5
                                          have hfz60_6 := blk_frozen BK157.out 6
                                          go_wp2
                                          go_ret2
                                          exact ⟨by first | rfl | (simp [errW_none, errW_some] <;> rfl) | (simp [*, errW_none, errW_some] <;> rfl), by repeat (first | (with_reducible first | exact HB.out | apply below_alloc | apply pw_below_drewN | apply below_drew1 | refine below_set ?_ GE157.out) | exact HB.out)⟩
                                      · rw [if_neg c51] at H
                                        have c51b0 : decide (a0_0 ≤ 8) = false := decide_eq_false c51
                                        clear c51
                                        simp only [Option.some.injEq, Prod.mk.injEq] at H
                                        obtain ⟨rfl, rfl⟩ := H
                                        have hcz61_0 : wc.cell? ⟨gb157, 0, none⟩ = some (.int .i64 a0_0) := (blk_cell BK157.out 0).trans rfl
                                        have hcz61_1 : wc.cell? ⟨gb157, 1, none⟩ = some (.int .i64 a0_1) := (blk_cell BK157.out 1).trans rfl
                                        have hcz61_2 : wc.cell? ⟨gb157, 2, none⟩ = some (.int .i64 a0_2) := (blk_cell BK157.out 2).trans rfl
                                        have hcz61_3 : wc.cell? ⟨gb157, 3, none⟩ = some (.int .i64 a0_3) := (blk_cell BK157.out 3).trans rfl
                                        have hcz61_4 : wc.cell? ⟨gb157, 4, none⟩ = some (.string a0_4) := (blk_cell BK157.out 4).trans rfl
                                        have hcz61_5 : wc.cell? ⟨gb157, 5, none⟩ = some (.int .u32 a0_5) := (blk_cell BK157.out 5).trans rfl
                                        have hcz61_6 : wc.cell? ⟨gb157, 6, none⟩ = some (.bool a0_6) := (blk_cell BK157.out 6).trans rfl
                                        have hfz61_0 := blk_frozen BK157.out 0
                                        have hfz61_1 := blk_frozen BK157.out 1
                                        have hfz61_2 := blk_frozen BK157.out 2
                                        have hfz61_3 := blk_frozen BK157.out 3
                                        have hfz61_4 := blk_frozen BK157.out 4
                                        have hfz61_5 := blk_frozen BK157.out 5
                                        have hfz61_6 := blk_frozen BK157.out 6
                                        go_wp2
                                        go_ret2
                                        exact ⟨by first | rfl | (simp [errW_none, errW_some] <;> rfl) | (simp [*, errW_none, errW_some] <;> rfl), by repeat (first | (with_reducible first | exact HB.out | apply below_alloc | apply pw_below_drewN | apply below_drew1 | refine below_set ?_ GE157.out) | exact HB.out)⟩
                                    · rw [if_neg c50] at H
                                      have c50b0 : decide (4 ≤ a0_0) = false := decide_eq_false c50
                                      clear c50
                                      simp only [Option.some.injEq, Prod.mk.injEq] at H
                                      obtain ⟨rfl, rfl⟩ := H
                                      have hcz62_0 : wc.cell? ⟨gb157, 0, none⟩ = some (.int .i64 a0_0) := (blk_cell BK157.out 0).trans rfl
                                      have hcz62_1 : wc.cell? ⟨gb157, 1, none⟩ = some (.int .i64 a0_1) := (blk_cell BK157.out 1).trans rfl
                                      have hcz62_2 : wc.cell? ⟨gb157, 2, none⟩ = some (.int .i64 a0_2) := (blk_cell BK157.out 2).trans rfl
                                      have hcz62_3 : wc.cell? ⟨gb157, 3, none⟩ = some (.int .i64 a0_3) := (blk_cell BK157.out 3).trans rfl
                                      have hcz62_4 : wc.cell? ⟨gb157, 4, none⟩ = some (.string a0_4) := (blk_cell BK157.out 4).trans rfl
                                      have hcz62_5 : wc.cell? ⟨gb157, 5, none⟩ = some (.int .u32 a0_5) := (blk_cell BK157.out 5).trans rfl
                                      have hcz62_6 : wc.cell? ⟨gb157, 6, none⟩ = some (.bool a0_6) := (blk_cell BK157.out 6).trans rfl
                                      have hfz62_0 := blk_frozen BK157.out 0
                                      have hfz62_1 := blk_frozen BK157.out 1
                                      have hfz62_2 := blk_frozen BK157.out 2
                                      have hfz62_3 := blk_frozen BK157.out 3
                                      have hfz62_4 := blk_frozen BK157.out 4
                                      have hfz62_5 := blk_frozen BK157.out 5
                                      have hfz62_6 := blk_frozen BK157.out 6
                                      go_wp2
                                      go_ret2
                                      exact ⟨by first | rfl | (simp [errW_none, errW_some] <;> rfl) | (simp [*, errW_none, errW_some] <;> rfl), by repeat (first | (with_reducible first | exact HB.out | apply below_alloc | apply pw_below_drewN | apply below_drew1 | refine below_set ?_ GE157.out) | exact HB.out)⟩

end Go.Proofs.YtmfejjlmflgnbaaGreatDoor.PA
