/- Contracts of civil.Leap, civil.Length and civil.ahead, walked by hand: each comes to the number that the plain Lean function of its name tells (civil.ahead: of the years 1900 to 2200). -/
import Derived.Test.YtjabbppmkepgdaaProg
import Derived.Below
import Derived.Deep.Draws
import Derived.OwnWalk
import Derived.Tactics
import Derived.WalkKit
import Derived.WalkSpells
import Derived.WalkLawsBesides
import Derived.KernelRfl
import Derived.RowKit3
import Derived.Deep.LoopGhost
import Derived.Deep.QuietTactic
import Derived.BigQuiet
import Derived.WideLaws
import Derived.Deep.DeepCutAuto
import Derived.Deep.CutBlock
import Derived.Deep.RegionHeld3
import Derived.Lib.Hide
import Derived.IntWalk
import Derived.Outline
import Derived.Test.YtjabbppmkepgdaaWWords
import Derived.Test.YtjabbppmkepgdaaWLast
import Derived.Test.YtjabbppmkepgdaaWMore
namespace Go.Proofs.Ytjabbppmkepgdaa
open Go.RowKit Go.Proofs.YtjabbppmkepgdaaW.PrintWords Go.Proofs.YtjabbppmkepgdaaW.PrintLast Go.Proofs.YtjabbppmkepgdaaW.PrintMore
set_option linter.unusedVariables false
set_option linter.unusedSimpArgs false

/-! ### plain words -/
def Cv.leap (y : Int) : Bool := decide (1900 ≤ y ∧ y ≤ 2199 ∧ y % 4 = 0 ∧ (y % 100 ≠ 0 ∨ y % 400 = 0))
def Cv.len (y m : Int) : Int :=
  if y < 1900 ∨ 2199 < y ∨ m < 1 ∨ 12 < m then 0
  else if m = 2 then (if Cv.leap y = true then 29 else 28) else if m = 4 ∨ m = 6 ∨ m = 9 ∨ m = 11 then 30 else 31
def Cv.ahead (y : Int) : Int := 365 * (y - 1900) + ((y - 1) / 4 - (y - 1) / 100 + (y - 1) / 400) - 460

def civil_Leap.f (y : Int) : Option Bool := some (Cv.leap y)
def civil_Length.f (y m : Int) : Option Int := some (Cv.len y m)
def civil_ahead.f (y : Int) : Option Int := if 1900 ≤ y ∧ y ≤ 2200 then some (Cv.ahead y) else none

theorem Cv.leap_no {y : Int} (h : y < 1900 ∨ 2199 < y) : Cv.leap y = false := by
  unfold Cv.leap; rw [decide_eq_false_iff_not]; omega

set_option maxHeartbeats 8000000 in
set_option maxRecDepth 100000 in
theorem civil_Leap.same (y : Int) (r : Bool) (w : World) (h : civil_Leap.f y = some r) :
    Calls Try.prog 24 #[.int .i64 y] w fun e w' => e = .returned (.bool r) ∧ w = w' := by
  obtain rfl := Option.some.inj h
  by_cases h1 : y < 1900
  · rw [Cv.leap_no (.inl h1)]
    have k1 : decide (1900 ≤ y) = false := decide_eq_false (by omega)
    clear h
    go_enter Try.func24, Try.ntmps24
    go_wp2
    go_ret
    exact ⟨rfl, rfl⟩
  by_cases h2 : 2199 < y
  · rw [Cv.leap_no (.inr h2)]
    have k1 : decide (1900 ≤ y) = true := decide_eq_true (by omega)
    have k2 : decide (y ≤ 2199) = false := decide_eq_false (by omega)
    clear h h1
    go_enter Try.func24, Try.ntmps24
    go_wp2
    go_ret
    exact ⟨rfl, rfl⟩
  have k1 : decide (1900 ≤ y) = true := decide_eq_true (by omega)
  have k2 : decide (y ≤ 2199) = true := decide_eq_true (by omega)
  have e4 : y.tmod 4 = y % 4 := Int.tmod_eq_emod_of_nonneg (by omega)
  have e100 : y.tmod 100 = y % 100 := Int.tmod_eq_emod_of_nonneg (by omega)
  have e400 : y.tmod 400 = y % 400 := Int.tmod_eq_emod_of_nonneg (by omega)
  by_cases c4 : y % 4 = 0
  · have b4 : ((Int.tmod y 4) == 0) = true := beq_iff_eq.mpr (by omega)
    by_cases c100 : y % 100 = 0
    · have b100 : ((Int.tmod y 100) == 0) = true := beq_iff_eq.mpr (by omega)
      have d100 : ((Int.tmod y 100) != 0) = false := bne_eq_false_iff_eq.mpr (by omega)
      by_cases c400 : y % 400 = 0
      · have b400 : ((Int.tmod y 400) == 0) = true := beq_iff_eq.mpr (by omega)
        rw [show Cv.leap y = true from decide_eq_true (by omega)]
        clear h h1 h2 e4 e100 e400 c4 c100 c400
        go_enter Try.func24, Try.ntmps24
        go_wp2
        go_ret
        exact ⟨by first | rfl | (simp [*]; done), rfl⟩
      · have b400 : ((Int.tmod y 400) == 0) = false := beq_eq_false_iff_ne.mpr (by omega)
        rw [show Cv.leap y = false from decide_eq_false (by omega)]
        clear h h1 h2 e4 e100 e400 c4 c100 c400
        go_enter Try.func24, Try.ntmps24
        go_wp2
        go_ret
        exact ⟨by first | rfl | (simp [*]; done), rfl⟩
    · have b100 : ((Int.tmod y 100) == 0) = false := beq_eq_false_iff_ne.mpr (by omega)
      have d100 : ((Int.tmod y 100) != 0) = true := bne_iff_ne.mpr (by omega)
      rw [show Cv.leap y = true from decide_eq_true (by omega)]
      clear h h1 h2 e4 e100 e400 c4 c100
      go_enter Try.func24, Try.ntmps24
      go_wp2
      go_ret
      exact ⟨by first | rfl | (simp [*]; done), rfl⟩
  · have b4 : ((Int.tmod y 4) == 0) = false := beq_eq_false_iff_ne.mpr (by omega)
    rw [show Cv.leap y = false from decide_eq_false (by omega)]
    clear h h1 h2 e4 e100 e400 c4
    go_enter Try.func24, Try.ntmps24
    go_wp2
    go_ret
    exact ⟨by first | rfl | (simp [*]; done), rfl⟩

theorem civil_Leap.calls (y : Int) (r : Bool) (w : World) (h : civil_Leap.f y = some r) :
    Calls Try.prog 24 #[.int .i64 y] w fun e w' => e = .returned (.bool r) ∧ Drawn0 w w' :=
  (civil_Leap.same y r w h).mono fun _ _ ⟨h1, h2⟩ => ⟨h1, h2 ▸ Drawn0.refl _⟩

/-- The table's entry. -/
def Cv.tab (m : Int) : Int := if m = 2 then 28 else if m = 4 ∨ m = 6 ∨ m = 9 ∨ m = 11 then 30 else 31

set_option maxRecDepth 100000 in
theorem Cv.index (m : Int) (h1 : 1 ≤ m) (h2 : m ≤ 12) (w : World) :
    (Instr.index 76 (Value.agg #[Value.int IntKind.i64 0, Value.int IntKind.i64 31, Value.int IntKind.i64 28, Value.int IntKind.i64 31,
      Value.int IntKind.i64 30, Value.int IntKind.i64 31, Value.int IntKind.i64 30, Value.int IntKind.i64 31,
      Value.int IntKind.i64 31, Value.int IntKind.i64 30, Value.int IntKind.i64 31, Value.int IntKind.i64 30,
      Value.int IntKind.i64 31]) (Value.int IntKind.i64 m)).run Try.prog w = .ok (.int .i64 (Cv.tab m)) w := by
  have hm : m = 1 ∨ m = 2 ∨ m = 3 ∨ m = 4 ∨ m = 5 ∨ m = 6 ∨ m = 7 ∨ m = 8 ∨ m = 9 ∨ m = 10 ∨ m = 11 ∨ m = 12 := by omega
  rcases hm with rfl | rfl | rfl | rfl | rfl | rfl | rfl | rfl | rfl | rfl | rfl | rfl <;> rfl

set_option maxHeartbeats 8000000 in
set_option maxRecDepth 100000 in
theorem civil_Length.same (y m : Int) (r : Int) (w : World) (h : civil_Length.f y m = some r) :
    Calls Try.prog 26 #[.int .i64 y, .int .i64 m] w fun e w' => e = .returned (.int .i64 r) ∧ w = w' := by
  obtain rfl := Option.some.inj h
  clear h
  by_cases h1 : y < 1900
  · rw [show Cv.len y m = 0 from if_pos (.inl h1)]
    have k1 : decide (y < 1900) = true := decide_eq_true h1
    clear h1
    go_enter Try.func26, Try.ntmps26
    go_wp2
    go_ret
    exact ⟨rfl, rfl⟩
  by_cases h2 : 2199 < y
  · rw [show Cv.len y m = 0 from if_pos (.inr (.inl h2))]
    have k1 : decide (y < 1900) = false := decide_eq_false h1
    have k2 : decide (2199 < y) = true := decide_eq_true h2
    clear h1 h2
    go_enter Try.func26, Try.ntmps26
    go_wp2
    go_ret
    exact ⟨rfl, rfl⟩
  by_cases h3 : m < 1
  · rw [show Cv.len y m = 0 from if_pos (.inr (.inr (.inl h3)))]
    have k1 : decide (y < 1900) = false := decide_eq_false h1
    have k2 : decide (2199 < y) = false := decide_eq_false h2
    have k3 : decide (m < 1) = true := decide_eq_true h3
    clear h1 h2 h3
    go_enter Try.func26, Try.ntmps26
    go_wp2
    go_ret
    exact ⟨rfl, rfl⟩
  by_cases h4 : 12 < m
  · rw [show Cv.len y m = 0 from if_pos (.inr (.inr (.inr h4)))]
    have k1 : decide (y < 1900) = false := decide_eq_false h1
    have k2 : decide (2199 < y) = false := decide_eq_false h2
    have k3 : decide (m < 1) = false := decide_eq_false h3
    have k4 : decide (12 < m) = true := decide_eq_true h4
    clear h1 h2 h3 h4
    go_enter Try.func26, Try.ntmps26
    go_wp2
    go_ret
    exact ⟨rfl, rfl⟩
  have k1 : decide (y < 1900) = false := decide_eq_false h1
  have k2 : decide (2199 < y) = false := decide_eq_false h2
  have k3 : decide (m < 1) = false := decide_eq_false h3
  have k4 : decide (12 < m) = false := decide_eq_false h4
  have hix := Cv.index m (by omega) (by omega)
  have hu := Try.underlying76
  have HY := Aside0.mk (show ¬ (y < 1900 ∨ 2199 < y ∨ m < 1 ∨ 12 < m) by omega)
  clear h1 h2 h3 h4
  by_cases hm : m = 2
  · subst hm
    simp only [show Cv.tab 2 = 28 from rfl] at hix
    by_cases hl : Cv.leap y = true
    · rw [show Cv.len y 2 = 29 by unfold Cv.len; rw [if_neg HY.out, if_pos rfl, if_pos hl]]
      have HL := Aside0.mk (show civil_Leap.f y = some true from congrArg some hl)
      clear hl HY
      go_enter Try.func26, Try.ntmps26
      go_wp2_with (go_at_call 24; (with_reducible refine (civil_Leap.same y true _ HL.out).mono ?_); rintro e w' ⟨rfl, rfl⟩)
      go_ret
      exact ⟨rfl, rfl⟩
    · rw [show Cv.len y 2 = 28 by unfold Cv.len; rw [if_neg HY.out, if_pos rfl, if_neg hl]]
      have HL := Aside0.mk (show civil_Leap.f y = some false from congrArg some (Bool.eq_false_iff.mpr hl))
      clear hl HY
      go_enter Try.func26, Try.ntmps26
      go_wp2_with (go_at_call 24; (with_reducible refine (civil_Leap.same y false _ HL.out).mono ?_); rintro e w' ⟨rfl, rfl⟩)
      go_ret
      exact ⟨rfl, rfl⟩
  · have hb : ((m : Int) == 2) = false := beq_eq_false_iff_ne.mpr hm
    rw [show Cv.len y m = Cv.tab m by unfold Cv.len Cv.tab; rw [if_neg HY.out, if_neg hm, if_neg hm]]
    clear hm HY
    go_enter Try.func26, Try.ntmps26
    go_wp2
    go_ret
    exact ⟨rfl, rfl⟩

theorem civil_Length.calls (y m : Int) (r : Int) (w : World) (h : civil_Length.f y m = some r) :
    Calls Try.prog 26 #[.int .i64 y, .int .i64 m] w fun e w' => e = .returned (.int .i64 r) ∧ Drawn0 w w' :=
  (civil_Length.same y m r w h).mono fun _ _ ⟨h1, h2⟩ => ⟨h1, h2 ▸ Drawn0.refl _⟩

set_option maxHeartbeats 8000000 in
set_option maxRecDepth 100000 in
theorem civil_ahead.same (y : Int) (r : Int) (w : World) (h : civil_ahead.f y = some r) :
    Calls Try.prog 58 #[.int .i64 y] w fun e w' => e = .returned (.int .i64 r) ∧ w = w' := by
  unfold civil_ahead.f at h
  by_cases hy : 1900 ≤ y ∧ y ≤ 2200
  · rw [if_pos hy] at h
    obtain rfl := Option.some.inj h
    clear h
    obtain ⟨h1, h2⟩ := hy
    unfold Cv.ahead
    go_enter Try.func58, Try.ntmps58
    go_wp2
    go_ret
    exact ⟨by first | rfl | (congr 2; omega), rfl⟩
  · rw [if_neg hy] at h
    cases h

theorem civil_ahead.calls (y : Int) (r : Int) (w : World) (h : civil_ahead.f y = some r) :
    Calls Try.prog 58 #[.int .i64 y] w fun e w' => e = .returned (.int .i64 r) ∧ Drawn0 w w' :=
  (civil_ahead.same y r w h).mono fun _ _ ⟨h1, h2⟩ => ⟨h1, h2 ▸ Drawn0.refl _⟩

end Go.Proofs.Ytjabbppmkepgdaa
