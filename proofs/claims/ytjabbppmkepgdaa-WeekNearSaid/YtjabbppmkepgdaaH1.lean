/- Contracts of week.may and week.Near, walked by hand: each comes to what the plain Lean function of its name tells, at every input. -/
import Derived.Test.YtjabbppmkepgdaaProg
import Derived.Below
import Derived.Deep.Draws
import Derived.OwnWalk
import Derived.Tactics
import Derived.WalkKit
import Derived.WalkSpells
import Derived.WalkLawsBesides
import Derived.KernelRfl
import Derived.RowKit3
import Derived.Deep.LoopGhost
import Derived.Deep.QuietTactic
import Derived.BigQuiet
import Derived.WideLaws
import Derived.Deep.DeepCutAuto
import Derived.Deep.CutBlock
import Derived.Deep.RegionHeld3
import Derived.Lib.Hide
import Derived.IntWalk
import Derived.Outline
import Derived.Test.YtjabbppmkepgdaaWWords
import Derived.Test.YtjabbppmkepgdaaWLast
import Derived.Test.YtjabbppmkepgdaaWMore
namespace Go.Proofs.Ytjabbppmkepgdaa
open Go.RowKit Go.Proofs.YtjabbppmkepgdaaW.PrintWords Go.Proofs.YtjabbppmkepgdaaW.PrintLast Go.Proofs.YtjabbppmkepgdaaW.PrintMore
set_option linter.unusedVariables false
set_option linter.unusedSimpArgs false

def Wk.may (g : Int) : Bool := decide (0 ≤ g ∧ g ≤ 6000000000)
def week_may.f (g : Int) : Option Bool := some (Wk.may g)
/-- What week.Near tells. -/
def Wk.near (gps weeks floor : Int) : Int × Int :=
  if weeks < 1 ∨ 1024 < weeks ∨ floor < 0 ∨ 6000000000 < floor then (0, 2)
  else if gps < -1152921504606846976 ∨ 1152921504606846976 < gps then (0, 9)
  else if floor + (gps - floor) % (weeks * 604800) ≤ 6000000000 then (floor + (gps - floor) % (weeks * 604800), 0) else (0, 9)
def week_Near.f (gps weeks floor : Int) : Option (Int × Int) := some (Wk.near gps weeks floor)

set_option maxHeartbeats 8000000 in
set_option maxRecDepth 100000 in
theorem week_may.same (g : Int) (r : Bool) (w : World) (h : week_may.f g = some r) :
    Calls Try.prog 49 #[.int .i64 g] w fun e w' => e = .returned (.bool r) ∧ w = w' := by
  obtain rfl := Option.some.inj h
  clear h
  by_cases h1 : 0 ≤ g
  · by_cases h2 : g ≤ 6000000000
    · rw [show Wk.may g = true from decide_eq_true ⟨h1, h2⟩]
      have k1 : decide (0 ≤ g) = true := decide_eq_true h1
      have k2 : decide (g ≤ 6000000000) = true := decide_eq_true h2
      clear h1 h2
      go_enter Try.func49, Try.ntmps49
      go_wp2
      go_ret
      exact ⟨rfl, rfl⟩
    · rw [show Wk.may g = false from decide_eq_false (by omega)]
      have k1 : decide (0 ≤ g) = true := decide_eq_true h1
      have k2 : decide (g ≤ 6000000000) = false := decide_eq_false h2
      clear h1 h2
      go_enter Try.func49, Try.ntmps49
      go_wp2
      go_ret
      exact ⟨rfl, rfl⟩
  · rw [show Wk.may g = false from decide_eq_false (by omega)]
    have k1 : decide (0 ≤ g) = false := decide_eq_false h1
    clear h1
    go_enter Try.func49, Try.ntmps49
    go_wp2
    go_ret
    exact ⟨rfl, rfl⟩

theorem week_may.calls (g : Int) (r : Bool) (w : World) (h : week_may.f g = some r) :
    Calls Try.prog 49 #[.int .i64 g] w fun e w' => e = .returned (.bool r) ∧ Drawn0 w w' :=
  (week_may.same g r w h).mono fun _ _ ⟨h1, h2⟩ => ⟨h1, h2 ▸ Drawn0.refl _⟩

theorem Wk.mod_eq (n b : Int) (hb : 0 < b) : (n.tmod b + b).tmod b = n % b := by
  have h1 : -b < n.tmod b := by have := Int.lt_tmod_of_pos n hb; omega
  rw [Int.tmod_eq_emod_of_nonneg (by omega), Int.add_emod_right]
  have h2 : n.tmod b = n - b * n.tdiv b := by have := Int.mul_tdiv_add_tmod n b; omega
  rw [h2, Int.sub_mul_emod_self_left]

set_option maxHeartbeats 8000000 in
set_option maxRecDepth 100000 in
theorem week_mod.calls (n b : Int) (a : Addr) (w : World) (hc : w.cell? a = some (.int .i64 b)) (hb : 0 < b) (hb2 : b ≤ 619315200) :
    Calls Try.prog 56 #[.int .i64 n, .pointer (some a)] w fun e w' => e = .returned (.int .i64 (n % b)) ∧ Drawn0 w w' := by
  have h1 : -b < n.tmod b := by have := Int.lt_tmod_of_pos n hb; omega
  have h2 : n.tmod b < b := Int.tmod_lt_of_pos n hb
  have h0 : ((b : Int) == 0) = false := beq_eq_false_iff_ne.mpr (by omega)
  rw [← Wk.mod_eq n b hb]
  have H3 := Aside0.mk (show wrap64 (n.tmod b + b) = n.tmod b + b by unfold wrap64; omega)
  clear h1 h2 
  go_enter Try.func56, Try.ntmps56
  go_wp2
  go_quiet (fail)
  go_wp2
  go_ret
  exact ⟨by show Ending.returned (.int .i64 ((wrap64 (n.tmod b + b)).tmod b)) = _; rw [H3.out], by repeat (first | exact Drawn0.refl _ | apply Drawn0.step)⟩

set_option maxHeartbeats 8000000 in
set_option maxRecDepth 100000 in
theorem week_Near.calls (gps weeks floor : Int) (r1 r2 : Int) (w : World) (h : week_Near.f gps weeks floor = some (r1, r2)) :
    Calls Try.prog 20 #[.int .i64 gps, .int .i64 weeks, .int .i64 floor] w fun e w' => e = .returned (.tuple #[.int .i64 r1, .int .i64 r2]) ∧ Below w.heap.size w w' := by
  have HE := Option.some.inj h
  clear h
  by_cases h1 : weeks < 1
  · rw [show Wk.near gps weeks floor = (0, 2) from if_pos (.inl h1)] at HE
    obtain ⟨rfl, rfl⟩ := Prod.mk.inj HE
    clear HE
    have k1 : decide (weeks < 1) = true := decide_eq_true h1
    clear h1
    go_enter Try.func20, Try.ntmps20
    go_wp2
    go_ret2
    exact ⟨rfl, Below.refl _ _⟩
  by_cases h2 : 1024 < weeks
  · rw [show Wk.near gps weeks floor = (0, 2) from if_pos (.inr (.inl h2))] at HE
    obtain ⟨rfl, rfl⟩ := Prod.mk.inj HE
    clear HE
    have k1 : decide (weeks < 1) = false := decide_eq_false h1
    have k2 : decide (1024 < weeks) = true := decide_eq_true h2
    clear h1 h2
    go_enter Try.func20, Try.ntmps20
    go_wp2
    go_ret2
    exact ⟨rfl, Below.refl _ _⟩
  have k1 : decide (weeks < 1) = false := decide_eq_false h1
  have k2 : decide (1024 < weeks) = false := decide_eq_false h2
  by_cases h3 : floor < 0 ∨ 6000000000 < floor
  · rw [show Wk.near gps weeks floor = (0, 2) from if_pos (.inr (.inr h3))] at HE
    obtain ⟨rfl, rfl⟩ := Prod.mk.inj HE
    clear HE
    have HM := Aside0.mk (show week_may.f floor = some false from congrArg some (decide_eq_false (by omega)))
    clear h1 h2 h3
    go_enter Try.func20, Try.ntmps20
    go_wp2_with (go_at_call 49; (with_reducible refine (week_may.same floor false _ HM.out).mono ?_); rintro e w' ⟨rfl, rfl⟩)
    go_ret2
    exact ⟨rfl, by repeat (first | exact Below.refl _ _ | apply pw_below_drewN)⟩
  have HM := Aside0.mk (show week_may.f floor = some true from congrArg some (decide_eq_true (by omega)))
  by_cases h4 : gps < -1152921504606846976
  · rw [show Wk.near gps weeks floor = (0, 9) by unfold Wk.near; rw [if_neg (by omega), if_pos (.inl h4)]] at HE
    obtain ⟨rfl, rfl⟩ := Prod.mk.inj HE
    clear HE
    have k3 : decide (gps < -1152921504606846976) = true := decide_eq_true h4
    clear h1 h2 h3 h4
    go_enter Try.func20, Try.ntmps20
    go_wp2_with (go_at_call 49; (with_reducible refine (week_may.same floor true _ HM.out).mono ?_); rintro e w' ⟨rfl, rfl⟩)
    go_ret2
    exact ⟨rfl, by repeat (first | exact Below.refl _ _ | apply pw_below_drewN)⟩
  by_cases h5 : 1152921504606846976 < gps
  · rw [show Wk.near gps weeks floor = (0, 9) by unfold Wk.near; rw [if_neg (by omega), if_pos (.inr h5)]] at HE
    obtain ⟨rfl, rfl⟩ := Prod.mk.inj HE
    clear HE
    have k3 : decide (gps < -1152921504606846976) = false := decide_eq_false h4
    have k4 : decide (1152921504606846976 < gps) = true := decide_eq_true h5
    clear h1 h2 h3 h4 h5
    go_enter Try.func20, Try.ntmps20
    go_wp2_with (go_at_call 49; (with_reducible refine (week_may.same floor true _ HM.out).mono ?_); rintro e w' ⟨rfl, rfl⟩)
    go_ret2
    exact ⟨rfl, by repeat (first | exact Below.refl _ _ | apply pw_below_drewN)⟩
  have k3 : decide (gps < -1152921504606846976) = false := decide_eq_false h4
  have k4 : decide (1152921504606846976 < gps) = false := decide_eq_false h5
  have b0 : 0 < weeks * 604800 := by omega
  have b1 : weeks * 604800 ≤ 619315200 := by omega
  have m0 := Int.emod_nonneg (gps - floor) (show weeks * 604800 ≠ 0 by omega)
  have m1 := Int.emod_lt_of_pos (gps - floor) b0
  have hf : 0 ≤ floor ∧ floor ≤ 6000000000 := by omega
  have hw1 : 1 ≤ weeks := by omega
  have hw2 : weeks ≤ 1024 := by omega
  obtain ⟨hf0, hf1⟩ := hf
  have s1 : wrap64 (gps - floor) = gps - floor := by unfold wrap64; omega
  have s2 : wrap64 (weeks * 604800) = weeks * 604800 := by unfold wrap64; omega
  have s3 : wrap64 (floor + (gps - floor) % (weeks * 604800)) = floor + (gps - floor) % (weeks * 604800) := by unfold wrap64; omega
  have HB0 := Aside0.mk b0
  have HB1 := Aside0.mk b1
  by_cases h6 : floor + (gps - floor) % (weeks * 604800) ≤ 6000000000
  · rw [show Wk.near gps weeks floor = (floor + (gps - floor) % (weeks * 604800), 0) by unfold Wk.near; rw [if_neg (by omega), if_neg (by omega), if_pos h6]] at HE
    obtain ⟨rfl, rfl⟩ := Prod.mk.inj HE
    clear HE
    have HN := Aside0.mk (show week_may.f (floor + (gps - floor) % (weeks * 604800)) = some true from congrArg some (decide_eq_true (by omega)))
    clear h1 h2 h3 h4 h5 h6 m0 m1 hf0 hf1 hw1 hw2 b0 b1
    have hmf : ∀ (fn : Fn) (first cap : Array Value) (w : World), (Instr.makeFunc fn first cap).run Try.prog w = .ok (.func fn first cap) w := fun _ _ _ _ => rfl
    go_enter Try.func20, Try.ntmps20
    go_wp2_with (first | (go_at_call 49; (with_reducible refine (week_may.same floor true _ HM.out).mono ?_); rintro e w' ⟨rfl, rfl⟩) | (go_at_call 49; (with_reducible refine (week_may.same _ true _ HN.out).mono ?_); rintro e w' ⟨rfl, rfl⟩) | (go_at_call 56; (with_reducible refine (week_mod.calls (gps - floor) (weeks * 604800) _ _ ?hc HB0.out HB1.out).mono ?_); (case hc => rw [World.cell?_alloc_new]; rfl); rintro e w' ⟨rfl, ⟨nd, rfl⟩⟩))
    go_ret2
    exact ⟨by first | rfl | (simp; done) | (simp [*]; done), by repeat (first | exact Below.refl _ _ | apply pw_below_drewN | apply below_alloc)⟩
  · rw [show Wk.near gps weeks floor = (0, 9) by unfold Wk.near; rw [if_neg (by omega), if_neg (by omega), if_neg h6]] at HE
    obtain ⟨rfl, rfl⟩ := Prod.mk.inj HE
    clear HE
    have HN := Aside0.mk (show week_may.f (floor + (gps - floor) % (weeks * 604800)) = some false from congrArg some (decide_eq_false (by omega)))
    clear h1 h2 h3 h4 h5 h6 m0 m1 hf0 hf1 hw1 hw2 b0 b1
    have hmf : ∀ (fn : Fn) (first cap : Array Value) (w : World), (Instr.makeFunc fn first cap).run Try.prog w = .ok (.func fn first cap) w := fun _ _ _ _ => rfl
    go_enter Try.func20, Try.ntmps20
    go_wp2_with (first | (go_at_call 49; (with_reducible refine (week_may.same floor true _ HM.out).mono ?_); rintro e w' ⟨rfl, rfl⟩) | (go_at_call 49; (with_reducible refine (week_may.same _ false _ HN.out).mono ?_); rintro e w' ⟨rfl, rfl⟩) | (go_at_call 56; (with_reducible refine (week_mod.calls (gps - floor) (weeks * 604800) _ _ ?hc HB0.out HB1.out).mono ?_); (case hc => rw [World.cell?_alloc_new]; rfl); rintro e w' ⟨rfl, ⟨nd, rfl⟩⟩))
    go_ret2
    exact ⟨by first | rfl | (simp; done) | (simp [*]; done), by repeat (first | exact Below.refl _ _ | apply pw_below_drewN | apply below_alloc)⟩
end Go.Proofs.Ytjabbppmkepgdaa
