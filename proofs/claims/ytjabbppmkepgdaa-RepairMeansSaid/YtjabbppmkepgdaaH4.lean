/- Contracts of leap.Offset, leap.UTC and leap.GPS, walked by hand over the printed contract of leap.Table: each comes to what the plain Lean function of its name tells of the table of leap seconds. -/
import Derived.Test.YtjabbppmkepgdaaProg
import Derived.Below
import Derived.Deep.Draws
import Derived.OwnWalk
import Derived.Tactics
import Derived.WalkKit
import Derived.WalkSpells
import Derived.WalkLawsBesides
import Derived.KernelRfl
import Derived.RowKit3
import Derived.Deep.LoopGhost
import Derived.Deep.QuietTactic
import Derived.BigQuiet
import Derived.WideLaws
import Derived.Deep.DeepCutAuto
import Derived.Deep.CutBlock
import Derived.Deep.RegionHeld3
import Derived.Lib.Hide
import Derived.IntWalk
import Derived.Outline
import Derived.Test.YtjabbppmkepgdaaWWords
import Derived.Test.YtjabbppmkepgdaaWLast
import Derived.Test.YtjabbppmkepgdaaWMore
import Derived.Test.YtjabbppmkepgdaaH3
import Derived.Test.YtjabbppmkepgdaaPureCivilOf
namespace Go.Proofs.Ytjabbppmkepgdaa
open Go.RowKit Go.Proofs.YtjabbppmkepgdaaW.PrintWords Go.Proofs.YtjabbppmkepgdaaW.PrintLast Go.Proofs.YtjabbppmkepgdaaW.PrintMore Go.Proofs.Ytjabbppmkepgdaa.QL Go.Proofs.Ytjabbppmkepgdaa.QC
set_option linter.unusedVariables false
set_option linter.unusedSimpArgs false

/-! ### the table -/
def Lp.T : List S52 := [⟨2524953600, 0, 0⟩, ⟨2571782400, 46828801, 1⟩, ⟨2603318400, 78364802, 2⟩, ⟨2634854400, 109900803, 3⟩, ⟨2698012800, 173059204, 4⟩, ⟨2776982400, 252028805, 5⟩, ⟨2840140800, 315187206, 6⟩, ⟨2871676800, 346723207, 7⟩, ⟨2918937600, 393984008, 8⟩, ⟨2950473600, 425520009, 9⟩, ⟨2982009600, 457056010, 10⟩, ⟨3029443200, 504489611, 11⟩, ⟨3076704000, 551750412, 12⟩, ⟨3124137600, 599184013, 13⟩, ⟨3345062400, 820108814, 14⟩, ⟨3439756800, 914803215, 15⟩, ⟨3550089600, 1025136016, 16⟩, ⟨3644697600, 1119744017, 17⟩, ⟨3692217600, 1167264018, 18⟩]
def Lp.months : List S81 := [⟨1981, 7⟩, ⟨1982, 7⟩, ⟨1983, 7⟩, ⟨1985, 7⟩, ⟨1988, 1⟩, ⟨1990, 1⟩, ⟨1991, 1⟩, ⟨1992, 7⟩, ⟨1993, 7⟩, ⟨1994, 7⟩, ⟨1996, 1⟩, ⟨1997, 7⟩, ⟨1999, 1⟩, ⟨2006, 1⟩, ⟨2009, 1⟩, ⟨2012, 7⟩, ⟨2015, 7⟩, ⟨2017, 1⟩]
def Lp.sec (m : S81) : Int := (Cv.ahead m.f0 + Pure.cum m.f0 (m.f1 - 1).toNat + 1 - 1) * 86400 + 0 * 3600 + 0 * 60 + 0
def Lp.line (i : Nat) : S52 := ⟨Lp.sec (rd_T81 Lp.months i), Lp.sec (rd_T81 Lp.months i) - 2524953600 + ((i : Int) + 1), (i : Int) + 1⟩
theorem Lp.good : ∀ i : Nat, i < 18 → (1 ≤ (1 : Int) ∧ 1 ≤ Cv.len (rd_T81 Lp.months i).f0 (rd_T81 Lp.months i).f1) ∧ Lp.sec (rd_T81 Lp.months i) = (rd_T52 Lp.T ((i : Int) + 1)).f0 ∧
    Lp.sec (rd_T81 Lp.months i) - 2524953600 + ((i : Int) + 1) = (rd_T52 Lp.T ((i : Int) + 1)).f1 ∧ (i : Int) + 1 = (rd_T52 Lp.T ((i : Int) + 1)).f2 ∧ 0 ≤ Lp.sec (rd_T81 Lp.months i) ∧ Lp.sec (rd_T81 Lp.months i) ≤ 10000000000 := by
  decide
theorem s52_ext {a : S52} {x y z : Int} (h0 : x = a.f0) (h1 : y = a.f1) (h2 : z = a.f2) : (⟨x, y, z⟩ : S52) = a := by subst h0 h1 h2; rfl
theorem Lp.table_loop (j : Nat) : ∀ i : Nat, i + j = 18 → Ev (fun k => leap_Table.l0 k (Lp.T.take (i + 1)) Lp.months 18 (i : Int)) Lp.T := by
  induction j with
  | zero =>
    intro i h
    obtain rfl : i = 18 := by omega
    refine Ev.step (f := fun _ => some Lp.T) (fun k => ?_) (Ev.now _)
    rw [leap_Table.l0, if_neg (by decide)]
    rfl
  | succ j ih =>
    intro i h
    obtain ⟨g1, g2, g3, g4, g5, g6⟩ := Lp.good i (by omega)
    have hs := Pure.second_tells (rd_T81 Lp.months i).f0 (rd_T81 Lp.months i).f1 1 0 0 0 (by decide) (by decide) (by decide) g1
    refine Ev.step (f := fun k => (civil_Second.f k (rd_T81 Lp.months i).f0 (rd_T81 Lp.months i).f1 1 0 0 0).bind fun bt112 => (if (Lp.T.take (i + 1)).length < 5864062014805 then (leap_Table.l0 k ((Lp.T.take (i + 1)) ++ [(⟨bt112.1, wrap64 ((wrap64 (bt112.1 - 2524953600)) + (wrap64 ((i : Int) + 1))), wrap64 ((i : Int) + 1)⟩ : S52)]) Lp.months 18 (wrap64 ((i : Int) + 1))) else (none))) (fun k => ?_) (Ev.bind hs ?_)
    · rw [leap_Table.l0, if_pos (by omega), if_pos (by omega), if_pos (by show (i : Int) < 18; omega)]
    · have hl : (Lp.T.take (i + 1)).length < 5864062014805 := by
        have : (Lp.T.take (i + 1)).length ≤ Lp.T.length := by rw [List.length_take]; exact Nat.min_le_right _ _
        have h19 : Lp.T.length = 19 := rfl
        omega
      refine Pure.ev_pos hl ?_
      have hsec : (Cv.ahead (rd_T81 Lp.months i).f0 + Pure.cum (rd_T81 Lp.months i).f0 ((rd_T81 Lp.months i).f1 - 1).toNat + 1 - 1) * 86400 + 0 * 3600 + 0 * 60 + 0 = Lp.sec (rd_T81 Lp.months i) := rfl
      rw [hsec, Pure.cw64 (Lp.sec (rd_T81 Lp.months i) - 2524953600) (by omega), Pure.cw64 ((i : Int) + 1) (by omega), Pure.cw64 _ (by omega), s52_ext g2 g3 g4]
      have ht := Lp.take_snoc Lp.T (i + 1) (by show i + 1 < 19; omega)
      have := ih (i + 1) (by omega)
      rw [ht, show ((i + 1 : Nat) : Int) = (i : Int) + 1 by omega] at this
      exact this
theorem Lp.table : ∃ k, leap_Table.f k = some Lp.T := by
  refine Ev.rounds (Ev.congr (f := fun k => leap_Table.l0 k (Lp.T.take (0 + 1)) Lp.months 18 ((0 : Nat) : Int)) (fun k => ?_) (Lp.table_loop 18 0 rfl))
  unfold leap_Table.f leap_months.f
  rfl
end Go.Proofs.Ytjabbppmkepgdaa
