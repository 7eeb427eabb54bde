/- The plain law of LeapTable. -/
import Derived.Test.YtjabbppmkepgdaaQLeapTablex2
import Derived.Test.YtjabbppmkepgdaaPureLeapRef
namespace Go.Proofs.Ytjabbppmkepgdaa.Pure
set_option linter.unusedVariables false
open Go.RowKit Go.Proofs.Ytjabbppmkepgdaa Go.Proofs.Ytjabbppmkepgdaa.QL Go.Proofs.Ytjabbppmkepgdaa.QLeapTable Go.Proofs.YtjabbppmkepgdaaW.PrintWords Go.Proofs.YtjabbppmkepgdaaW.PrintLast

theorem ltk : QLeapTable.remontoirelaw04_known.f = some true := by
  unfold QLeapTable.remontoirelaw04_known.f
  rw [knownL.1, knownL.2.1, knownL.2.2.1, knownL.2.2.2]
  rfl
theorem rd52_set (x2 : List S52) (i m : Nat) (y : S52) (h : i < m) : rd_T52 (x2.set i y) (m : Int) = rd_T52 x2 (m : Int) := by
  unfold rd_T52
  rw [Int.toNat_natCast, List.getD_eq_getElem?_getD, List.getD_eq_getElem?_getD, List.getElem?_set_ne (by omega)]
theorem l1_loop (x5 : Int) (r : Bool) (hr : Ev (fun k => remontoirelaw04_LeapTable.l0 k Lp.T (wrap64 (x5 + 1))) r) (j : Nat) : ∀ (i : Nat) (x2 : List S52), i + j = 19 → x2.length = 19 →
    (∀ m : Nat, i ≤ m → m < 19 → rd_T52 x2 (m : Int) = rd_T52 Lp.T (m : Int)) → Ev (fun k => remontoirelaw04_LeapTable.l1 k Lp.T x2 x5 19 (i : Int)) r := by
  induction j with
  | zero =>
    intro i x2 h hl hx
    obtain rfl : i = 19 := by omega
    refine Ev.step (f := fun k => remontoirelaw04_LeapTable.l0 k Lp.T (wrap64 (x5 + 1))) (fun k => ?_) hr
    rw [remontoirelaw04_LeapTable.l1, if_neg (by omega)]
  | succ j ih =>
    intro i x2 h hl hx
    have hI := ih (i + 1) (x2.set i ⟨(rd_T52 x2 (i : Int)).f0, (rd_T52 x2 (i : Int)).f1, 99⟩) (by omega) (by rw [List.length_set]; exact hl) (fun m h1 h2 => by rw [rd52_set _ _ _ _ (by omega)]; exact hx m (by omega) h2)
    refine Ev.step (f := fun k => remontoirelaw04_LeapTable.l1 k Lp.T (x2.set i ⟨(rd_T52 x2 (i : Int)).f0, (rd_T52 x2 (i : Int)).f1, 99⟩) x5 19 ((i + 1 : Nat) : Int)) (fun k => ?_) hI
    have e := hx i (Nat.le_refl _) (by omega)
    rw [remontoirelaw04_LeapTable.l1, if_pos (by omega), if_pos (by omega), if_pos (by rw [hl]; omega), if_pos (by rw [l_len]; omega), if_neg (by rw [e]; simp), cw64 ((i : Int) + 1) (by omega), Int.toNat_natCast]
    rfl
theorem l0_loop (j : Nat) : ∀ i : Nat, i + j = 2 → Ev (fun k => remontoirelaw04_LeapTable.l0 k Lp.T (i : Int)) true := by
  induction j with
  | zero =>
    intro i h
    obtain rfl : i = 2 := by omega
    refine Ev.step (f := fun _ => some true) (fun k => ?_) (Ev.now _)
    rw [remontoirelaw04_LeapTable.l0, if_neg (by omega), ltk]
    rfl
  | succ j ih =>
    intro i h
    have hI := ih (i + 1) (by omega)
    rw [show (((i + 1 : Nat) : Int)) = wrap64 ((i : Int) + 1) by rw [cw64 _ (by omega)]; omega] at hI
    refine Ev.step (f := fun k => (leap_Table.f k).bind fun t116 => (if (t116.length : Int) = (Lp.T.length : Int) then (remontoirelaw04_LeapTable.l1 k Lp.T t116 (i : Int) (t116.length : Int) 0) else (some false))) (fun k => ?_) (Ev.bind table_ev ?_)
    · rw [remontoirelaw04_LeapTable.l0, if_pos (by omega)]
    · refine ev_pos rfl ?_
      exact l1_loop (i : Int) true hI 19 0 Lp.T rfl rfl (fun m _ _ => rfl)
theorem LeapTable : remontoirelaw04_LeapTable.Pure := by
  refine Ev.rounds (Ev.bind rtable ?_)
  exact l0_loop 2 0 rfl
end Go.Proofs.Ytjabbppmkepgdaa.Pure
