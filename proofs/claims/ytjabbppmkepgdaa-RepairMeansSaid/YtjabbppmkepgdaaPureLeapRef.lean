/- Plain laws of the document's answers for layer 4: its table, offset, UTC second and next line. -/
import Derived.Test.YtjabbppmkepgdaaPureLeap
namespace Go.Proofs.Ytjabbppmkepgdaa.Pure
set_option linter.unusedVariables false
open Go.RowKit Go.Proofs.Ytjabbppmkepgdaa Go.Proofs.Ytjabbppmkepgdaa.QL Go.Proofs.Ytjabbppmkepgdaa.QC Go.Proofs.YtjabbppmkepgdaaW.PrintWords Go.Proofs.YtjabbppmkepgdaaW.PrintLast

def ly : List Int := [1981, 1982, 1983, 1985, 1988, 1990, 1991, 1992, 1993, 1994, 1996, 1997, 1999, 2006, 2009, 2012, 2015, 2017]
def lm : List Int := [7, 7, 7, 7, 1, 1, 1, 7, 7, 7, 1, 7, 1, 1, 1, 7, 7, 1]
theorem ly_eq : ∀ i : Nat, i < 18 → rd ly (i : Int) = (rd_T81 Lp.months (i : Int)).f0 ∧ rd lm (i : Int) = (rd_T81 Lp.months (i : Int)).f1 := by decide
theorem rtable_loop (j : Nat) : ∀ i : Nat, i + j = 18 → Ev (fun k => remontoireref04_Table.l0 k (Lp.T.take (i + 1)) ly lm (i : Int)) Lp.T := by
  induction j with
  | zero =>
    intro i h
    obtain rfl : i = 18 := by omega
    refine Ev.step (f := fun _ => some Lp.T) (fun k => ?_) (Ev.now _)
    rw [remontoireref04_Table.l0, if_neg (by decide)]
    rfl
  | succ j ih =>
    intro i h
    obtain ⟨g1, g2, g3, g4, g5, g6⟩ := Lp.good i (by omega)
    obtain ⟨y1, y2⟩ := ly_eq i (by omega)
    have hs := rsec_tells (rd_T81 Lp.months i).f0 (rd_T81 Lp.months i).f1 1 0 0 0
    unfold rsecR at hs
    rw [if_pos ⟨g1, by omega, by omega, by omega⟩] at hs
    refine Ev.step (f := fun k => (remontoireref03_Second.f k (rd ly (i : Int)) (rd lm (i : Int)) 1 0 0 0).bind fun bt133 => (if (Lp.T.take (i + 1)).length < 5864062014805 then (remontoireref04_Table.l0 k ((Lp.T.take (i + 1)) ++ [(⟨bt133.1, wrap64 ((wrap64 ((wrap64 (bt133.1 - 2524953600)) + (i : Int))) + 1), wrap64 ((i : Int) + 1)⟩ : S52)]) ly lm (wrap64 ((i : Int) + 1))) else (none))) (fun k => ?_) ?_
    · have c1 : (i : Int) < ((ly.length : Nat) : Int) := by rw [show ly.length = 18 from rfl]; omega
      have c2 : (i : Int) < ((lm.length : Nat) : Int) := by rw [show lm.length = 18 from rfl]; omega
      rw [remontoireref04_Table.l0, if_pos c1, if_pos (by omega), if_pos c2]
    · rw [y1, y2]
      refine Ev.bind hs ?_
      have hl : (Lp.T.take (i + 1)).length < 5864062014805 := by
        have : (Lp.T.take (i + 1)).length ≤ Lp.T.length := by rw [List.length_take]; exact Nat.min_le_right _ _
        rw [l_len] at this
        omega
      refine ev_pos hl ?_
      have hsec : dnum (rd_T81 Lp.months i).f0 (rd_T81 Lp.months i).f1 1 * 86400 + 0 * 3600 + 0 * 60 + 0 = Lp.sec (rd_T81 Lp.months i) := rfl
      have ht := Lp.take_snoc Lp.T (i + 1) (by rw [l_len]; omega)
      have hI := ih (i + 1) (by omega)
      rw [ht, show ((i + 1 : Nat) : Int) = (i : Int) + 1 by omega] at hI
      dsimp only
      rw [hsec, cw64 (Lp.sec (rd_T81 Lp.months i) - 2524953600) (by omega), cw64 (Lp.sec (rd_T81 Lp.months i) - 2524953600 + (i : Int)) (by omega), cw64 (Lp.sec (rd_T81 Lp.months i) - 2524953600 + (i : Int) + 1) (by omega), cw64 ((i : Int) + 1) (by omega),
        s52_ext g2 (show Lp.sec (rd_T81 Lp.months i) - 2524953600 + (i : Int) + 1 = _ by rw [← g3]; omega) g4]
      exact hI
theorem rtable : Ev (fun k => remontoireref04_Table.f k) Lp.T := by
  refine Ev.congr (f := fun k => remontoireref04_Table.l0 k (Lp.T.take (0 + 1)) ly lm ((0 : Nat) : Int)) (fun k => ?_) (rtable_loop 18 0 rfl)
  unfold remontoireref04_Table.f
  rfl

/-! ### Next -/
def nxf (g : Int) : Nat → Int × Bool
  | 0 => (0, false)
  | j + 1 => if lG (18 - j) > g then (lG (18 - j), true) else nxf g j
theorem next_loop (g : Int) (j : Nat) : ∀ i : Nat, i + j = 19 → Ev (fun k => leap_Next.l0 k g Lp.T ((Lp.T.length : Nat) : Int) (i : Int)) (nxf g j) := by
  induction j with
  | zero =>
    intro i h
    refine Ev.step (f := fun _ => some (0, false)) (fun k => ?_) (Ev.now _)
    rw [leap_Next.l0, if_neg (by rw [l_len]; omega)]
  | succ j ih =>
    intro i h
    have hI := ih (i + 1) (by omega)
    have e : 18 - j = i := by omega
    have c1 : (i : Int) < ((Lp.T.length : Nat) : Int) := by rw [l_len]; omega
    unfold nxf
    rw [e]
    by_cases hg : lG i > g
    · rw [if_pos hg]
      refine Ev.step (f := fun _ => some (lG i, true)) (fun k => ?_) (Ev.now _)
      rw [leap_Next.l0, if_pos c1, if_pos (by omega), if_pos c1, if_pos (show (rd_T52 Lp.T (i : Int)).f1 > g from hg)]
      rfl
    · rw [if_neg hg]
      refine Ev.step (f := fun k => leap_Next.l0 k g Lp.T ((Lp.T.length : Nat) : Int) ((i + 1 : Nat) : Int)) (fun k => ?_) hI
      rw [leap_Next.l0, if_pos c1, if_pos (by omega), if_pos c1, if_neg (show ¬ (rd_T52 Lp.T (i : Int)).f1 > g from hg), cw64 ((i : Int) + 1) (by omega)]
      rfl
theorem next_tells (g : Int) : Ev (fun k => leap_Next.f k g) (nxf g 19) := by
  refine Ev.bind table_ev ?_
  exact next_loop g 19 0 rfl
theorem rnext_loop (g : Int) (i : Nat) : i ≤ 19 → Ev (fun k => remontoireref04_Next.l0 k g Lp.T (nxf g (19 - i)).1 (nxf g (19 - i)).2 ((i : Int) - 1)) (nxf g 19) := by
  induction i with
  | zero =>
    intro h
    refine Ev.step (f := fun _ => some (nxf g 19)) (fun k => ?_) (Ev.now _)
    rw [remontoireref04_Next.l0, if_neg (by omega)]
  | succ i ih =>
    intro h
    have hI := ih (by omega)
    have c1 : (((i + 1 : Nat) : Int) - 1) = (i : Int) := by omega
    have c2 : (i : Int) < ((Lp.T.length : Nat) : Int) := by rw [l_len]; omega
    have e : nxf g (19 - i) = if lG i > g then (lG i, true) else nxf g (19 - (i + 1)) := by
      rw [show 19 - i = (18 - i) + 1 by omega, show 19 - (i + 1) = 18 - i by omega, nxf, show 18 - (18 - i) = i by omega]
    rw [e] at hI
    rw [c1]
    by_cases hg : lG i > g
    · rw [if_pos hg] at hI
      refine Ev.step (f := fun k => remontoireref04_Next.l0 k g Lp.T (lG i) true ((i : Int) - 1)) (fun k => ?_) hI
      rw [remontoireref04_Next.l0, if_pos (by omega), if_pos (by omega), if_pos c2, if_pos (show (rd_T52 Lp.T (i : Int)).f1 > g from hg), cw64 ((i : Int) - 1) (by omega)]
      rfl
    · rw [if_neg hg] at hI
      refine Ev.step (f := fun k => remontoireref04_Next.l0 k g Lp.T (nxf g (19 - (i + 1))).1 (nxf g (19 - (i + 1))).2 ((i : Int) - 1)) (fun k => ?_) hI
      rw [remontoireref04_Next.l0, if_pos (by omega), if_pos (by omega), if_pos c2, if_neg (show ¬ (rd_T52 Lp.T (i : Int)).f1 > g from hg), cw64 ((i : Int) - 1) (by omega)]
theorem rnext_tells (g : Int) : Ev (fun k => remontoireref04_Next.f k g) (nxf g 19) := by
  refine Ev.bind rtable ?_
  rw [l_len]
  have := rnext_loop g 19 (Nat.le_refl _)
  rw [show 19 - 19 = 0 from rfl, nxf, ← cw64 (((19 : Nat) : Int) - 1) (by omega)] at this
  exact this

/-! ### Offset, UTC -/
theorem roff_loop (g : Int) (j : Nat) : ∀ i : Nat, i + j = 19 → Ev (fun k => remontoireref04_Offset.l0 k g Lp.T (Lp.find (fun x => decide (x.f1 ≤ g)) (Lp.T.take i)).f2 (i : Int)) (Lp.off g) := by
  induction j with
  | zero =>
    intro i h
    obtain rfl : i = 19 := by omega
    refine Ev.step (f := fun _ => some (Lp.off g)) (fun k => ?_) (Ev.now _)
    rw [remontoireref04_Offset.l0, if_neg (by rw [l_len]; omega)]
    rfl
  | succ j ih =>
    intro i h
    have hI := ih (i + 1) (by omega)
    have c1 : (i : Int) < ((Lp.T.length : Nat) : Int) := by rw [l_len]; omega
    rw [Lp.take_snoc Lp.T i (by rw [l_len]; omega), Lp.find_snoc] at hI
    by_cases hg : (rd_T52 Lp.T (i : Int)).f1 ≤ g
    · rw [if_pos (decide_eq_true hg)] at hI
      refine Ev.step (f := fun k => remontoireref04_Offset.l0 k g Lp.T (rd_T52 Lp.T (i : Int)).f2 ((i + 1 : Nat) : Int)) (fun k => ?_) hI
      rw [remontoireref04_Offset.l0, if_pos c1, if_pos (by omega), if_pos hg, cw64 ((i : Int) + 1) (by omega)]
      rfl
    · rw [if_neg (by rw [decide_eq_false hg]; decide)] at hI
      refine Ev.step (f := fun k => remontoireref04_Offset.l0 k g Lp.T (Lp.find (fun x => decide (x.f1 ≤ g)) (Lp.T.take i)).f2 ((i + 1 : Nat) : Int)) (fun k => ?_) hI
      rw [remontoireref04_Offset.l0, if_pos c1, if_pos (by omega), if_neg hg, cw64 ((i : Int) + 1) (by omega)]
      rfl
theorem roff_tells (g : Int) : Ev (fun k => remontoireref04_Offset.f k g) (Lp.off g) := by
  refine Ev.bind rtable ?_
  exact roff_loop g 19 0 rfl

def fl (g : Int) : Nat → Bool
  | 0 => false
  | i + 1 => fl g i || (decide (1 ≤ i) && (lG i - 1 == g))
theorem fl_iff (g : Int) (n : Nat) : fl g n = true ↔ ∃ m : Nat, 1 ≤ m ∧ m < n ∧ lG m - 1 = g := by
  induction n with
  | zero => simp [fl]
  | succ n ih =>
    rw [fl, Bool.or_eq_true, ih, Bool.and_eq_true, decide_eq_true_iff, beq_iff_eq]
    constructor
    · rintro (⟨m, a, b, c⟩ | ⟨a, b⟩)
      · exact ⟨m, a, by omega, c⟩
      · exact ⟨n, a, by omega, b⟩
    · rintro ⟨m, a, b, c⟩
      by_cases e : m = n
      · subst e; exact .inr ⟨a, c⟩
      · exact .inl ⟨m, a, by omega, c⟩
theorem fl_lp (g : Int) : fl g 19 = lp g := by
  have := fl_iff g 19
  rw [← lp_iff] at this
  exact Bool.eq_iff_iff.mpr this
theorem rutc_loop (g : Int) (j : Nat) : ∀ i : Nat, i + j = 19 → 1 ≤ i → Ev (fun k => remontoireref04_UTC.l0 k g Lp.T (fl g i) (i : Int)) (wrap64 (wrap64 (g - Lp.off g) + 2524953600), lp g) := by
  induction j with
  | zero =>
    intro i h _
    obtain rfl : i = 19 := by omega
    refine Ev.step (f := fun k => (remontoireref04_Offset.f k g).bind fun t152 => some (wrap64 (wrap64 (g - t152) + 2524953600), fl g 19)) (fun k => ?_) (Ev.bind (roff_tells g) ?_)
    · rw [remontoireref04_UTC.l0, if_neg (by rw [l_len]; omega)]
    · rw [fl_lp]; exact Ev.now _
  | succ j ih =>
    intro i h h1
    have hI := ih (i + 1) (by omega) (by omega)
    have c1 : (i : Int) < ((Lp.T.length : Nat) : Int) := by rw [l_len]; omega
    have hr := l_rel i (by omega)
    rw [fl, decide_eq_true h1, Bool.true_and] at hI
    by_cases hf : fl g i = true
    · rw [hf, Bool.true_or] at hI
      rw [hf]
      refine Ev.step (f := fun k => remontoireref04_UTC.l0 k g Lp.T true ((i + 1 : Nat) : Int)) (fun k => ?_) hI
      rw [remontoireref04_UTC.l0, if_pos c1, if_pos rfl, cw64 ((i : Int) + 1) (by omega)]
      rfl
    · rw [Bool.eq_false_iff.mpr hf, Bool.false_or] at hI
      rw [Bool.eq_false_iff.mpr hf]
      refine Ev.step (f := fun k => remontoireref04_UTC.l0 k g Lp.T (lG i - 1 == g) ((i + 1 : Nat) : Int)) (fun k => ?_) hI
      rw [remontoireref04_UTC.l0, if_pos c1, if_neg (by decide), if_pos (by omega), cw64 ((i : Int) + 1) (by omega), show (rd_T52 Lp.T (i : Int)).f1 = lG i from rfl, cw64 (lG i - 1) (by omega)]
      rfl
theorem rutc_tells (g : Int) : Ev (fun k => remontoireref04_UTC.f k g) (wrap64 (wrap64 (g - Lp.off g) + 2524953600), lp g) := by
  refine Ev.bind rtable ?_
  exact rutc_loop g 18 1 rfl (by omega)
theorem rutc_seg {g : Int} {i : Nat} (h : Seg g i) (h6 : g ≤ 6000000000) : Ev (fun k => remontoireref04_UTC.f k g) (g - (i : Int) + 2524953600, lp g) := by
  have h0 := (l_rel i h.1).2.2.1
  have h1 := h.2.1
  have h2 := h.1
  have := rutc_tells g
  rw [off_seg h, cw64 (g - (i : Int)) (by omega), cw64 _ (by omega)] at this
  exact this
end Go.Proofs.Ytjabbppmkepgdaa.Pure
