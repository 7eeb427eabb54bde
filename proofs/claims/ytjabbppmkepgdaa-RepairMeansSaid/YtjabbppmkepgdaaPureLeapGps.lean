/- Plain laws of the document's GPS second of a UTC second: it is leap.GPS's. -/
import Derived.Test.YtjabbppmkepgdaaPureLeapRef
namespace Go.Proofs.Ytjabbppmkepgdaa.Pure
set_option linter.unusedVariables false
open Go.RowKit Go.Proofs.Ytjabbppmkepgdaa Go.Proofs.Ytjabbppmkepgdaa.QL Go.Proofs.Ytjabbppmkepgdaa.QC Go.Proofs.YtjabbppmkepgdaaW.PrintWords Go.Proofs.YtjabbppmkepgdaaW.PrintLast

theorem u_step {i : Nat} (h : i < 18) : lU i < lU (i + 1) := by
  have := l_step i h
  have := l_rel i (by omega)
  have := l_rel (i + 1) (by omega)
  omega
theorem u_le {i j : Nat} (h : i ≤ j) (hj : j < 19) : lU i + 900000 * ((j : Int) - (i : Int)) ≤ lU j := by
  have := l_le h hj
  have := l_rel i (by omega)
  have := l_rel j hj
  omega
theorem segU_of (s : Int) (h : 2524953600 ≤ s) : ∃ i, SegU s i := by
  have key : ∀ n : Nat, n < 19 → lU (18 - n) ≤ s → (∃ i, SegU s i) := by
    intro n
    induction n with
    | zero => intro _ h1; exact ⟨18, by omega, h1, fun h => absurd h (by omega)⟩
    | succ n ih =>
      intro hn h1
      by_cases h2 : lU (18 - n) ≤ s
      · exact ih (by omega) h2
      · refine ⟨18 - (n + 1), by omega, h1, fun _ => ?_⟩
        rw [show 18 - (n + 1) + 1 = 18 - n by omega]
        omega
  refine key 18 (by omega) ?_
  have := l_rel 0 (by omega)
  have := l_zero
  rw [show 18 - 18 = 0 from rfl]
  omega

/-- Is this one the second sought? -/
def Hit (s : Int) (b : Bool) (d : Nat) : Prop := Seg (s - 2524953600 + (d : Int)) d ∧ lp (s - 2524953600 + (d : Int)) = b
theorem gps_round (s : Int) (b : Bool) (h1 : 2524953600 ≤ s ∧ s ≤ 8524953600) (d : Nat) (hd : d ≤ 18) (h6 : s - 2524953600 + (d : Int) ≤ 6000000000) (r : Int × Int)
    (hy : Hit s b d → r = (s - 2524953600 + (d : Int), 0)) (hn : ¬ Hit s b d → Ev (fun k => remontoireref04_GPS.l0 k s b (s - 2524953600 + ((d + 1 : Nat) : Int))) r) :
    Ev (fun k => remontoireref04_GPS.l0 k s b (s - 2524953600 + (d : Int))) r := by
  obtain ⟨e, he⟩ := seg_of (s - 2524953600 + (d : Int)) (by omega)
  have hu := rutc_seg he h6
  refine Ev.step (f := fun k => (remontoireref04_UTC.f k (s - 2524953600 + (d : Int))).bind fun bt155 => (if bt155.1 = s then (if (bt155.2 == b) = true then (some (s - 2524953600 + (d : Int), 0)) else (remontoireref04_GPS.l0 k s b (wrap64 (s - 2524953600 + (d : Int) + 1)))) else (remontoireref04_GPS.l0 k s b (wrap64 (s - 2524953600 + (d : Int) + 1))))) (fun k => ?_) (Ev.bind hu ?_)
  · rw [remontoireref04_GPS.l0, cw64 (s - 2524953600) (by omega), cw64 (s - 2524953600 + 18) (by omega), if_pos (by omega)]
    unfold remontoireref04_In.f
    rw [if_pos (by omega), decide_eq_true h6]
    rfl
  · dsimp only
    rw [cw64 (s - 2524953600 + (d : Int) + 1) (by omega)]
    have ha : s - 2524953600 + (d : Int) + 1 = s - 2524953600 + ((d + 1 : Nat) : Int) := by omega
    rw [ha]
    by_cases c1 : e = d
    · subst e
      refine ev_pos (by omega) ?_
      by_cases c2 : lp (s - 2524953600 + (d : Int)) = b
      · refine ev_pos (beq_iff_eq.mpr c2) ?_
        rw [hy ⟨he, c2⟩]
        exact Ev.now _
      · refine ev_neg (fun h => c2 (beq_iff_eq.mp h)) ?_
        exact hn (fun h => c2 h.2)
    · refine ev_neg (by omega) ?_
      refine hn (fun h => c1 ?_)
      have a1 := h.1
      by_cases c3 : e < d
      · have := l_le (i := e + 1) (j := d) (by omega) a1.1
        have := he.2.2 (by have := a1.1; omega)
        have := a1.2.1
        omega
      · by_cases c4 : d < e
        · have := l_le (i := d + 1) (j := e) (by omega) he.1
          have := a1.2.2 (by have := he.1; omega)
          have := he.2.1
          omega
        · omega
theorem gps_hit (s : Int) (b : Bool) (h1 : 2524953600 ≤ s ∧ s ≤ 8524953600) (D : Nat) (hD : D ≤ 18) (h6 : s - 2524953600 + 18 ≤ 6000000000) (hh : Hit s b D) (j : Nat) : ∀ d : Nat, d + j = D → (∀ m : Nat, d ≤ m → m < D → ¬ Hit s b m) →
    Ev (fun k => remontoireref04_GPS.l0 k s b (s - 2524953600 + (d : Int))) (s - 2524953600 + (D : Int), 0) := by
  induction j with
  | zero =>
    intro d h hn
    obtain rfl : d = D := by omega
    exact gps_round s b h1 d hD (by omega) _ (fun _ => rfl) (fun h => absurd hh h)
  | succ j ih =>
    intro d h hn
    exact gps_round s b h1 d (by omega) (by omega) _ (fun h2 => absurd h2 (hn d (Nat.le_refl _) (by omega))) (fun _ => ih (d + 1) (by omega) (fun m a c => hn m (by omega) c))
theorem gps_none (s : Int) (b : Bool) (h1 : 2524953600 ≤ s ∧ s ≤ 8524953600) (h6 : s - 2524953600 + 18 ≤ 6000000000) (hn : ∀ m : Nat, m < 19 → ¬ Hit s b m) (j : Nat) : ∀ d : Nat, d + j = 19 →
    Ev (fun k => remontoireref04_GPS.l0 k s b (s - 2524953600 + (d : Int))) (0, 5) := by
  induction j with
  | zero =>
    intro d h
    obtain rfl : d = 19 := by omega
    refine Ev.step (f := fun _ => some (0, 5)) (fun k => ?_) (Ev.now _)
    rw [remontoireref04_GPS.l0, cw64 (s - 2524953600) (by omega), cw64 (s - 2524953600 + 18) (by omega), if_neg (by omega)]
  | succ j ih =>
    intro d h
    exact gps_round s b h1 d (by omega) (by omega) _ (fun h2 => absurd h2 (hn d (by omega))) (fun _ => ih (d + 1) (by omega))

theorem hit_cases {s : Int} {i d : Nat} (hi : SegU s i) (h : Seg (s - 2524953600 + (d : Int)) d) : (d = i ∧ lp (s - 2524953600 + (d : Int)) = false) ∨ (d + 1 = i ∧ s = lU i ∧ lp (s - 2524953600 + (d : Int)) = true) := by
  have r1 := l_rel d h.1
  have e1 := hi.1
  have e2 := hi.2.1
  have e3 := hi.2.2
  have e4 := h.2.1
  have e5 := h.2.2
  have e6 := h.1
  by_cases c1 : d = i
  · left
    refine ⟨c1, Bool.eq_false_iff.mpr (fun hl => ?_)⟩
    obtain ⟨a1, a2⟩ := (lp_seg h).mp hl
    have := l_rel (d + 1) (by omega)
    subst c1
    have := e3 a1
    omega
  · have hlt : d < i := by
      by_cases c2 : d < i
      · exact c2
      · have := u_le (i := i + 1) (j := d) (by omega) e6
        have := e3 (by omega)
        omega
    have r2 := l_rel (d + 1) (by omega)
    have := e5 (by omega)
    have hui := u_le (i := d + 1) (j := i) (by omega) e1
    right
    have hd : d + 1 = i := by omega
    subst hd
    refine ⟨rfl, by omega, (lp_seg h).mpr ⟨by omega, by omega⟩⟩
theorem hit_yes {s : Int} {i : Nat} (hi : SegU s i) : Hit s false i := by
  have r1 := l_rel i hi.1
  have hs : Seg (s - 2524953600 + (i : Int)) i := by
    refine ⟨hi.1, by have := hi.2.1; omega, fun h => ?_⟩
    have := l_rel (i + 1) (by omega)
    have := hi.2.2 h
    omega
  refine ⟨hs, ?_⟩
  rcases hit_cases hi hs with h | h
  · exact h.2
  · exact absurd h.1 (by omega)
theorem hit_leap {s : Int} {i : Nat} (hi : SegU s (i + 1)) (h : s = lU (i + 1)) : Hit s true i := by
  have e := hi.1
  have r1 := l_rel (i + 1) e
  have r2 := l_step i (by omega)
  have hs : Seg (s - 2524953600 + (i : Int)) i := ⟨by omega, by omega, fun h => by omega⟩
  exact ⟨hs, (lp_seg hs).mpr ⟨by omega, by omega⟩⟩

theorem gps_both (s : Int) (b : Bool) : ∃ r, leap_GPS.f s b = some r ∧ Ev (fun k => remontoireref04_GPS.f k s b) r := by
  unfold remontoireref04_GPS.f
  by_cases h0 : s < 2524953600
  · refine ⟨_, gps_over s b (.inl h0), ev_pos h0 ?_⟩
    refine Ev.step (f := fun _ => some (0, 9)) (fun k => ?_) (Ev.now _)
    rw [remontoireref04_GPS.j0, if_pos rfl]
  by_cases h9 : s > 9000000000
  · refine ⟨_, gps_over s b (.inr (by omega)), ev_neg h0 ?_⟩
    refine Ev.step (f := fun _ => some (0, 9)) (fun k => ?_) (Ev.now _)
    rw [remontoireref04_GPS.j0, decide_eq_true h9, if_pos rfl]
  have hw1 : wrap64 (s - 2524953600) = s - 2524953600 := cw64 _ (by omega)
  have hw2 : wrap64 (s - 2524953600 + 18) = s - 2524953600 + 18 := cw64 _ (by omega)
  have step : ∀ r, Ev (fun k => if (wrap64 (s - 2524953600 + Lp.off (s - 2524953600 + 18))) > 6000000000 then (some (0, 9)) else (remontoireref04_GPS.l0 k s b (s - 2524953600))) r →
      Ev (fun k => if s < 2524953600 then (remontoireref04_GPS.j0 k s b true) else (remontoireref04_GPS.j0 k s b (decide (s > 9000000000)))) r := by
    intro r hr
    refine ev_neg h0 ?_
    refine Ev.step (f := fun k => (remontoireref04_Offset.f k (s - 2524953600 + 18)).bind fun t153 => (if (wrap64 (s - 2524953600 + t153)) > 6000000000 then (some (0, 9)) else (remontoireref04_GPS.l0 k s b (s - 2524953600)))) (fun k => ?_) (Ev.bind (roff_tells (s - 2524953600 + 18)) ?_)
    · rw [remontoireref04_GPS.j0, decide_eq_false h9, if_neg (by decide), hw1, hw2]
    · exact hr
  obtain ⟨o, ho⟩ := seg_of (s - 2524953600 + 18) (by omega)
  have hol := ho.1
  rw [off_seg ho, cw64 (s - 2524953600 + (o : Int)) (by omega)] at step
  by_cases h8 : 8524953600 < s
  · exact ⟨_, gps_over s b (.inr h8), step _ (ev_pos (by omega) (Ev.now _))⟩
  obtain ⟨i, hi⟩ := segU_of s (by omega)
  have hil := hi.1
  have hul := l_rel i hil
  have hui := hi.2.1
  have h18 := l_rel 18 (by omega)
  have same : 6000000000 < s - 2524953600 + (i : Int) ↔ 6000000000 < s - 2524953600 + (o : Int) := by
    by_cases c : s - 2524953600 ≤ 5000000000
    · omega
    · have : i = 18 := by
        by_cases c2 : i = 18
        · exact c2
        · have := hi.2.2 (by omega)
          have := u_le (i := i + 1) (j := 18) (by omega) (by omega)
          omega
      have : o = 18 := by
        by_cases c2 : o = 18
        · exact c2
        · have := ho.2.2 (by omega)
          have := l_le (i := o + 1) (j := 18) (by omega) (by omega)
          omega
      omega
  rw [gps_at hi b (by omega)]
  refine ⟨_, rfl, step _ ?_⟩
  by_cases h6 : 6000000000 < s - 2524953600 + (i : Int)
  · rw [if_pos h6]
    exact ev_pos (same.mp h6) (Ev.now _)
  rw [if_neg h6]
  refine ev_neg (fun h => h6 (same.mpr h)) ?_
  have h6' : s - 2524953600 + 18 ≤ 6000000000 := by
    by_cases c : s - 2524953600 ≤ 5000000000
    · omega
    · have : i = 18 := by
        by_cases c2 : i = 18
        · exact c2
        · have := hi.2.2 (by omega)
          have := u_le (i := i + 1) (j := 18) (by omega) (by omega)
          omega
      omega
  have h1 : 2524953600 ≤ s ∧ s ≤ 8524953600 := by omega
  refine Ev.congr (f := fun k => remontoireref04_GPS.l0 k s b (s - 2524953600 + ((0 : Nat) : Int))) (fun k => by rw [show s - 2524953600 + ((0 : Nat) : Int) = s - 2524953600 by omega]) ?_
  cases b with
  | false =>
    rw [if_neg (by simp), if_neg (by simp)]
    refine gps_hit s false h1 i (by omega) h6' (hit_yes hi) i 0 (by omega) ?_
    rintro m _ hm ⟨hs, hl⟩
    rcases hit_cases hi hs with h | h
    · omega
    · rw [hl] at h; exact absurd h.2.2 (by decide)
  | true =>
    by_cases h5 : lU i ≠ s ∨ i = 0
    · rw [if_pos ⟨rfl, h5⟩]
      refine gps_none s true h1 h6' ?_ 19 0 rfl
      rintro m hm ⟨hs, hl⟩
      rcases hit_cases hi hs with h | h
      · rw [hl] at h; exact absurd h.2 (by decide)
      · omega
    · rw [if_neg (fun h => h5 h.2), if_pos rfl]
      obtain ⟨n, rfl⟩ : ∃ n, i = n + 1 := ⟨i - 1, by omega⟩
      have hh := hit_leap hi (by omega)
      have e : lG (n + 1) - 1 = s - 2524953600 + (n : Int) := by omega
      rw [e]
      refine gps_hit s true h1 n (by omega) h6' hh n 0 (by omega) ?_
      rintro m _ hm ⟨hs, hl⟩
      rcases hit_cases hi hs with h | h
      · omega
      · omega

end Go.Proofs.Ytjabbppmkepgdaa.Pure
