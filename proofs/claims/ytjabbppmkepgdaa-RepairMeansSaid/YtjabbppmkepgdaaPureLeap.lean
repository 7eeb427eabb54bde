/- Plain laws of the table of leap seconds: what leap.Offset, leap.UTC and leap.GPS tell of it, line by line. -/
import Derived.Test.YtjabbppmkepgdaaH5
import Derived.Test.YtjabbppmkepgdaaQLx2
import Derived.Test.YtjabbppmkepgdaaPureCivilOf
namespace Go.Proofs.Ytjabbppmkepgdaa.Pure
set_option linter.unusedVariables false
open Go.RowKit Go.Proofs.Ytjabbppmkepgdaa Go.Proofs.Ytjabbppmkepgdaa.QL Go.Proofs.YtjabbppmkepgdaaW.PrintWords Go.Proofs.YtjabbppmkepgdaaW.PrintLast

def lU (i : Nat) : Int := (rd_T52 Lp.T (i : Int)).f0
def lG (i : Nat) : Int := (rd_T52 Lp.T (i : Int)).f1

theorem l_rel : ∀ i : Nat, i < 19 → lG i = lU i - 2524953600 + (i : Int) ∧ (rd_T52 Lp.T (i : Int)).f2 = (i : Int) ∧ 0 ≤ lG i ∧ lG i ≤ 2000000000 := by decide
theorem l_step : ∀ i : Nat, i < 18 → lG i + 1000000 < lG (i + 1) := by decide
theorem l_zero : lG 0 = 0 := by decide
theorem l_ulo : ∀ i : Nat, i < 19 → 2524953600 ≤ lU i := by decide
theorem l_len : Lp.T.length = 19 := rfl
theorem l_mono (j : Nat) : ∀ i : Nat, i + j < 19 → lG i + 1000000 * (j : Int) ≤ lG (i + j) := by
  induction j with
  | zero => intro i h; simp
  | succ j ih =>
    intro i h
    have h1 := ih i (by omega)
    have h2 := l_step (i + j) (by omega)
    rw [show i + (j + 1) = i + j + 1 by omega]
    omega
theorem l_le {i j : Nat} (h : i ≤ j) (hj : j < 19) : lG i + 1000000 * ((j : Int) - (i : Int)) ≤ lG j := by
  have := l_mono (j - i) i (by omega)
  rw [show i + (j - i) = j by omega] at this
  omega

/-- In which line's reach is this second? -/
def Seg (g : Int) (i : Nat) : Prop := i < 19 ∧ lG i ≤ g ∧ (i < 18 → g < lG (i + 1))
theorem seg_of (g : Int) (h : 0 ≤ g) : ∃ i, Seg g i := by
  have key : ∀ n : Nat, n < 19 → lG (18 - n) ≤ g → (∃ i, Seg g i) := by
    intro n
    induction n with
    | zero => intro _ h1; exact ⟨18, by omega, h1, fun h => absurd h (by omega)⟩
    | succ n ih =>
      intro hn h1
      by_cases h2 : lG (18 - n) ≤ g
      · exact ih (by omega) h2
      · refine ⟨18 - (n + 1), by omega, h1, fun _ => ?_⟩
        rw [show 18 - (n + 1) + 1 = 18 - n by omega]
        omega
  exact key 18 (by omega) (by rw [show 18 - 18 = 0 by rfl, l_zero]; exact h)

theorem find_take (p : S52 → Bool) (T : List S52) (i : Nat) (hi : i < T.length) (hp : p (rd_T52 T (i : Int)) = true) (j : Nat) : i + 1 + j ≤ T.length → (∀ m : Nat, i < m → m < T.length → p (rd_T52 T (m : Int)) = false) →
    Lp.find p (T.take (i + 1 + j)) = rd_T52 T (i : Int) := by
  induction j with
  | zero => intro h hn; rw [Nat.add_zero, Lp.take_snoc T i hi, Lp.find_snoc, if_pos hp]
  | succ j ih =>
    intro h hn
    have h1 := ih (by omega) hn
    rw [show i + 1 + (j + 1) = (i + 1 + j) + 1 by omega, Lp.take_snoc T (i + 1 + j) (by omega), Lp.find_snoc, hn (i + 1 + j) (by omega) (by omega), h1]
    rfl
theorem find_at (p : S52 → Bool) (T : List S52) (i : Nat) (hi : i < T.length) (hp : p (rd_T52 T (i : Int)) = true) (hn : ∀ m : Nat, i < m → m < T.length → p (rd_T52 T (m : Int)) = false) : Lp.find p T = rd_T52 T (i : Int) := by
  have := find_take p T i hi hp (T.length - (i + 1)) (by omega) hn
  rw [show i + 1 + (T.length - (i + 1)) = T.length by omega, List.take_length] at this
  exact this
theorem off_seg {g : Int} {i : Nat} (h : Seg g i) : Lp.off g = (i : Int) := by
  obtain ⟨h0, h1, h2⟩ := h
  unfold Lp.off
  rw [find_at _ Lp.T i (by rw [l_len]; exact h0) (decide_eq_true h1) ?_, (l_rel i h0).2.1]
  intro m hm1 hm2
  rw [l_len] at hm2
  have := l_le (i := i + 1) (j := m) (by omega) hm2
  have := h2 (by omega)
  exact decide_eq_false (show ¬ (lG m ≤ g) by omega)
theorem line_seg {s : Int} {i : Nat} (h0 : i < 19) (h1 : lU i ≤ s) (h2 : i < 18 → s < lU (i + 1)) : Lp.line0 s = rd_T52 Lp.T (i : Int) := by
  unfold Lp.line0
  rw [find_at _ Lp.T i (by rw [l_len]; exact h0) (decide_eq_true h1) ?_]
  intro m hm1 hm2
  rw [l_len] at hm2
  have a1 := l_le (i := i + 1) (j := m) (by omega) hm2
  have a2 := h2 (by omega)
  have a3 := l_rel m hm2
  have a4 := l_rel (i + 1) (by omega)
  exact decide_eq_false (show ¬ (lU m ≤ s) by omega)

theorem any_rd (p : S52 → Bool) (T : List S52) : T.any p = true ↔ ∃ m : Nat, m < T.length ∧ p (rd_T52 T (m : Int)) = true := by
  constructor
  · intro h
    rw [List.any_eq_true] at h
    obtain ⟨x, hx, hp⟩ := h
    obtain ⟨m, hm, e⟩ := List.getElem_of_mem hx
    refine ⟨m, hm, ?_⟩
    unfold rd_T52
    rw [Int.toNat_natCast, List.getD_eq_getElem?_getD, List.getElem?_eq_getElem hm]
    simpa [e] using hp
  · rintro ⟨m, hm, hp⟩
    exact Lp.any_hit p T m hm hp
/-- Is this second a leap second? -/
def lp (g : Int) : Bool := Lp.T.any (Lp.isLeap g)
theorem lp_iff (g : Int) : lp g = true ↔ ∃ m : Nat, 1 ≤ m ∧ m < 19 ∧ lG m - 1 = g := by
  unfold lp
  rw [any_rd, l_len]
  constructor
  · rintro ⟨m, hm, hp⟩
    unfold Lp.isLeap at hp
    rw [Bool.and_eq_true] at hp
    have a := l_rel m hm
    have b := of_decide_eq_true hp.1
    have c := beq_iff_eq.mp hp.2
    rw [a.2.1] at b
    rw [show (rd_T52 Lp.T (m : Int)).f1 = lG m from rfl, cw64 _ (by omega)] at c
    exact ⟨m, by omega, hm, c⟩
  · rintro ⟨m, h1, hm, e⟩
    have a := l_rel m hm
    refine ⟨m, hm, ?_⟩
    unfold Lp.isLeap
    rw [a.2.1, show (rd_T52 Lp.T (m : Int)).f1 = lG m from rfl, cw64 _ (by omega), e, decide_eq_true (show (0 : Int) < (m : Int) by omega), beq_self_eq_true]
    rfl
theorem lp_seg {g : Int} {i : Nat} (h : Seg g i) : lp g = true ↔ i < 18 ∧ g = lG (i + 1) - 1 := by
  obtain ⟨h0, h1, h2⟩ := h
  rw [lp_iff]
  constructor
  · rintro ⟨m, m1, m2, e⟩
    by_cases hm : m ≤ i
    · have := l_le hm h0; omega
    · by_cases hm' : m = i + 1
      · subst hm'; exact ⟨by omega, by omega⟩
      · have := l_le (i := i + 1) (j := m) (by omega) m2
        have := h2 (by omega)
        omega
  · rintro ⟨h3, e⟩
    exact ⟨i + 1, by omega, by omega, by omega⟩

theorem utc_no (g : Int) (h : g < 0 ∨ 6000000000 < g) : leap_UTC.f g = some (0, false, 9) := congrArg some (if_pos h)
theorem utc_yes {g : Int} {i : Nat} (h : Seg g i) (h6 : g ≤ 6000000000) : leap_UTC.f g = some (g - (i : Int) + 2524953600, lp g, 0) := by
  have h0 := (l_rel i h.1).2.2.1
  have h1 := h.2.1
  have h2 := h.1
  refine (congrArg some (if_neg (by omega))).trans ?_
  rw [off_seg h, cw64 (g - (i : Int)) (by omega), cw64 _ (by omega)]
  rfl
theorem offset_no (g : Int) (h : g < 0 ∨ 6000000000 < g) : leap_Offset.f g = some (0, 9) := congrArg some (if_pos h)
theorem offset_yes {g : Int} {i : Nat} (h : Seg g i) (h6 : g ≤ 6000000000) : leap_Offset.f g = some ((i : Int), 0) := by
  have h0 := (l_rel i h.1).2.2.1
  have h1 := h.2.1
  refine (congrArg some (if_neg (by omega))).trans ?_
  rw [off_seg h]

/-- Of a UTC second: in which line's reach? -/
def SegU (s : Int) (i : Nat) : Prop := i < 19 ∧ lU i ≤ s ∧ (i < 18 → s < lU (i + 1))
theorem gps_over (s : Int) (b : Bool) (h : s < 2524953600 ∨ 8524953600 < s) : leap_GPS.f s b = some (0, 9) := by
  refine congrArg some (if_pos ?_)
  rcases h with h | h
  · exact .inl h
  · exact .inr (.inl h)
theorem gps_at {s : Int} {i : Nat} (h : SegU s i) (b : Bool) (h1 : 2524953600 ≤ s ∧ s ≤ 8524953600) :
    leap_GPS.f s b = some (if 6000000000 < s - 2524953600 + (i : Int) then (0, 9) else if b = true ∧ (lU i ≠ s ∨ i = 0) then (0, 5) else if b = true then (lG i - 1, 0) else (s - 2524953600 + (i : Int), 0)) := by
  have hr := l_rel i h.1
  have hi := h.1
  unfold leap_GPS.f Lp.gps
  rw [line_seg h.1 h.2.1 h.2.2, hr.2.1, cw64 (s - 2524953600) (by omega), cw64 (s - 2524953600 + (i : Int)) (by omega), show (rd_T52 Lp.T (i : Int)).f0 = lU i from rfl, show (rd_T52 Lp.T (i : Int)).f1 = lG i from rfl, cw64 (lG i - 1) (by omega)]
  congr 1
  by_cases h2 : 6000000000 < s - 2524953600 + (i : Int)
  · rw [if_pos (.inr (.inr h2)), if_pos h2]
  · rw [if_neg (by omega), if_neg h2]
    by_cases h3 : b = true ∧ (lU i ≠ s ∨ i = 0)
    · rw [if_pos h3, if_pos ⟨h3.1, by omega⟩]
    · rw [if_neg h3, if_neg (by intro h; exact h3 ⟨h.1, by omega⟩)]

theorem table_ev : Ev (fun k => leap_Table.f k) Lp.T := by
  refine Ev.congr (f := fun k => leap_Table.l0 k (Lp.T.take (0 + 1)) Lp.months 18 ((0 : Nat) : Int)) (fun k => ?_) (Lp.table_loop 18 0 rfl)
  unfold leap_Table.f leap_months.f
  rfl
theorem knownL : leap_UTC.f 1167264016 = some (3692217599, false, 0) ∧ leap_UTC.f 1167264017 = some (3692217600, true, 0) ∧ leap_UTC.f 1167264018 = some (3692217600, false, 0) ∧ leap_GPS.f 3692217600 true = some (1167264017, 0) := by
  refine ⟨?_, ?_, ?_, ?_⟩ <;> decide +kernel
end Go.Proofs.Ytjabbppmkepgdaa.Pure
