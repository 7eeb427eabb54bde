/- Plain laws of repair.GPS: which of the seconds that lie whole cycles apart it picks. -/
import Derived.Test.YtjabbppmkepgdaaH11
import Derived.Test.YtjabbppmkepgdaaPureLeapGps
namespace Go.Proofs.Ytjabbppmkepgdaa.Pure
set_option linter.unusedVariables false
open Go.RowKit Go.Proofs.Ytjabbppmkepgdaa Go.Proofs.Ytjabbppmkepgdaa.QL Go.Proofs.Ytjabbppmkepgdaa.QC Go.Proofs.YtjabbppmkepgdaaW.PrintWords Go.Proofs.YtjabbppmkepgdaaW.PrintLast

def bi (b : Bool) : Int := if b = true then 1 else 0
theorem bi_bd (b : Bool) : 0 ≤ bi b ∧ bi b ≤ 1 := by cases b <;> decide

/-- What comes to a GPS second lies so far from it. -/
theorem gps_ok {s : Int} {b : Bool} (h : (Lp.gps s b).2 = 0) : ∃ i : Nat, SegU s i ∧ 2524953600 ≤ s ∧ s ≤ 8524953600 ∧ (Lp.gps s b).1 = s - 2524953600 + (i : Int) - bi b := by
  by_cases h1 : s < 2524953600 ∨ 8524953600 < s
  · have e : Lp.gps s b = (0, 9) := Option.some.inj (gps_over s b h1)
    rw [e] at h; exact absurd h (by decide)
  obtain ⟨i, hi⟩ := segU_of s (by omega)
  have e := Option.some.inj (gps_at hi b (by omega))
  change Lp.gps s b = _ at e
  refine ⟨i, hi, by omega, by omega, ?_⟩
  rw [e] at h ⊢
  by_cases c1 : 6000000000 < s - 2524953600 + (i : Int)
  · rw [if_pos c1] at h; exact absurd h (by decide)
  rw [if_neg c1] at h ⊢
  by_cases c2 : b = true ∧ (lU i ≠ s ∨ i = 0)
  · rw [if_pos c2] at h; exact absurd h (by decide)
  rw [if_neg c2]
  by_cases c3 : b = true
  · have c4 : lU i = s := by
      by_cases c : lU i = s
      · exact c
      · exact absurd ⟨c3, .inl c⟩ c2
    have := (l_rel i hi.1).1
    rw [if_pos c3]
    unfold bi
    rw [if_pos c3]
    show lG i - 1 = _
    omega
  · rw [if_neg c3]
    unfold bi
    rw [if_neg c3]
    show s - 2524953600 + (i : Int) = _
    omega
theorem segU_mono {x y : Int} {i j : Nat} (hx : SegU x i) (hy : SegU y j) (h : x ≤ y) : i ≤ j := by
  by_cases c : i ≤ j
  · exact c
  have e := hx.1
  have := u_le (i := j + 1) (j := i) (by omega) e
  have := hy.2.2 (by omega)
  have := hx.2.1
  omega

/-! ### Picking -/
def dpick (ht : Int → Bool) (gg : Int → Int) : List Int → Int × Bool
  | [] => (0, false)
  | x :: t => if ht x = true then (gg x, true) else dpick ht gg t
theorem dpick_spec (ht : Int → Bool) (gg : Int → Int) : ∀ xs : List Int, (∃ x ∈ xs, ht x = true ∧ dpick ht gg xs = (gg x, true)) ∨ ((∀ x ∈ xs, ht x = false) ∧ dpick ht gg xs = (0, false))
  | [] => .inr ⟨fun x h => absurd h (List.not_mem_nil), rfl⟩
  | x :: t => by
    by_cases h : ht x = true
    · exact .inl ⟨x, List.mem_cons_self .., h, if_pos h⟩
    · rcases dpick_spec ht gg t with ⟨y, hy, h1, h2⟩ | ⟨h1, h2⟩
      · exact .inl ⟨y, List.mem_cons_of_mem _ hy, h1, (if_neg h).trans h2⟩
      · refine .inr ⟨fun z hz => ?_, (if_neg h).trans h2⟩
        rcases List.mem_cons.mp hz with rfl | hz
        · exact Bool.eq_false_iff.mpr h
        · exact h1 z hz
theorem dpick_eq (ht : Int → Bool) (gg : Int → Int) (xs ys : List Int) (h1 : ∀ x ∈ xs, ht x = true → x ∈ ys) (h2 : ∀ y ∈ ys, ht y = true → y ∈ xs) (hu : ∀ x ∈ xs, ∀ y ∈ xs, ht x = true → ht y = true → x = y) :
    dpick ht gg xs = dpick ht gg ys := by
  rcases dpick_spec ht gg xs with ⟨x, hx, a1, a2⟩ | ⟨a1, a2⟩
  · rcases dpick_spec ht gg ys with ⟨y, hy, b1, b2⟩ | ⟨b1, b2⟩
    · rw [a2, b2, hu x hx y (h2 y hy b1) a1 b1]
    · have := b1 x (h1 x hx a1); rw [a1] at this; exact absurd this (by decide)
  · rcases dpick_spec ht gg ys with ⟨y, hy, b1, b2⟩ | ⟨b1, b2⟩
    · have := a1 y (h2 y hy b1); rw [b1] at this; exact absurd this (by decide)
    · rw [a2, b2]
theorem dpick_only (ht : Int → Bool) (gg : Int → Int) (xs : List Int) (x : Int) (hx : x ∈ xs) (h : ht x = true) (hu : ∀ y ∈ xs, ht y = true → gg y = gg x) : dpick ht gg xs = (gg x, true) := by
  rcases dpick_spec ht gg xs with ⟨y, hy, b1, b2⟩ | ⟨b1, b2⟩
  · rw [b2, hu y hy b1]
  · have := b1 x hx; rw [h] at this; exact absurd this (by decide)

/-- A UTC second that may be meant, and its GPS second. -/
def gh (b : Bool) (floor x : Int) : Bool := (Lp.gps (x + bi b) b).2 == 0 && (decide (floor ≤ (Lp.gps (x + bi b) b).1) && decide ((Lp.gps (x + bi b) b).1 < floor + 619315200))
def gv (b : Bool) (x : Int) : Int := (Lp.gps (x + bi b) b).1
theorem gh_iff {b : Bool} {floor x : Int} : gh b floor x = true ↔ (Lp.gps (x + bi b) b).2 = 0 ∧ floor ≤ gv b x ∧ gv b x < floor + 619315200 := by
  unfold gh gv
  simp
theorem gh_at {b : Bool} {floor x : Int} (h : gh b floor x = true) : ∃ i : Nat, SegU (x + bi b) i ∧ 2524953600 ≤ x + bi b ∧ x + bi b ≤ 8524953600 ∧ gv b x = x - 2524953600 + (i : Int) ∧ i ≤ 18 ∧ floor ≤ gv b x ∧ gv b x < floor + 619315200 := by
  obtain ⟨h1, h2, h3⟩ := gh_iff.mp h
  obtain ⟨i, a1, a2, a3, a4⟩ := gps_ok h1
  refine ⟨i, a1, a2, a3, ?_, by have := a1.1; omega, h2, h3⟩
  unfold gv
  omega
/-- Of seconds that lie whole cycles apart one alone comes. -/
theorem gh_one {b : Bool} {floor x y : Int} (hx : gh b floor x = true) (hy : gh b floor y = true) (hc : (x - y) % 619315200 = 0) : x = y := by
  have key : ∀ x y : Int, gh b floor x = true → gh b floor y = true → (x - y) % 619315200 = 0 → x ≤ y → x = y := by
    intro x y hx hy hc hle
    obtain ⟨i, a1, a2, a3, a4, a5, a6, a7⟩ := gh_at hx
    obtain ⟨j, b1, b2, b3, b4, b5, b6, b7⟩ := gh_at hy
    have := segU_mono a1 b1 (by omega)
    omega
  by_cases h : x ≤ y
  · exact key x y hx hy hc h
  · exact (key y x hy hx (by omega) (by omega)).symm

theorem gv_eq (b : Bool) (x : Int) (h : -4611686018427387904 ≤ x ∧ x ≤ 4611686018427387904) : Rp.gv b x = Lp.gps (x + bi b) b := by
  cases b with
  | true => show Lp.gps (wrap64 (x + 1)) true = _; rw [cw64 _ (by omega)]; rfl
  | false => show Lp.gps (wrap64 x) false = _; rw [cw64 _ (by omega)]; show _ = Lp.gps (x + 0) false; rw [Int.add_zero]
theorem pick_dpick (b : Bool) (floor : Int) (hf : 0 ≤ floor ∧ floor ≤ 6000000000) : ∀ xs : List Int, (∀ x ∈ xs, -4611686018427387904 ≤ x ∧ x ≤ 4611686018427387904) →
    Rp.pick b floor xs = ((dpick (gh b floor) (gv b) xs).1, if (dpick (gh b floor) (gv b) xs).2 = true then 0 else 7)
  | [], _ => rfl
  | x :: t, h => by
    have e := gv_eq b x (h x (List.mem_cons_self ..))
    have eh : Rp.hit b floor x = gh b floor x := by
      unfold Rp.hit gh
      rw [e, cw64 (floor + 619315200) (by omega)]
    unfold Rp.pick dpick
    rw [eh, e]
    by_cases c : gh b floor x = true
    · rw [if_pos c, if_pos c]; rfl
    · rw [if_neg c, if_neg c]
      exact pick_dpick b floor hf t (fun y hy => h y (List.mem_cons_of_mem _ hy))

/-! ### The three seconds near a floor -/
theorem first_eq {floor sec : Int} (hf : 0 ≤ floor ∧ floor ≤ 6000000000) (hs : -1099511627776 ≤ sec ∧ sec ≤ 1099511627776) :
    Rp.first floor sec = floor + 2524953500 + (sec - (floor + 2524953500)) % 619315200 := by
  unfold Rp.first
  rw [cw64 (floor + 2524953600) (by omega), cw64 (floor + 2524953600 - 100) (by omega), cw64 (sec - (floor + 2524953600 - 100)) (by omega)]
  have hm := Wk.mod_eq (sec - (floor + 2524953600 - 100)) 619315200 (by decide)
  have h1 : -619315200 < Int.tmod (sec - (floor + 2524953600 - 100)) 619315200 := by have := Int.lt_tmod_of_pos (sec - (floor + 2524953600 - 100)) (show (0 : Int) < 619315200 by decide); omega
  have h2 : Int.tmod (sec - (floor + 2524953600 - 100)) 619315200 < 619315200 := Int.tmod_lt_of_pos _ (by decide)
  rw [cw64 (Int.tmod (sec - (floor + 2524953600 - 100)) 619315200 + 619315200) (by omega), hm, show floor + 2524953600 - 100 = floor + 2524953500 by omega, cw64 _ (by omega)]
theorem three_eq {floor sec : Int} (hf : 0 ≤ floor ∧ floor ≤ 6000000000) (hs : -1099511627776 ≤ sec ∧ sec ≤ 1099511627776) :
    Rp.three floor sec = [Rp.first floor sec, Rp.first floor sec + 619315200, Rp.first floor sec + 2 * 619315200] := by
  have e := first_eq hf hs
  unfold Rp.three Rp.at3
  rw [e, cw64 (0 * 619315200) (by omega), cw64 (1 * 619315200) (by omega), cw64 (2 * 619315200) (by omega), cw64 _ (by omega), cw64 _ (by omega), cw64 _ (by omega)]
  simp
theorem three_mem {floor sec x : Int} (hf : 0 ≤ floor ∧ floor ≤ 6000000000) (hs : -1099511627776 ≤ sec ∧ sec ≤ 1099511627776) :
    x ∈ Rp.three floor sec ↔ (x - sec) % 619315200 = 0 ∧ floor + 2524953500 ≤ x ∧ x < floor + 2524953500 + 3 * 619315200 := by
  rw [three_eq hf hs]
  have e := first_eq hf hs
  rw [e]
  simp only [List.mem_cons, List.not_mem_nil, or_false]
  omega
theorem three_bd {floor sec : Int} (hf : 0 ≤ floor ∧ floor ≤ 6000000000) (hs : -1099511627776 ≤ sec ∧ sec ≤ 1099511627776) : ∀ x ∈ Rp.three floor sec, -4611686018427387904 ≤ x ∧ x ≤ 4611686018427387904 := by
  intro x hx
  have := (three_mem hf hs).mp hx
  omega
theorem three_hit {b : Bool} {floor sec x : Int} (hf : 0 ≤ floor ∧ floor ≤ 6000000000) (hs : -1099511627776 ≤ sec ∧ sec ≤ 1099511627776) (h : gh b floor x = true) (hc : (x - sec) % 619315200 = 0) : x ∈ Rp.three floor sec := by
  obtain ⟨i, a1, a2, a3, a4, a5, a6, a7⟩ := gh_at h
  exact (three_mem hf hs).mpr ⟨hc, by omega, by omega⟩

/-! ### The years -/
theorem yl_mem (m d h mi s : Int) : ∀ (n : Nat) (y x : Int), x ∈ Rp.yl m d h mi s n y → ∃ j : Nat, y + 100 * (j : Int) < 2200 ∧ (csecR (y + 100 * (j : Int)) m d h mi s) = (x, 0)
  | 0, y, x, hx => absurd hx (List.not_mem_nil)
  | n + 1, y, x, hx => by
    have next : x ∈ Rp.yl m d h mi s n (y + 100) → ∃ j : Nat, y + 100 * (j : Int) < 2200 ∧ (csecR (y + 100 * (j : Int)) m d h mi s) = (x, 0) := by
      intro h
      obtain ⟨j, h1, h2⟩ := yl_mem m d _ mi s n (y + 100) x h
      have e : y + 100 + 100 * (j : Int) = y + 100 * ((j + 1 : Nat) : Int) := by omega
      rw [e] at h1 h2
      exact ⟨j + 1, h1, h2⟩
    unfold Rp.yl at hx
    by_cases c : y < 2200
    · rw [if_pos c] at hx
      by_cases c2 : (csecR y m d h mi s).2 = 0
      · rw [if_pos c2] at hx
        rcases List.mem_cons.mp hx with rfl | hx
        · refine ⟨0, by omega, ?_⟩
          rw [show y + 100 * ((0 : Nat) : Int) = y by omega]
          exact Prod.ext rfl c2
        · exact next hx
      · rw [if_neg c2] at hx
        exact next hx
    · rw [if_neg c] at hx
      exact absurd hx (List.not_mem_nil)
theorem yl_has (m d h mi s : Int) : ∀ (n : Nat) (y x : Int) (j : Nat), j < n → y + 100 * (j : Int) < 2200 → csecR (y + 100 * (j : Int)) m d h mi s = (x, 0) → x ∈ Rp.yl m d h mi s n y
  | 0, y, x, j, hj, _, _ => absurd hj (Nat.not_lt_zero _)
  | n + 1, y, x, j, hj, h1, h2 => by
    unfold Rp.yl
    rw [if_pos (show y < 2200 by omega)]
    cases j with
    | zero =>
      rw [show y + 100 * ((0 : Nat) : Int) = y by omega] at h2
      rw [h2, if_pos rfl]
      exact List.mem_cons_self ..
    | succ j =>
      have e : y + 100 * ((j + 1 : Nat) : Int) = y + 100 + 100 * (j : Int) := by omega
      rw [e] at h1 h2
      have := yl_has m d h mi s n (y + 100) x j (by omega) h1 h2
      by_cases c2 : (csecR y m d h mi s).2 = 0
      · rw [if_pos c2]; exact List.mem_cons_of_mem _ this
      · rw [if_neg c2]; exact this
theorem csec_bd {y m d h mi s x : Int} (h1 : csecR y m d h mi s = (x, 0)) : validM y m d h mi s ∧ x = dnum y m d * 86400 + h * 3600 + mi * 60 + s ∧ 0 ≤ x ∧ x ≤ 9600000000 := by
  unfold csecR at h1
  by_cases c : validM y m d h mi s
  · rw [if_pos c] at h1
    have e := (Prod.mk.inj h1).1
    have hb := dnum_bd c.1
    obtain ⟨c1, c2, c3, c4⟩ := c
    exact ⟨⟨c1, c2, c3, c4⟩, e.symm, by omega, by omega⟩
  · rw [if_neg c] at h1
    exact absurd (Prod.mk.inj h1).2 (by decide)
theorem ev_one {α : Type} {g : Nat → Option α} {r q : α} (h : Ev g r) (h' : Ev g q) : r = q := by
  obtain ⟨K, hK⟩ := h
  obtain ⟨M, hM⟩ := h'
  exact Option.some.inj ((hK (K + M) (by omega)).symm.trans (hM (K + M) (by omega)))

/-- The seconds of the years that share the last two digits with a second that is a moment: itself is one, they lie where seconds may be. -/
theorem years_bd (sec : Int) : ∀ x ∈ Rp.years (Rp.of sec), 0 ≤ x ∧ x ≤ 9600000000 := by
  intro x hx
  unfold Rp.years at hx
  split at hx
  · obtain ⟨j, h1, h2⟩ := yl_mem _ _ _ _ _ _ _ _ hx
    have := csec_bd h2
    exact ⟨this.2.2.1, this.2.2.2⟩
  · exact absurd hx (List.not_mem_nil)
theorem of_no' {sec : Int} (h : sec < 0 ∨ 9467107200 ≤ sec) : Rp.of sec = (0, 0, 0, 0, 0, 0, 9) := ev_one (Rp.of_ev sec).1 (of_no sec h)
theorem gps_means (b : Bool) (cyc sec floor : Int) (hf : 0 ≤ floor ∧ floor ≤ 6000000000) (hs : -1099511627776 ≤ sec ∧ sec ≤ 1099511627776) (hc : cyc = 0 ∨ cyc = 1024 ∨ cyc = 100) : Rp.gps true sec b cyc floor = Rp.means b cyc sec floor := by
  unfold Rp.gps
  rw [if_neg (by omega), if_neg (by omega), if_neg (by simp), if_neg (by omega), if_neg (by simp)]
theorem known18 : Rp.gps false 5 false 1024 10 = (619315205, 0) ∧ Rp.gps true 3692217599 true 0 1167000000 = (1167264017, 0) ∧ Rp.gps false 5 false 100 10 = (0, 2) ∧ Rp.gps true 3692217600 true 0 1167000000 = (0, 7) := by
  refine ⟨?_, ?_, ?_, ?_⟩
  · unfold Rp.gps
    rw [if_neg (by omega), if_neg (by omega), if_neg (by simp), if_neg (by omega), if_pos rfl]
    decide +kernel
  · rw [gps_means _ _ _ _ (by omega) (by omega) (by omega)]
    unfold Rp.means
    rw [if_neg (by decide)]
    decide +kernel
  · unfold Rp.gps
    rw [if_neg (by omega), if_neg (by omega), if_pos ⟨rfl, .inl rfl⟩]
  · rw [gps_means _ _ _ _ (by omega) (by omega) (by omega)]
    unfold Rp.means
    rw [if_neg (by decide)]
    decide +kernel
end Go.Proofs.Ytjabbppmkepgdaa.Pure
