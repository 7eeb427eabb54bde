/- The plain law of RepairMeans. -/
import Derived.Test.YtjabbppmkepgdaaQRepairMeansx3
import Derived.Test.YtjabbppmkepgdaaPureRepair
namespace Go.Proofs.Ytjabbppmkepgdaa.Pure
set_option linter.unusedVariables false
open Go.RowKit Go.Proofs.Ytjabbppmkepgdaa Go.Proofs.Ytjabbppmkepgdaa.QL Go.Proofs.Ytjabbppmkepgdaa.QC Go.Proofs.Ytjabbppmkepgdaa.QRepairMeans Go.Proofs.YtjabbppmkepgdaaW.PrintWords Go.Proofs.YtjabbppmkepgdaaW.PrintLast

theorem rmk : QRepairMeans.remontoirelaw18_known.f = some true := by
  unfold QRepairMeans.remontoirelaw18_known.f repair_GPS.f
  rw [known18.1, known18.2.1, known18.2.2.1, known18.2.2.2]
  rfl

theorem in05 (g : Int) : remontoireref05_In.f g = some (decide (0 ≤ g ∧ g ≤ 6000000000)) := by
  unfold remontoireref05_In.f
  by_cases h : g ≥ 0
  · rw [if_pos h]
    by_cases h2 : g ≤ 6000000000
    · rw [decide_eq_true h2, decide_eq_true (show 0 ≤ g ∧ g ≤ 6000000000 by omega)]
    · rw [decide_eq_false h2, decide_eq_false (show ¬ (0 ≤ g ∧ g ≤ 6000000000) by omega)]
  · rw [if_neg h, decide_eq_false (show ¬ (0 ≤ g ∧ g ≤ 6000000000) by omega)]

/-! ### May -/
def mayR (utc : Bool) (sec : Int) (leap : Bool) (cyc floor : Int) : Int :=
  if floor < 0 ∨ 6000000000 < floor then 2
  else if cyc ≠ 0 ∧ cyc ≠ 100 ∧ cyc ≠ 1024 then 2
  else if utc = false ∧ (cyc = 100 ∨ leap = true) then 2
  else if sec < -1099511627776 ∨ 1099511627776 < sec then 9
  else 0
theorem may_j1t (kind : Int) (utc : Bool) (sec : Int) (leap : Bool) (cyc : Int) (nxt : Bool) : Ev (fun k => remontoireref18_May.j1 k true kind utc sec leap cyc nxt) 2 :=
  Ev.step (f := fun _ => some 2) (fun k => by rw [remontoireref18_May.j1, if_pos rfl]) (Ev.now _)
theorem may_j1f (kind : Int) (utc : Bool) (sec : Int) (leap : Bool) (cyc : Int) (nxt : Bool) : Ev (fun k => remontoireref18_May.j1 k false kind utc sec leap cyc nxt) (if sec < -1099511627776 ∨ 1099511627776 < sec then 9 else 0) := by
  refine Ev.step (f := fun _ => some (if sec < -1099511627776 ∨ 1099511627776 < sec then 9 else 0)) (fun k => ?_) (Ev.now _)
  rw [remontoireref18_May.j1, if_neg (by decide)]
  by_cases h : sec < -1099511627776
  · rw [if_pos h, if_pos (.inl h)]
  · rw [if_neg h]
    by_cases h2 : sec > 1099511627776
    · rw [if_pos h2, if_pos (.inr h2)]
    · rw [if_neg h2, if_neg (by omega)]
theorem may_j0 (cy : Bool) (kind : Int) (utc : Bool) (sec : Int) (leap : Bool) (cyc : Int) (nxt : Bool) (floor : Int) :
    Ev (fun k => remontoireref18_May.j0 k floor cy kind utc sec leap cyc nxt) (if (floor < 0 ∨ 6000000000 < floor) ∨ cy = false ∨ (leap = true ∧ utc = false) then 2 else if sec < -1099511627776 ∨ 1099511627776 < sec then 9 else 0) := by
  refine Ev.step (f := fun k => if decide (0 ≤ floor ∧ floor ≤ 6000000000) = true then (if cy = true then (if leap = true then (remontoireref18_May.j1 k (!utc) kind utc sec leap cyc nxt) else (remontoireref18_May.j1 k false kind utc sec leap cyc nxt)) else (remontoireref18_May.j1 k true kind utc sec leap cyc nxt)) else (remontoireref18_May.j1 k true kind utc sec leap cyc nxt)) (fun k => ?_) ?_
  · rw [remontoireref18_May.j0, in05]
    rfl
  by_cases h1 : 0 ≤ floor ∧ floor ≤ 6000000000
  · refine ev_pos (decide_eq_true h1) ?_
    cases cy with
    | true =>
      refine ev_pos rfl ?_
      cases leap with
      | true =>
        refine ev_pos rfl ?_
        cases utc with
        | true => rw [if_neg (by simp; omega)]; exact may_j1f _ _ _ _ _ _
        | false => rw [if_pos (.inr (.inr ⟨rfl, rfl⟩))]; exact may_j1t _ _ _ _ _ _
      | false => refine ev_neg (by decide) ?_; rw [if_neg (by simp; omega)]; exact may_j1f _ _ _ _ _ _
    | false => refine ev_neg (by decide) ?_; rw [if_pos (.inr (.inl rfl))]; exact may_j1t _ _ _ _ _ _
  · refine ev_neg (fun h => h1 (of_decide_eq_true h)) ?_
    rw [if_pos (.inl (by omega))]
    exact may_j1t _ _ _ _ _ _
theorem may_tells (kind : Int) (utc : Bool) (sec : Int) (leap : Bool) (cyc : Int) (nxt : Bool) (floor : Int) : Ev (fun k => remontoireref18_May.f k kind utc sec leap cyc nxt floor) (mayR utc sec leap cyc floor) := by
  unfold remontoireref18_May.f mayR
  by_cases hf : floor < 0 ∨ 6000000000 < floor
  · rw [if_pos hf]
    have key : ∀ cy, Ev (fun k => remontoireref18_May.j0 k floor cy kind utc sec leap cyc nxt) 2 := by
      intro cy
      have := may_j0 cy kind utc sec leap cyc nxt floor
      rw [if_pos (.inl hf)] at this
      exact this
    by_cases c1 : cyc = 0
    · exact ev_pos c1 (key _)
    refine ev_neg c1 ?_
    by_cases c2 : cyc = 1024
    · exact ev_pos c2 (key _)
    refine ev_neg c2 ?_
    by_cases c3 : cyc = 100
    · exact ev_pos c3 (key _)
    exact ev_neg c3 (key _)
  · rw [if_neg hf]
    have key : ∀ cy, Ev (fun k => remontoireref18_May.j0 k floor cy kind utc sec leap cyc nxt) (if cy = false ∨ (leap = true ∧ utc = false) then 2 else if sec < -1099511627776 ∨ 1099511627776 < sec then 9 else 0) := by
      intro cy
      have := may_j0 cy kind utc sec leap cyc nxt floor
      by_cases c : cy = false ∨ (leap = true ∧ utc = false)
      · rw [if_pos (.inr c)] at this; rw [if_pos c]; exact this
      · rw [if_neg (fun h => by rcases h with h | h; exact hf h; exact c h)] at this; rw [if_neg c]; exact this
    have k0 := key true
    by_cases c1 : cyc = 0
    · refine ev_pos c1 ?_
      rw [if_neg (by omega)]
      cases leap <;> cases utc <;> simp [c1] at k0 ⊢ <;> exact k0
    refine ev_neg c1 ?_
    by_cases c2 : cyc = 1024
    · refine ev_pos c2 ?_
      rw [if_neg (by omega)]
      cases leap <;> cases utc <;> simp [c2] at k0 ⊢ <;> exact k0
    refine ev_neg c2 ?_
    by_cases c3 : cyc = 100
    · refine ev_pos c3 ?_
      rw [if_neg (by omega)]
      have k1 := key utc
      cases leap <;> cases utc <;> simp [c3] at k1 ⊢ <;> exact k1
    refine ev_neg c3 ?_
    rw [if_pos ⟨c1, c3, c2⟩]
    have k1 := key false
    rw [if_pos (.inl rfl)] at k1
    exact k1

/-! ### seconds -/
def lows : Nat → Int → List Int
  | 0, _ => []
  | n + 1, x => if x < 10000000000 then x :: lows n (x + 619315200) else []
theorem lows_mem : ∀ (n : Nat) (x y : Int), 0 ≤ x → 10000000000 ≤ x + 619315200 * (n : Int) → (y ∈ lows n x ↔ (y - x) % 619315200 = 0 ∧ x ≤ y ∧ y < 10000000000)
  | 0, x, y, h0, h => by
    constructor
    · intro h; exact absurd h (List.not_mem_nil)
    · rintro ⟨_, _, _⟩; exfalso; omega
  | n + 1, x, y, h0, h => by
    unfold lows
    by_cases c : x < 10000000000
    · rw [if_pos c, List.mem_cons, lows_mem n (x + 619315200) y (by omega) (by push_cast at h; omega)]
      constructor
      · rintro (rfl | ⟨a, b, c⟩)
        · exact ⟨by omega, by omega, by omega⟩
        · exact ⟨by omega, by omega, by omega⟩
      · rintro ⟨a, b, c⟩
        by_cases e : y = x
        · exact .inl e
        · exact .inr ⟨by omega, by omega, by omega⟩
    · rw [if_neg c]
      constructor
      · intro h; exact absurd h (List.not_mem_nil)
      · rintro ⟨_, _, _⟩; exfalso; omega
theorem secs_l1 : ∀ (n : Nat) (x : Int) (pre : List Int), 0 ≤ x → x ≤ 20000000000 → 10000000000 ≤ x + 619315200 * (n : Int) → pre.length + n ≤ 100 → Ev (fun k => remontoireref18_seconds.l1 k pre x) (pre ++ lows n x)
  | 0, x, pre, h0, h2, h, hl => by
    refine Ev.step (f := fun _ => some pre) (fun k => ?_) (by rw [lows, List.append_nil]; exact Ev.now _)
    rw [remontoireref18_seconds.l1, if_neg (by omega)]
  | n + 1, x, pre, h0, h2, h, hl => by
    unfold lows
    by_cases c : x < 10000000000
    · rw [if_pos c]
      have := secs_l1 n (x + 619315200) (pre ++ [x]) (by omega) (by omega) (by push_cast at h; omega) (by rw [List.length_append, List.length_singleton]; omega)
      rw [List.append_assoc, List.singleton_append] at this
      refine Ev.step (f := fun k => remontoireref18_seconds.l1 k (pre ++ [x]) (x + 619315200)) (fun k => ?_) this
      rw [remontoireref18_seconds.l1, if_pos c, if_pos (by omega), cw64 _ (by omega)]
    · rw [if_neg c, List.append_nil]
      refine Ev.step (f := fun _ => some pre) (fun k => ?_) (Ev.now _)
      rw [remontoireref18_seconds.l1, if_neg c]

/-- The years' seconds, year by year. -/
theorem secs_l0 (Y m d h mi s : Int) (hY : 0 ≤ Y) (j : Nat) : ∀ (y : Int) (n : Nat) (pre : List Int), 0 ≤ y → 2200 - y = (j : Int) → 2200 ≤ y + (Y - y) % 100 + 100 * (n : Int) → pre.length + j ≤ 1000 →
    Ev (fun k => remontoireref18_seconds.l0 k pre true y Y m d h mi s) (pre ++ Rp.yl m d h mi s n (y + (Y - y) % 100)) := by
  induction j with
  | zero =>
    intro y n pre h0 h1 h2 hl
    rw [Rp.yl_end m d h mi s n (y + (Y - y) % 100) (by omega), List.append_nil]
    refine Ev.step (f := fun k => remontoireref18_seconds.j1 k pre true y false Y m d h mi s) (fun k => by rw [remontoireref18_seconds.l0, if_neg (by omega)]) ?_
    refine Ev.step (f := fun _ => some pre) (fun k => by rw [remontoireref18_seconds.j1, if_neg (by decide)]) (Ev.now _)
  | succ j ih =>
    intro y n pre h0 h1 h2 hl
    refine Ev.step (f := fun k => remontoireref18_seconds.j1 k pre true y true Y m d h mi s) (fun k => by rw [remontoireref18_seconds.l0, if_pos (by omega)]) ?_
    by_cases c : y % 100 = Y % 100
    · have e0 : (Y - y) % 100 = 0 := by omega
      have e1 : y + 1 + (Y - (y + 1)) % 100 = y + 100 := by omega
      refine Ev.step (f := fun k => (remontoireref03_Second.f k y m d h mi s).bind fun bt120 => (if bt120.2 = true then (if pre.length < 17592186044416 then (remontoireref18_seconds.l0 k (pre ++ [bt120.1]) true (y + 1) Y m d h mi s) else (none)) else (remontoireref18_seconds.l0 k pre true (y + 1) Y m d h mi s))) (fun k => ?_) (Ev.bind (rsec_tells y m d h mi s) ?_)
      · rw [remontoireref18_seconds.j1, if_pos rfl, Int.tmod_eq_emod_of_nonneg h0, Int.tmod_eq_emod_of_nonneg hY, if_pos c, cw64 (y + 1) (by omega)]
      · obtain ⟨n, rfl⟩ : ∃ q, n = q + 1 := ⟨n - 1, by omega⟩
        rw [e0, Int.add_zero]
        by_cases v : validM y m d h mi s
        · have q1 : rsecR y m d h mi s = (dnum y m d * 86400 + h * 3600 + mi * 60 + s, true) := if_pos v
          have q2 : csecR y m d h mi s = (dnum y m d * 86400 + h * 3600 + mi * 60 + s, 0) := if_pos v
          rw [q1]
          refine ev_pos rfl (ev_pos (by omega) ?_)
          dsimp only
          have := ih (y + 1) n (pre ++ [dnum y m d * 86400 + h * 3600 + mi * 60 + s]) (by omega) (by omega) (by push_cast at h2; omega) (by rw [List.length_append, List.length_singleton]; omega)
          rw [e1, List.append_assoc, List.singleton_append] at this
          rw [Rp.yl_yes m d h mi s n y (by omega) _ q2]
          exact this
        · have q1 : rsecR y m d h mi s = (0, false) := if_neg v
          have q2 : csecR y m d h mi s = (0, 2) := if_neg v
          rw [q1]
          refine ev_neg (by decide) ?_
          have := ih (y + 1) n pre (by omega) (by omega) (by push_cast at h2; omega) (by omega)
          rw [e1] at this
          rw [Rp.yl_no m d h mi s n y (by omega) _ _ q2 (by decide)]
          exact this
    · refine Ev.step (f := fun k => remontoireref18_seconds.l0 k pre true (y + 1) Y m d h mi s) (fun k => ?_) ?_
      · rw [remontoireref18_seconds.j1, if_pos rfl, Int.tmod_eq_emod_of_nonneg h0, Int.tmod_eq_emod_of_nonneg hY, if_neg c, cw64 (y + 1) (by omega)]
      · have e1 : y + 1 + (Y - (y + 1)) % 100 = y + (Y - y) % 100 := by omega
        have := ih (y + 1) n pre (by omega) (by omega) (by omega) (by omega)
        rw [e1] at this
        exact this

/-- The seconds that a message may mean. -/
noncomputable def secs (cyc sec : Int) : List Int := if cyc = 100 then Rp.years (Rp.of sec) else lows 17 (sec % 619315200)
theorem secs_tells (kind : Int) (utc : Bool) (sec : Int) (leap : Bool) (cyc : Int) (nxt : Bool) (hs : -1099511627776 ≤ sec ∧ sec ≤ 1099511627776) : Ev (fun k => remontoireref18_seconds.f k kind utc sec leap cyc nxt) (secs cyc sec) := by
  unfold remontoireref18_seconds.f secs
  by_cases c : cyc = 100
  · rw [if_pos c]
    refine ev_pos c ?_
    obtain ⟨a, b, ha, hb, hab⟩ := of_both sec (by omega)
    have e := ev_one (Rp.of_ev sec).1 ha
    have h0 := (Rp.of_ev sec).2
    refine Ev.bind hb ?_
    rcases hab with ⟨Y, M, D, h, mi, s, rfl, rfl⟩ | ⟨rfl, rfl⟩
    · rw [e] at h0 ⊢
      unfold Rp.years
      dsimp only at h0 ⊢
      rw [if_pos rfl, Int.tmod_eq_emod_of_nonneg h0]
      have := secs_l0 Y M D h mi s h0 300 1900 4 [] (by omega) (by omega) (by omega) (by rw [List.length_nil]; omega)
      rw [List.nil_append, show 1900 + (Y - 1900) % 100 = 1900 + Y % 100 by omega] at this
      exact this
    · rw [e]
      have : Rp.years (0, 0, 0, 0, 0, 0, 9) = [] := if_neg (by decide)
      rw [this]
      refine Ev.step (f := fun k => remontoireref18_seconds.j1 k [] false 1900 false 0 0 0 0 0 0) (fun k => by rw [remontoireref18_seconds.l0, if_pos (by omega)]) ?_
      refine Ev.step (f := fun _ => some []) (fun k => by rw [remontoireref18_seconds.j1, if_neg (by decide)]) (Ev.now _)
  · rw [if_neg c]
    refine ev_neg c ?_
    have h1 : -619315200 < Int.tmod sec 619315200 := by have := Int.lt_tmod_of_pos sec (show (0 : Int) < 619315200 by decide); omega
    have h2 : Int.tmod sec 619315200 < 619315200 := Int.tmod_lt_of_pos _ (by decide)
    have h3 := Int.mul_tdiv_add_tmod sec 619315200
    have key := secs_l1 17 (sec % 619315200) [] (by omega) (by omega) (by omega) (by rw [List.length_nil]; omega)
    rw [List.nil_append] at key
    have key2 : Ev (fun k => remontoireref18_seconds.j2 k [] (sec % 619315200)) (lows 17 (sec % 619315200)) :=
      Ev.step (f := fun k => remontoireref18_seconds.l1 k [] (sec % 619315200)) (fun k => by rw [remontoireref18_seconds.j2]) key
    by_cases c2 : Int.tmod sec 619315200 < 0
    · refine ev_pos c2 ?_
      rw [cw64 _ (by omega), show Int.tmod sec 619315200 + 619315200 = sec % 619315200 by omega]
      exact key2
    · refine ev_neg c2 ?_
      rw [show Int.tmod sec 619315200 = sec % 619315200 by omega]
      exact key2

/-! ### GPS -/
theorem drop_rd (l : List Int) (i : Nat) (h : i < l.length) : l.drop i = rd l (i : Int) :: l.drop (i + 1) := by
  rw [List.drop_eq_getElem_cons h]
  unfold rd
  rw [Int.toNat_natCast, List.getD_eq_getElem?_getD, List.getElem?_eq_getElem h]
  rfl
def ht (utc leap : Bool) (floor x : Int) : Bool := if utc = true then gh leap floor x else decide (0 ≤ x ∧ x ≤ 6000000000) && (decide (floor ≤ x) && decide (x < floor + 619315200))
def gg (utc leap : Bool) (x : Int) : Int := if utc = true then gv leap x else x
theorem pick3 {g : Nat → Option (Int × Bool)} {floor u v : Int} {R : Int × Bool} (hf : 0 ≤ floor ∧ floor ≤ 6000000000) (hy : (v = 0 ∧ floor ≤ u ∧ u < floor + 619315200) → R = (u, true)) (hn : ¬ (v = 0 ∧ floor ≤ u ∧ u < floor + 619315200) → Ev g R) :
    Ev (fun k => if v = 0 then (if u ≥ floor then (if u < (wrap64 (floor + 619315200)) then (some (u, true)) else g k) else g k) else g k) R := by
  rw [cw64 (floor + 619315200) (by omega)]
  by_cases c1 : v = 0
  · refine ev_pos c1 ?_
    by_cases c2 : u ≥ floor
    · refine ev_pos c2 ?_
      by_cases c3 : u < floor + 619315200
      · refine ev_pos c3 ?_
        rw [hy ⟨c1, c2, c3⟩]
        exact Ev.now _
      · exact ev_neg c3 (hn (fun h => c3 h.2.2))
    · exact ev_neg c2 (hn (fun h => c2 h.2.1))
  · exact ev_neg c1 (hn (fun h => c1 h.1))
theorem gps_l0 (kind : Int) (utc : Bool) (sec : Int) (leap : Bool) (cyc : Int) (nxt : Bool) (floor : Int) (hf : 0 ≤ floor ∧ floor ≤ 6000000000) (l : List Int) (hl : l.length ≤ 1000000) (hb : ∀ x ∈ l, -4611686018427387904 ≤ x ∧ x ≤ 4611686018427387904) (j : Nat) :
    ∀ i : Nat, i + j = l.length → Ev (fun k => remontoireref18_GPS.l0 k floor l (i : Int) kind utc sec leap cyc nxt) (dpick (ht utc leap floor) (gg utc leap) (l.drop i)) := by
  induction j with
  | zero =>
    intro i h
    rw [List.drop_of_length_le (by omega)]
    refine Ev.step (f := fun _ => some (0, false)) (fun k => ?_) (Ev.now _)
    rw [remontoireref18_GPS.l0, if_neg (by omega)]
  | succ j ih =>
    intro i h
    have hI := ih (i + 1) (by omega)
    have hi : i < l.length := by omega
    have hx := hb (rd l (i : Int)) (by
      have : rd l (i : Int) ∈ l.drop i := by rw [drop_rd l i hi]; exact List.mem_cons_self ..
      exact List.mem_of_mem_drop this)
    rw [drop_rd l i hi]
    rw [show ((i + 1 : Nat) : Int) = (i : Int) + 1 by omega] at hI
    have e0 : ∀ k, remontoireref18_GPS.l0 (k + 1) floor l (i : Int) kind utc sec leap cyc nxt = _ := fun k => by rw [remontoireref18_GPS.l0, if_pos (show (i : Int) < (l.length : Int) by omega), if_pos (show 0 ≤ (i : Int) by omega), cw64 ((i : Int) + 1) (by omega), in05, Option.bind_some]
    generalize rd l (i : Int) = x at hx e0 ⊢
    refine Ev.step e0 ?_
    unfold dpick
    cases utc with
    | true =>
      have hh : ht true leap floor x = gh leap floor x := rfl
      have hg : gg true leap x = gv leap x := rfl
      rw [hh, hg]
      have key : Ev (fun k => (remontoireref04_GPS.f k (x + bi leap) leap).bind fun bt => (if bt.2 = 0 then (if bt.1 ≥ floor then (if bt.1 < (wrap64 (floor + 619315200)) then (some (bt.1, true)) else (remontoireref18_GPS.l0 k floor l ((i : Int) + 1) kind true sec leap cyc nxt)) else (remontoireref18_GPS.l0 k floor l ((i : Int) + 1) kind true sec leap cyc nxt)) else (remontoireref18_GPS.l0 k floor l ((i : Int) + 1) kind true sec leap cyc nxt)))
          (if gh leap floor x = true then (gv leap x, true) else dpick (ht true leap floor) (gg true leap) (l.drop (i + 1))) := by
        obtain ⟨r, h1, h2⟩ := gps_both (x + bi leap) leap
        have h3 : Lp.gps (x + bi leap) leap = r := Option.some.inj h1
        refine Ev.bind h2 (pick3 hf (fun h => ?_) (fun h => ?_))
        · rw [if_pos (gh_iff.mpr ⟨by rw [h3]; exact h.1, by unfold gv; rw [h3]; exact h.2.1, by unfold gv; rw [h3]; exact h.2.2⟩)]
          unfold gv; rw [h3]
        · rw [if_neg (fun hc => h (by obtain ⟨a1, a2, a3⟩ := gh_iff.mp hc; unfold gv at a2 a3; rw [h3] at a1 a2 a3; exact ⟨a1, a2, a3⟩))]
          exact hI
      cases leap with
      | true =>
        have hb1 : x + bi true = x + 1 := rfl
        rw [hb1] at key
        refine ev_pos rfl (ev_pos rfl ?_)
        rw [cw64 (x + 1) (by omega)]
        exact key
      | false =>
        have hb1 : x + bi false = x := by show x + 0 = x; omega
        rw [hb1] at key
        refine ev_pos rfl (ev_neg (by decide) ?_)
        exact key
    | false =>
      have hh : ht false leap floor x = (decide (0 ≤ x ∧ x ≤ 6000000000) && (decide (floor ≤ x) && decide (x < floor + 619315200))) := rfl
      have hg : gg false leap x = x := rfl
      rw [hh, hg]
      refine ev_neg (by decide) ?_
      by_cases c1 : 0 ≤ x ∧ x ≤ 6000000000
      · rw [decide_eq_true c1]
        refine ev_pos rfl ?_
        have := pick3 (g := fun k => remontoireref18_GPS.l0 k floor l ((i : Int) + 1) kind false sec leap cyc nxt) (u := x) (v := 0) (R := if (true && (decide (floor ≤ x) && decide (x < floor + 619315200))) = true then (x, true) else dpick (ht false leap floor) (gg false leap) (l.drop (i + 1))) hf
          (fun h => by rw [decide_eq_true h.2.1, decide_eq_true h.2.2]; rfl) (fun h => by
            rw [if_neg (fun hc => h (by simpa using hc))]
            exact hI)
        refine Ev.congr (fun k => ?_) this
        rw [if_pos rfl]
      · rw [decide_eq_false c1]
        refine ev_neg (by decide) ?_
        rw [Bool.false_and, if_neg (by decide)]
        exact hI

theorem rgps_tells (kind : Int) (utc : Bool) (sec : Int) (leap : Bool) (cyc : Int) (nxt : Bool) (floor : Int) (hf : 0 ≤ floor ∧ floor ≤ 6000000000) (hs : -1099511627776 ≤ sec ∧ sec ≤ 1099511627776) (hl : (secs cyc sec).length ≤ 1000000) (hb : ∀ x ∈ secs cyc sec, -4611686018427387904 ≤ x ∧ x ≤ 4611686018427387904) :
    Ev (fun k => remontoireref18_GPS.f k kind utc sec leap cyc nxt floor) (dpick (ht utc leap floor) (gg utc leap) (secs cyc sec)) := by
  refine Ev.bind (secs_tells kind utc sec leap cyc nxt hs) ?_
  have := gps_l0 kind utc sec leap cyc nxt floor hf (secs cyc sec) hl hb (secs cyc sec).length 0 (by omega)
  rw [List.drop_zero] at this
  exact this

theorem yl_len (m d h mi s : Int) : ∀ (n : Nat) (y : Int), (Rp.yl m d h mi s n y).length ≤ n
  | 0, y => Nat.le_refl _
  | n + 1, y => by
    have := yl_len m d h mi s n (y + 100)
    unfold Rp.yl
    split
    · split
      · rw [List.length_cons]; omega
      · omega
    · rw [List.length_nil]; omega
theorem lows_len : ∀ (n : Nat) (x : Int), (lows n x).length ≤ n
  | 0, x => Nat.le_refl _
  | n + 1, x => by
    have := lows_len n (x + 619315200)
    unfold lows
    split
    · rw [List.length_cons]; omega
    · rw [List.length_nil]; omega
theorem secs_len (cyc sec : Int) : (secs cyc sec).length ≤ 1000000 := by
  unfold secs
  split
  · unfold Rp.years
    split
    · exact Nat.le_trans (yl_len ..) (by decide)
    · rw [List.length_nil]; omega
  · exact Nat.le_trans (lows_len ..) (by decide)
theorem low_mem (sec x : Int) : x ∈ lows 17 (sec % 619315200) ↔ (x - sec) % 619315200 = 0 ∧ 0 ≤ x ∧ x < 10000000000 := by
  rw [lows_mem 17 (sec % 619315200) x (by omega) (by omega)]
  omega
theorem secs_bd (cyc sec : Int) : ∀ x ∈ secs cyc sec, -4611686018427387904 ≤ x ∧ x ≤ 4611686018427387904 := by
  intro x hx
  unfold secs at hx
  by_cases c : cyc = 100
  · rw [if_pos c] at hx
    have := years_bd sec x hx
    omega
  · rw [if_neg c] at hx
    have := (low_mem sec x).mp hx
    omega

/-- The two answers are one. -/
theorem same_means (utc : Bool) (sec : Int) (leap : Bool) (cyc floor : Int) (hm : mayR utc sec leap cyc floor = 0) :
    (0 ≤ floor ∧ floor ≤ 6000000000) ∧ (-1099511627776 ≤ sec ∧ sec ≤ 1099511627776) ∧
    Rp.gps utc sec leap cyc floor = ((dpick (ht utc leap floor) (gg utc leap) (secs cyc sec)).1, if (dpick (ht utc leap floor) (gg utc leap) (secs cyc sec)).2 = true then 0 else 7) := by
  unfold mayR at hm
  by_cases c1 : floor < 0 ∨ 6000000000 < floor
  · rw [if_pos c1] at hm; exact absurd hm (by decide)
  rw [if_neg c1] at hm
  by_cases c2 : cyc ≠ 0 ∧ cyc ≠ 100 ∧ cyc ≠ 1024
  · rw [if_pos c2] at hm; exact absurd hm (by decide)
  rw [if_neg c2] at hm
  by_cases c3 : utc = false ∧ (cyc = 100 ∨ leap = true)
  · rw [if_pos c3] at hm; exact absurd hm (by decide)
  rw [if_neg c3] at hm
  by_cases c4 : sec < -1099511627776 ∨ 1099511627776 < sec
  · rw [if_pos c4] at hm; exact absurd hm (by decide)
  have hf : 0 ≤ floor ∧ floor ≤ 6000000000 := by omega
  have hs : -1099511627776 ≤ sec ∧ sec ≤ 1099511627776 := by omega
  refine ⟨hf, hs, ?_⟩
  cases utc with
  | true =>
    rw [gps_means leap cyc sec floor hf hs (by omega)]
    have eh : ht true leap floor = gh leap floor := rfl
    have eg : gg true leap = gv leap := rfl
    rw [eh, eg]
    unfold Rp.means secs
    by_cases c : cyc = 100
    · rw [if_pos c, if_pos c, pick_dpick leap floor hf _ (fun x hx => by have := years_bd sec x hx; omega)]
    · rw [if_neg c, if_neg c, pick_dpick leap floor hf _ (three_bd hf hs)]
      have e : dpick (gh leap floor) (gv leap) (Rp.three floor sec) = dpick (gh leap floor) (gv leap) (lows 17 (sec % 619315200)) := by
        refine dpick_eq _ _ _ _ (fun x hx h => ?_) (fun y hy h => ?_) (fun x hx y hy h1 h2 => ?_)
        · obtain ⟨i, a1, a2, a3, a4, a5, a6, a7⟩ := gh_at h
          have h3 := (three_mem hf hs).mp hx
          have := bi_bd leap
          exact (low_mem sec x).mpr ⟨h3.1, by omega, by omega⟩
        · have := (low_mem sec y).mp hy
          exact three_hit hf hs h this.1
        · have a := (three_mem hf hs).mp hx
          have b := (three_mem hf hs).mp hy
          exact gh_one h1 h2 (by omega)
      rw [e]
  | false =>
    have c5 : cyc ≠ 100 := fun h => c3 ⟨rfl, .inl h⟩
    have c6 : leap = false := by cases leap; rfl; exact absurd ⟨rfl, .inr rfl⟩ c3
    unfold Rp.gps
    rw [if_neg c1, if_neg c2, if_neg c3, if_neg c4, if_pos rfl]
    unfold secs
    rw [if_neg c5]
    have hit : ∀ x, ht false leap floor x = true ↔ (0 ≤ x ∧ x ≤ 6000000000) ∧ floor ≤ x ∧ x < floor + 619315200 := by
      intro x
      have hh : ht false leap floor x = (decide (0 ≤ x ∧ x ≤ 6000000000) && (decide (floor ≤ x) && decide (x < floor + 619315200))) := rfl
      rw [hh]; simp
    have ggx : ∀ x, gg false leap x = x := fun _ => rfl
    obtain ⟨o, ho⟩ : ∃ o, o = floor + (sec - floor) % 619315200 := ⟨_, rfl⟩
    by_cases c7 : o ≤ 6000000000
    · have e : Wk.near sec 1024 floor = (o, 0) := by
        unfold Wk.near
        rw [if_neg (by omega), if_neg (by omega), show (1024 : Int) * 604800 = 619315200 by decide, ← ho, if_pos c7]
      have e2 := dpick_only (ht false leap floor) (gg false leap) (lows 17 (sec % 619315200)) o ((low_mem sec o).mpr (by omega)) ((hit o).mpr (by omega)) (fun y hy h => by
        have := (hit y).mp h
        have := (low_mem sec y).mp hy
        rw [ggx, ggx]; omega)
      rw [e, e2, if_pos rfl, if_pos rfl]
      rfl
    · have e : Wk.near sec 1024 floor = (0, 9) := by
        unfold Wk.near
        rw [if_neg (by omega), if_neg (by omega), show (1024 : Int) * 604800 = 619315200 by decide, ← ho, if_neg c7]
      rw [e, if_neg (by decide)]
      rcases dpick_spec (ht false leap floor) (gg false leap) (lows 17 (sec % 619315200)) with ⟨x, hx, h1, h2⟩ | ⟨h1, h2⟩
      · have := (hit x).mp h1
        have := (low_mem sec x).mp hx
        omega
      · rw [h2]; rfl

theorem may_gps (utc : Bool) (sec : Int) (leap : Bool) (cyc floor : Int) (hm : mayR utc sec leap cyc floor ≠ 0) : Rp.gps utc sec leap cyc floor = (0, mayR utc sec leap cyc floor) := by
  unfold mayR at hm ⊢
  unfold Rp.gps
  by_cases c1 : floor < 0 ∨ 6000000000 < floor
  · rw [if_pos c1, if_pos c1]
  rw [if_neg c1] at hm ⊢
  rw [if_neg c1]
  by_cases c2 : cyc ≠ 0 ∧ cyc ≠ 100 ∧ cyc ≠ 1024
  · rw [if_pos c2, if_pos c2]
  rw [if_neg c2] at hm ⊢
  rw [if_neg c2]
  by_cases c3 : utc = false ∧ (cyc = 100 ∨ leap = true)
  · rw [if_pos c3, if_pos c3]
  rw [if_neg c3] at hm ⊢
  rw [if_neg c3]
  by_cases c4 : sec < -1099511627776 ∨ 1099511627776 < sec
  · rw [if_pos c4, if_pos c4]
  · rw [if_neg c4] at hm
    exact absurd rfl hm

theorem repairMeans (kind : Int) (utc : Bool) (sec : Int) (leap : Bool) (cyc : Int) (nxt : Bool) (floor : Int) : Ev (fun k => remontoirelaw18_RepairMeans.f k kind utc sec leap cyc nxt floor) true := by
  unfold remontoirelaw18_RepairMeans.f repair_GPS.f
  refine Ev.bind (Ev.now _) ?_
  rw [rmk]
  refine Ev.bind (may_tells kind utc sec leap cyc nxt floor) ?_
  by_cases hm : mayR utc sec leap cyc floor = 0
  · refine ev_pos hm ?_
    obtain ⟨hf, hs, e⟩ := same_means utc sec leap cyc floor hm
    refine Ev.bind (rgps_tells kind utc sec leap cyc nxt floor hf hs (secs_len cyc sec) (secs_bd cyc sec)) ?_
    rw [e]
    generalize dpick (ht utc leap floor) (gg utc leap) (secs cyc sec) = r
    obtain ⟨g, ok⟩ := r
    dsimp only
    refine ev_pos rfl ?_
    cases ok with
    | true => exact ev_pos rfl (ev_pos rfl (Ev.now _))
    | false => exact ev_pos rfl (ev_neg (by decide) (ev_pos rfl (Ev.now _)))
  · refine ev_neg hm ?_
    rw [may_gps utc sec leap cyc floor hm]
    exact ev_pos rfl (ev_pos rfl (Ev.now _))

theorem repairMeans_walk (kind : Int) (utc : Bool) (sec : Int) (leap : Bool) (cyc : Int) (nxt : Bool) (floor : Int) (W : World) (w0 : (Lit.int .u8 kind).wf = true) (w1 : (Lit.int .i64 sec).wf = true) (w2 : (Lit.int .i64 cyc).wf = true) (w3 : (Lit.int .i64 floor).wf = true) :
    Calls Try.prog 12 #[.agg #[.int .u8 kind, .bool utc, .int .i64 sec, .bool leap, .int .i64 cyc, .bool nxt], .int .i64 floor] W fun e W' => e = .returned (.bool true) ∧ Below W.heap.size W W' := by
  obtain ⟨k, hk⟩ := Ev.rounds (repairMeans kind utc sec leap cyc nxt floor)
  exact remontoirelaw18_RepairMeans.callsT k kind utc sec leap cyc nxt floor W hk
end Go.Proofs.Ytjabbppmkepgdaa.Pure
