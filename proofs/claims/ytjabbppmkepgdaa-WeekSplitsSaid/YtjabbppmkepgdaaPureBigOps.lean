/- Plain laws of the document's big numbers, second part: sums, products and quotients of numbers of any size are those of whole numbers. -/
import Derived.Test.YtjabbppmkepgdaaPureBig
import Derived.Test.YtjabbppmkepgdaaQSx4
namespace Go.Proofs.Ytjabbppmkepgdaa.Big
set_option linter.unusedVariables false
open Go.RowKit Go.Proofs.Ytjabbppmkepgdaa Go.Proofs.Ytjabbppmkepgdaa.QB Go.Proofs.Ytjabbppmkepgdaa.QS Go.Proofs.YtjabbppmkepgdaaW.PrintWords Go.Proofs.YtjabbppmkepgdaaW.PrintLast Go.Proofs.YtjabbppmkepgdaaW.PrintMore

/-! ### made -/
theorem val_take : ∀ (l : List Int) (m : Nat), vd l m = 0 → W32 l → val (l.take m) = val l
  | [], m, _, _ => by rw [List.take_nil]
  | x :: t, 0, h, _ => by rw [List.take_zero]; exact h.symm
  | x :: t, m + 1, h, hw => by
    rw [List.take_succ_cons]
    unfold val
    rw [val_take t m h (fun y hy => hw y (List.mem_cons_of_mem _ hy))]
theorem rd_wd (l : List Int) (n : Nat) : rd l (n : Int) = wd l n := by unfold rd wd; rw [Int.toNat_natCast]
theorem top_vd (l : List Int) : ∀ n : Nat, vd l n = 0 → vd l (Bg.top l n) = 0
  | 0, h => h
  | n + 1, h => by
    unfold Bg.top
    by_cases c : rd l (n : Int) = 0
    · rw [if_pos c]
      refine top_vd l n ?_
      rw [vd_step, ← rd_wd, c, h]
      rfl
    · rw [if_neg c]; exact h
theorem top_nz (l : List Int) : ∀ n m : Nat, Bg.top l n = m + 1 → wd l m ≠ 0
  | 0, m, h => absurd h (by simp [Bg.top])
  | n + 1, m, h => by
    unfold Bg.top at h
    by_cases c : rd l (n : Int) = 0
    · rw [if_pos c] at h; exact top_nz l n m h
    · rw [if_neg c] at h
      obtain rfl : n = m := by omega
      rw [← rd_wd]
      exact c
theorem made_tells (s : Bool) {xs : List Int} (hw : W32 xs) : ∃ s' r, remontoireref01_made.f s xs = some (s', r) ∧ W32 r ∧ Norm r ∧ val r = val xs ∧ r.length ≤ xs.length ∧ (0 < val xs → s' = s) ∧ (val xs = 0 → s' = false) ∧ (s = false → s' = false) := by
  have hv := val_take xs (Bg.top xs xs.length) (top_vd xs xs.length (vd_end (Nat.le_refl _))) hw
  have hle := Bg.top_le xs xs.length
  unfold remontoireref01_made.f
  by_cases c : Bg.top xs xs.length = 0
  · rw [if_pos c]
    rw [c, List.take_zero] at hv
    have h0 : val xs = 0 := hv.symm
    exact ⟨false, [], rfl, w32_nil, .inl rfl, hv, by simp, fun h => by omega, fun _ => rfl, fun _ => rfl⟩
  · rw [if_neg c]
    obtain ⟨m, hm⟩ : ∃ m, Bg.top xs xs.length = m + 1 := ⟨Bg.top xs xs.length - 1, by omega⟩
    have hlen : (xs.take (Bg.top xs xs.length)).length = m + 1 := by rw [List.length_take]; omega
    have hw2 : W32 (xs.take (Bg.top xs xs.length)) := fun y hy => hw y (List.mem_of_mem_take hy)
    have hn : Norm (xs.take (Bg.top xs xs.length)) := by
      refine .inr ?_
      rw [hlen, show m + 1 - 1 = m by omega]
      have := top_nz xs xs.length m hm
      rw [wd_at (by omega)] at this ⊢
      rw [List.getElem_take]
      exact this
    have hp := (norm_pos hw2 hn).mp (by omega)
    exact ⟨s, _, rfl, hw2, hn, hv, by omega, fun _ => rfl, fun h => by omega, fun h => h⟩
/-- What made makes of a size is the number with the sign told. -/
theorem made_good (s : Bool) {xs : List Int} (hw : W32 xs) (hl : xs.length ≤ 900) : ∃ s' r, remontoireref01_made.f s xs = some (s', r) ∧ Good s' r (if s = true then - val xs else val xs) ∧ r.length ≤ xs.length ∧ val r = val xs ∧ (s = false → s' = false) := by
  obtain ⟨s', r, e, h1, h2, h3, h4, h5, h6, h7⟩ := made_tells s hw
  have hn := val_nn hw
  refine ⟨s', r, e, ⟨h1, h2, by omega, ?_, fun h => ?_⟩, h4, h3, h7⟩
  · rw [h3]
    by_cases c : 0 < val xs
    · rw [h5 c]
    · have c0 : val xs = 0 := by omega
      rw [h6 c0, c0]
      cases s <;> rfl
  · rw [h3]
    by_cases c : 0 < val xs
    · exact c
    · rw [h6 (by omega)] at h
      exact absurd h (by decide)

theorem of_good {n : Int} (hn : -9223372036854775808 ≤ n ∧ n ≤ 9223372036854775807) : ∃ s r, remontoireref01_Of.f n = some (s, r) ∧ Good s r n ∧ r.length ≤ 2 ∧ (0 ≤ n → s = false) := by
  have hw : W32 [Bg.lo n, Bg.hi n] := w32_cons (by unfold Bg.lo; omega) (w32_cons (by unfold Bg.hi; split <;> omega) w32_nil)
  have hv : val [Bg.lo n, Bg.hi n] = if n < 0 then -n else n := by
    show Bg.lo n + 4294967296 * (Bg.hi n + 4294967296 * 0) = _
    unfold Bg.lo Bg.hi
    split <;> omega
  obtain ⟨s, r, e, h1, h2, h3, h4⟩ := made_good (decide (n < 0)) hw (by simp)
  refine ⟨s, r, ?_, ?_, h2, fun h => h4 (decide_eq_false (by omega))⟩
  · unfold remontoireref01_Of.f
    rw [if_pos hn]
    exact e
  · rw [hv] at h1
    by_cases c : n < 0
    · rw [if_pos (decide_eq_true c), if_pos c] at h1
      rw [show n = - -n by omega]
      exact h1
    · rw [if_neg (by simpa using c), if_neg c] at h1
      exact h1

theorem neg_good {s : Bool} {xs : List Int} {n : Int} (h : Good s xs n) : ∃ s' r, remontoireref01_Neg.f s xs = some (s', r) ∧ Good s' r (-n) ∧ r.length ≤ xs.length := by
  obtain ⟨h1, h2, h3, h4, h5⟩ := h
  obtain ⟨s', r, e, g1, g2, _, _⟩ := made_good (!s) h1 h3
  refine ⟨s', r, ?_, ?_, g2⟩
  · unfold remontoireref01_Neg.f
    rw [e]
    rfl
  · rw [h4]
    cases s with
    | true => rw [if_pos rfl, Int.neg_neg]; exact g1
    | false => rw [if_neg (by decide)]; exact g1

theorem add_good {s t : Bool} {xs ys : List Int} {n m : Int} (hx : Good s xs n) (hy : Good t ys m) (L : Nat) (hL : L ≤ 800) (l1 : xs.length ≤ L) (l2 : ys.length ≤ L) :
    ∃ s' r, Ev (fun k => remontoireref01_Add.f k s xs t ys) (s', r) ∧ Good s' r (n + m) ∧ r.length ≤ L + 1 ∧ (s = false → t = false → s' = false) := by
  obtain ⟨x1, x2, x3, x4, x5⟩ := hx
  obtain ⟨y1, y2, y3, y4, y5⟩ := hy
  unfold remontoireref01_Add.f
  by_cases c : s = t
  · subst c
    obtain ⟨j, e1, e2, e3, e4⟩ := joined_tells x1 y1 L (by omega) l1 l2
    obtain ⟨s', r, g0, g1, g2, g3, g4⟩ := made_good s e2 (by omega)
    refine ⟨s', r, e_pos (beq_self_eq_true s) (Ev.bind e1 ?_), ?_, by omega, fun h _ => g4 h⟩
    · rw [g0]
      exact Ev.now _
    · rw [e3] at g1
      rw [x4, y4]
      cases s with
      | true => rw [if_pos rfl] at *; rw [if_pos rfl] at *; rw [show - val xs + - val ys = -(val xs + val ys) by omega]; exact g1
      | false => rw [if_neg (by decide)] at *; rw [if_neg (by decide)] at *; exact g1
  · have hne : ¬ (s == t) = true := fun h => c (beq_iff_eq.mp h)
    have hl := larger_tells x1 y1 (by omega) (by omega)
    by_cases c2 : cmpv (val xs) (val ys) < 0
    · have hlt : val xs < val ys := by unfold cmpv at c2; split at c2 <;> (try split at c2) <;> omega
      obtain ⟨p, e1, e2, e3, e4⟩ := parted_tells y1 x1 (by omega) (by omega)
      obtain ⟨s', r, g0, g1, g2, g3, g4⟩ := made_good t e2 (by omega)
      refine ⟨s', r, e_neg hne (Ev.bind hl (e_pos c2 (Ev.bind e1 ?_))), ?_, by omega, fun _ h => g4 h⟩
      · rw [g0]
        exact Ev.now _
      · rw [e3] at g1
        rw [x4, y4]
        cases s <;> cases t <;> first | exact absurd rfl c | skip
        · rw [if_pos rfl] at *; rw [if_neg (by decide)] at *; rw [show val xs + - val ys = -(val ys - val xs) by omega]; exact g1
        · rw [if_neg (by decide)] at g1; rw [if_pos rfl, if_neg (by decide)]; rw [show - val xs + val ys = val ys - val xs by omega]; exact g1
    · have hge : val ys ≤ val xs := by unfold cmpv at c2; split at c2 <;> (try split at c2) <;> omega
      obtain ⟨p, e1, e2, e3, e4⟩ := parted_tells x1 y1 (by omega) hge
      obtain ⟨s', r, g0, g1, g2, g3, g4⟩ := made_good s e2 (by omega)
      refine ⟨s', r, e_neg hne (Ev.bind hl (e_neg c2 (Ev.bind e1 ?_))), ?_, by omega, fun h _ => g4 h⟩
      · rw [g0]
        exact Ev.now _
      · rw [e3] at g1
        rw [x4, y4]
        cases s <;> cases t <;> first | exact absurd rfl c | skip
        · rw [if_neg (by decide)] at g1; rw [if_neg (by decide), if_pos rfl]; rw [show val xs + - val ys = val xs - val ys by omega]; exact g1
        · rw [if_pos rfl] at g1; rw [if_pos rfl, if_neg (by decide)]; rw [show - val xs + val ys = -(val xs - val ys) by omega]; exact g1

theorem sub_good {s t : Bool} {xs ys : List Int} {n m : Int} (hx : Good s xs n) (hy : Good t ys m) (L : Nat) (hL : L ≤ 800) (l1 : xs.length ≤ L) (l2 : ys.length ≤ L) :
    ∃ s' r, Ev (fun k => remontoireref01_Sub.f k s xs t ys) (s', r) ∧ Good s' r (n - m) ∧ r.length ≤ L + 1 := by
  obtain ⟨t', ys', e, g1, g2⟩ := neg_good hy
  obtain ⟨s', r, e2, g3, g4, _⟩ := add_good hx g1 L hL l1 (by omega)
  refine ⟨s', r, ?_, g3, g4⟩
  unfold remontoireref01_Sub.f
  rw [e]
  exact Ev.bind (Ev.now _) (Ev.bind e2 (Ev.now _))

/-! ### Mul, of numbers that are not below 0 -/
theorem mul_l0 {xs ys : List Int} (hx : W32 xs) (hy : W32 ys) (b : Nat) : ∀ (size : List Int) (c : Nat), W32 size → val size = tv ys b * val xs → size.length ≤ c → xs.length ≤ c → c + 2 * b ≤ 800 →
    ∃ s' r, Ev (fun k => remontoireref01_Mul.l0 k size ((b : Int) - 1) false xs false ys) (s', r) ∧ Good s' r (val ys * val xs) ∧ r.length ≤ c + 2 * b ∧ s' = false := by
  induction b with
  | zero =>
    intro size c h1 h2 h3 h4 h5
    obtain ⟨s', r, e, g1, g2, g3, g4⟩ := made_good false h1 (by omega)
    rw [if_neg (by decide), h2, tv_zero] at g1
    refine ⟨s', r, ?_, g1, by omega, g4 rfl⟩
    refine Ev.step (f := fun _ => some (s', r)) (fun k => ?_) (Ev.now _)
    rw [remontoireref01_Mul.l0, if_neg (by omega)]
    show (remontoireref01_made.f false size).bind _ = _
    rw [e]
    rfl
  | succ b ih =>
    intro size c h1 h2 h3 h4 h5
    obtain ⟨d, d1, d2, d3, d4⟩ := doubled_tells h1 false c (by omega) h3
    rw [if_neg (by decide), Int.add_zero, h2] at d3
    have hs := isSet_tells hy b (by omega)
    have ht := tv_step hy b
    have e0 : ∀ k, remontoireref01_Mul.l0 (k + 1) size (((b + 1 : Nat) : Int) - 1) false xs false ys = (remontoireref01_doubled.f k size false).bind fun t133 => (if (bitv ys b == 1) = true then ((remontoireref01_joined.f k t133 xs).bind fun t137 => (remontoireref01_Mul.l0 k t137 ((b : Int) - 1) false xs false ys)) else (remontoireref01_Mul.l0 k t133 ((b : Int) - 1) false xs false ys)) := by
      intro k
      rw [show ((b + 1 : Nat) : Int) - 1 = (b : Int) by omega, remontoireref01_Mul.l0, if_pos (by omega), b64 ((b : Int) - 1) (by omega), hs]
      rfl
    rcases bitv_01 ys b with hb | hb
    · obtain ⟨s', r, g0, g1, g2, g3⟩ := ih d (c + 1) d2 (by rw [d3, ht, hb, Int.add_zero, Int.mul_assoc]) d4 (by omega) (by omega)
      refine ⟨s', r, Ev.step e0 (Ev.bind d1 (e_neg (by rw [hb]; decide) g0)), g1, by omega, g3⟩
    · obtain ⟨j, j1, j2, j3, j4⟩ := joined_tells d2 hx (c + 1) (by omega) d4 (by omega)
      obtain ⟨s', r, g0, g1, g2, g3⟩ := ih j (c + 2) j2 (by rw [j3, d3, ht, hb, Int.add_mul, Int.one_mul, Int.mul_assoc]) j4 (by omega) (by omega)
      refine ⟨s', r, Ev.step e0 (Ev.bind d1 (e_pos (by rw [hb]; decide) (Ev.bind j1 g0))), g1, by omega, g3⟩
theorem mul_good {xs ys : List Int} {n m : Int} (hx : Good false xs n) (hy : Good false ys m) (l1 : xs.length ≤ 2) (l2 : ys.length ≤ 2) : ∃ s r, Ev (fun k => remontoireref01_Mul.f k false xs false ys) (s, r) ∧ Good s r (m * n) ∧ r.length ≤ 200 ∧ s = false := by
  obtain ⟨x1, x2, x3, x4, x5⟩ := hx
  obtain ⟨y1, y2, y3, y4, y5⟩ := hy
  rw [if_neg (by decide)] at x4 y4
  obtain ⟨s', r, g0, g1, g2, g3⟩ := mul_l0 x1 y1 (32 * ys.length) [] 2 w32_nil (by rw [tv_end (Nat.le_refl _)]; simp [val]) (by simp) l1 (by omega)
  refine ⟨s', r, ?_, by rw [x4, y4]; exact g1, by omega, g3⟩
  unfold remontoireref01_Mul.f
  rw [b64 (32 * (ys.length : Int)) (by omega), b64 (32 * (ys.length : Int) - 1) (by omega), show 32 * (ys.length : Int) - 1 = ((32 * ys.length : Nat) : Int) - 1 by omega]
  exact g0

/-! ### Down, by one above 0 -/
theorem down_l0 {s : Bool} {xs ys : List Int} {n d : Int} (hx : Good s xs n) (hy : Good false ys d) (hd : 0 < d) (l2 : ys.length ≤ 10) (b : Nat) : ∀ (over left : List Int) (c : Nat), W32 over → W32 left → val over = tv xs b / d → val left = tv xs b % d → over.length ≤ c → left.length ≤ c → 10 ≤ c → c + b ≤ 600 →
    ∃ s1 q s2 r, Ev (fun k => remontoireref01_Down.l0 k over left ((b : Int) - 1) s xs false ys) (s1, q, s2, r) ∧ Good s1 q (n / d) ∧ Good s2 r (n % d) ∧ s2 = false := by
  obtain ⟨x1, x2, x3, x4, x5⟩ := hx
  obtain ⟨y1, y2, y3, y4, y5⟩ := id hy
  rw [if_neg (by decide)] at y4
  have hxn := val_nn x1
  have htn : ∀ b, 0 ≤ tv xs b := fun b => Int.ediv_nonneg (vd_nn x1 _) (Int.le_of_lt (Int.pow_pos (by decide)))
  induction b with
  | zero =>
    intro over left c h1 h2 h3 h4 h5 h6 h7 h8
    rw [tv_zero] at h3 h4
    have m0 := Int.emod_nonneg (val xs) (show d ≠ 0 by omega)
    have m1 := Int.emod_lt_of_pos (val xs) hd
    have m2 := Int.mul_ediv_add_emod (val xs) d
    obtain ⟨s1, q, e1, g1, g2, g3, g4⟩ := made_good s h1 (by omega)
    obtain ⟨s2, r, e2, f1, f2, f3, f4⟩ := made_good false h2 (by omega)
    obtain rfl := f4 rfl
    rw [if_neg (by decide)] at f1
    have hpos := norm_pos f1.1 f1.2.1
    rw [f3] at hpos
    have e0 : ∀ k, remontoireref01_Down.l0 (k + 1) over left (((0 : Nat) : Int) - 1) s xs false ys = if s = true then (remontoireref01_Down.j1 k (decide ((r.length : Int) > 0)) false ys s1 q false r) else (remontoireref01_Down.j1 k false false ys s1 q false r) := by
      intro k
      rw [remontoireref01_Down.l0, if_neg (by omega), e1, e2]
      rfl
    have stop : Ev (fun k => remontoireref01_Down.j1 k false false ys s1 q false r) (s1, q, false, r) :=
      Ev.step (f := fun _ => some (s1, q, false, r)) (fun k => by rw [remontoireref01_Down.j1, if_neg (by decide)]) (Ev.now _)
    cases s with
    | false =>
      rw [if_neg (by decide)] at x4 g1
      refine ⟨s1, q, false, r, Ev.step e0 (e_neg (by decide) stop), ?_, ?_, rfl⟩
      · rw [x4, ← h3]; exact g1
      · rw [x4, ← h4]; exact f1
    | true =>
      rw [if_pos rfl] at x4 g1
      by_cases c0 : 0 < val left
      · obtain ⟨so, o, eo, go, lo, _⟩ := of_good (n := 1) (by omega)
        obtain ⟨sa, qa, ea, ga, la⟩ := sub_good g1 go 600 (by omega) (by omega) (by omega)
        obtain ⟨sb, rb, eb, gb, lb⟩ := sub_good hy f1 600 (by omega) (by omega) (by omega)
        have hdm : n / d = -val over - 1 ∧ n % d = d - val left := by
          refine (Int.ediv_emod_unique hd).mpr ⟨?_, by omega, by omega⟩
          rw [x4, h3, h4, Int.mul_sub, Int.mul_one, Int.mul_neg]
          omega
        have hsb : sb = false := by
          by_cases hb : sb = true
          · have := gb.2.2.2.2 hb
            have := gb.2.2.2.1
            rw [if_pos hb] at this
            omega
          · exact Bool.eq_false_iff.mpr hb
        refine ⟨sa, qa, sb, rb, Ev.step e0 (e_pos rfl ?_), ?_, ?_, hsb⟩
        · have hdc : decide ((r.length : Int) > 0) = true := decide_eq_true (by have := hpos.mpr c0; omega)
          rw [hdc]
          refine Ev.step (f := fun k => (remontoireref01_Sub.f k s1 q so o).bind fun bt227 => ((remontoireref01_Sub.f k false ys false r).bind fun bt231 => (some (bt227.1, bt227.2, bt231.1, bt231.2)))) (fun k => ?_) (Ev.bind ea (Ev.bind eb (Ev.now _)))
          rw [remontoireref01_Down.j1, if_pos rfl, eo]
          rfl
        · rw [hdm.1]; exact ga
        · rw [hdm.2]; exact gb
      · have hl0 : val left = 0 := by have := val_nn h2; omega
        have hdm : n / d = -val over ∧ n % d = 0 := by
          refine (Int.ediv_emod_unique hd).mpr ⟨?_, by omega, by omega⟩
          rw [x4, h3, Int.mul_neg]
          omega
        refine ⟨s1, q, false, r, Ev.step e0 (e_pos rfl ?_), ?_, ?_, rfl⟩
        · have hdc : decide ((r.length : Int) > 0) = false := decide_eq_false (by have := hpos.mp; omega)
          rw [hdc]
          exact stop
        · rw [hdm.1]; exact g1
        · rw [hdm.2, ← hl0]; exact f1
  | succ b ih =>
    intro over left c h1 h2 h3 h4 h5 h6 h7 h8
    have hs := isSet_tells x1 b (by omega)
    have ht := tv_step x1 b
    have hb01 := bitv_01 xs b
    obtain ⟨dl, a1, a2, a3, a4⟩ := doubled_tells h2 (bitv xs b == 1) c (by omega) h6
    have hbit : (if (bitv xs b == 1) = true then (1 : Int) else 0) = bitv xs b := by rcases hb01 with h | h <;> rw [h] <;> rfl
    rw [hbit, h4] at a3
    have hds := div_step (t := tv xs (b + 1)) (d := d) (c := bitv xs b) hd hb01 (htn (b + 1))
    rw [← ht] at hds
    have hcmp := larger_tells a2 y1 (by omega) (by omega)
    rw [← y4] at hcmp
    have e0 : ∀ k, remontoireref01_Down.l0 (k + 1) over left (((b + 1 : Nat) : Int) - 1) s xs false ys = (remontoireref01_doubled.f k left (bitv xs b == 1)).bind fun t196 => ((remontoireref01_larger.f k t196 ys).bind fun t199 => (if t199 ≥ 0 then ((remontoireref01_parted.f k t196 ys).bind fun t200 => ((remontoireref01_made.f false t200).bind fun bt203 => ((remontoireref01_doubled.f k over (decide (t199 ≥ 0))).bind fun t207 => (remontoireref01_Down.l0 k t207 bt203.2 ((b : Int) - 1) s xs false ys)))) else ((remontoireref01_doubled.f k over (decide (t199 ≥ 0))).bind fun t210 => (remontoireref01_Down.l0 k t210 t196 ((b : Int) - 1) s xs false ys)))) := by
      intro k
      rw [show ((b + 1 : Nat) : Int) - 1 = (b : Int) by omega, remontoireref01_Down.l0, if_pos (by omega), b64 ((b : Int) - 1) (by omega), hs]
      rfl
    by_cases c1 : cmpv (val dl) d ≥ 0
    · have hge : d ≤ val dl := by unfold cmpv at c1; split at c1 <;> (try split at c1) <;> omega
      obtain ⟨p, p1, p2, p3, p4⟩ := parted_tells a2 y1 (by omega) (by omega)
      obtain ⟨s2, r, m0, m1, m2, m3, _⟩ := made_good false p2 (by omega)
      obtain ⟨dd, o1, o2, o3, o4⟩ := doubled_tells h1 true c (by omega) h5
      rw [if_pos rfl, h3] at o3
      obtain ⟨q1, q2⟩ := hds.1 (by omega)
      obtain ⟨s1', q', s2', r', g0, g1, g2, g3⟩ := ih dd r (c + 1) o2 m1.1 (by rw [o3, q1]) (by rw [m3, p3, a3, ← y4, q2]) o4 (by omega) (by omega) (by omega)
      refine ⟨s1', q', s2', r', Ev.step e0 (Ev.bind a1 (Ev.bind hcmp (e_pos c1 (Ev.bind p1 ?_)))), g1, g2, g3⟩
      rw [m0, decide_eq_true c1]
      exact Ev.bind (Ev.now _) (Ev.bind o1 g0)
    · have hlt : val dl < d := by unfold cmpv at c1; split at c1 <;> (try split at c1) <;> omega
      obtain ⟨dd, o1, o2, o3, o4⟩ := doubled_tells h1 false c (by omega) h5
      rw [if_neg (by decide), Int.add_zero, h3] at o3
      obtain ⟨q1, q2⟩ := hds.2 (by omega)
      obtain ⟨s1', q', s2', r', g0, g1, g2, g3⟩ := ih dd dl (c + 1) o2 a2 (by rw [o3, q1]) (by rw [a3, q2]) o4 a4 (by omega) (by omega)
      refine ⟨s1', q', s2', r', Ev.step e0 (Ev.bind a1 (Ev.bind hcmp (e_neg c1 ?_))), g1, g2, g3⟩
      rw [decide_eq_false c1]
      exact Ev.bind o1 g0
theorem down_good {s : Bool} {xs ys : List Int} {n d : Int} (hx : Good s xs n) (hy : Good false ys d) (hd : 0 < d) (l1 : xs.length ≤ 10) (l2 : ys.length ≤ 10) :
    ∃ s1 q s2 r, Ev (fun k => remontoireref01_Down.f k s xs false ys) (s1, q, s2, r) ∧ Good s1 q (n / d) ∧ Good s2 r (n % d) ∧ s2 = false := by
  obtain ⟨s1, q, s2, r, g0, g1, g2, g3⟩ := down_l0 hx hy hd l2 (32 * xs.length) [] [] 10 w32_nil w32_nil (by rw [tv_end (Nat.le_refl _)]; simp [val]) (by rw [tv_end (Nat.le_refl _)]; simp [val]) (by simp) (by simp) (by omega) (by omega)
  refine ⟨s1, q, s2, r, ?_, g1, g2, g3⟩
  unfold remontoireref01_Down.f
  rw [b64 (32 * (xs.length : Int)) (by omega), b64 (32 * (xs.length : Int) - 1) (by omega), show 32 * (xs.length : Int) - 1 = ((32 * xs.length : Nat) : Int) - 1 by omega]
  exact g0
end Go.Proofs.Ytjabbppmkepgdaa.Big
