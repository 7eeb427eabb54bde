/- Plain laws of mode: what the Lean functions that were printed out of the packages mode and remontoireref24 tell, over numbers alone. -/
import Derived.Test.YtjldkgcabombhaaQMx
import Derived.Test.YtjldkgcabombhaaH2
import Derived.OpenShut
namespace Go.Proofs.Ytjldkgcabombhaa.Pure
set_option linter.unusedVariables false
open Go.RowKit Go.Proofs.Ytjldkgcabombhaa Go.Proofs.Ytjldkgcabombhaa.QM Go.Proofs.YtjldkgcabombhaaW.PrintWords Go.Proofs.YtjldkgcabombhaaW.PrintLast

theorem w64 (n : Int) (h : -9223372036854775808 ≤ n ∧ n ≤ 9223372036854775807) : wrap64 n = n := by unfold wrap64; omega

theorem may_iff (st cnt last need lim : Int) : Md.may st cnt last need lim = true ↔ (2 ≤ need ∧ need ≤ 16 ∧ 1000000 ≤ lim ∧ lim ≤ 1000000000 ∧ 0 ≤ last) ∧
    ((st = 0 ∧ cnt = 0 ∧ last = 0) ∨ (st = 1 ∧ 1 ≤ cnt ∧ cnt < need) ∨ (st = 2 ∧ cnt = need) ∨ (st = 3 ∧ cnt = need) ∨ (st = 4 ∧ cnt = 0)) := by
  unfold Md.may
  by_cases h : need < 2 ∨ 16 < need ∨ lim < 1000000 ∨ 1000000000 < lim ∨ last < 0
  · rw [if_pos h]; constructor
    · intro h; cases h
    · intro h2; omega
  · rw [if_neg h]
    by_cases s0 : st = 0
    · subst s0; simp; omega
    rw [if_neg s0]
    by_cases s1 : st = 1
    · subst s1; simp; omega
    rw [if_neg s1]
    by_cases s2 : st = 2
    · subst s2; simp; omega
    rw [if_neg s2]
    by_cases s3 : st = 3
    · subst s3; simp; omega
    rw [if_neg s3]
    by_cases s4 : st = 4
    · subst s4; simp; omega
    rw [if_neg s4]
    simp; omega

theorem may_f (st cnt last need lim : Int) : mode_May.f st cnt last need lim = some (Md.may st cnt last need lim) := rfl

theorem rmay_j0 (k : Nat) (st cnt last need lim : Int) (h : ¬ (need < 2 ∨ 16 < need ∨ lim < 1000000 ∨ 1000000000 < lim ∨ last < 0)) :
    remontoireref24_May.j0 (k + 2) false st cnt last need lim = some (Md.may st cnt last need lim) := by
  rw [remontoireref24_May.j0, if_neg (by decide)]
  unfold Md.may
  rw [if_neg h]
  by_cases s0 : st = 0
  · rw [if_pos s0, if_pos s0]
    by_cases hc : cnt = 0
    · rw [if_pos hc, beq_iff_eq.mpr hc, Bool.true_and]
    · rw [if_neg hc, beq_eq_false_iff_ne.mpr hc, Bool.false_and]
  rw [if_neg s0, if_neg s0]
  by_cases s1 : st = 1
  · rw [if_pos s1, if_pos s1]
    by_cases hc : cnt > 0
    · rw [if_pos hc, decide_eq_true (show 1 ≤ cnt by omega), Bool.true_and]
    · rw [if_neg hc, decide_eq_false (show ¬ 1 ≤ cnt by omega), Bool.false_and]
  rw [if_neg s1, if_neg s1]
  by_cases s2 : st = 2
  · rw [if_pos s2, if_pos s2, remontoireref24_May.j1, if_pos (beq_iff_eq.mpr s2)]
  rw [if_neg s2, if_neg s2]
  by_cases s3 : st = 3
  · rw [if_pos s3, remontoireref24_May.j1, if_pos (beq_iff_eq.mpr s3)]
  rw [if_neg s3, remontoireref24_May.j1, if_neg (by simpa using s3)]
  by_cases s4 : st = 4
  · rw [if_pos s4, if_pos s4]
  · rw [if_neg s4, if_neg s4]

theorem rmay_j0t (k : Nat) (st cnt last need lim : Int) (h : need < 2 ∨ 16 < need ∨ lim < 1000000 ∨ 1000000000 < lim ∨ last < 0) :
    remontoireref24_May.j0 (k + 2) true st cnt last need lim = some (Md.may st cnt last need lim) := by
  rw [remontoireref24_May.j0, if_pos rfl]
  unfold Md.may
  rw [if_pos h]

theorem rmay (k : Nat) (st cnt last need lim : Int) : remontoireref24_May.f (k + 2) st cnt last need lim = some (Md.may st cnt last need lim) := by
  unfold remontoireref24_May.f
  by_cases h0 : need < 2
  · rw [if_pos h0, rmay_j0t _ _ _ _ _ _ (by omega)]
  rw [if_neg h0]
  by_cases h1 : need > 16
  · rw [if_pos h1, rmay_j0t _ _ _ _ _ _ (by omega)]
  rw [if_neg h1]
  by_cases h2 : lim < 1000000
  · rw [if_pos h2, rmay_j0t _ _ _ _ _ _ (by omega)]
  rw [if_neg h2]
  by_cases h3 : lim > 1000000000
  · rw [if_pos h3, rmay_j0t _ _ _ _ _ _ (by omega)]
  rw [if_neg h3]
  by_cases h4 : last < 0
  · rw [decide_eq_true h4, rmay_j0t _ _ _ _ _ _ (by omega)]
  · rw [decide_eq_false h4, rmay_j0 _ _ _ _ _ _ (by omega)]

/-! ### Sampled -/
/-- How many samples came one behind the other. -/
def cntR (st cnt last c lead : Int) : Int :=
  if st = 1 ∧ 500000000 ≤ c - last ∧ c - last ≤ 1500000000 then (if 1 + lead ≤ cnt + 1 then cnt + 1 else 1 + lead) else 1 + lead
def sampR (st cnt last need c lead : Int) (anew : Bool) : Int × Int × Int :=
  if anew = true ∨ st = 2 ∨ st = 3 ∨ need ≤ cntR st cnt last c lead then (2, need, c) else (1, cntR st cnt last c lead, c)

/-- A mode, and no error. -/
abbrev four (x : Int × Int × Int) : Int × Int × Int × Int := (x.1, x.2.1, x.2.2, 0)

theorem mx_eq (a b : Int) : mx a b = if a ≤ b then b else a := by unfold mx; split <;> split <;> omega

theorem sampled_yes (k : Nat) (st cnt last need lim c lead : Int) (anew : Bool) (hm : Md.may st cnt last need lim = true) (hl : 0 ≤ lead ∧ lead ≤ 1000) (hc : last ≤ c) (hc2 : c ≤ 9223372036854775807) :
    mode_Sampled.f (k + 2) st cnt last need lim c lead anew = some (four (sampR st cnt last need c lead anew)) := by
  have hq := (may_iff _ _ _ _ _).1 hm
  unfold mode_Sampled.f
  rw [may_f, hm, Option.bind_some, if_pos rfl, if_neg (by omega), decide_eq_false (by omega), mode_Sampled.j0, if_neg (by decide), if_neg (by omega)]
  unfold sampR
  by_cases ha : anew = true
  · rw [if_pos ha, if_pos (.inl ha)]
  rw [if_neg ha]
  by_cases s2 : st = 2
  · rw [if_pos s2, if_pos (.inr (.inl s2))]
  rw [if_neg s2]
  by_cases s3 : st = 3
  · rw [if_pos s3, if_pos (.inr (.inr (.inl s3)))]
  rw [if_neg s3, mode_lapse.f, Option.bind_some, w64 (c - last) (by omega), w64 (1 + lead) (by omega)]
  have key : ∀ b : Bool, b = decide (st = 1 ∧ 500000000 ≤ c - last ∧ c - last ≤ 1500000000) →
      mode_Sampled.j1 (k + 1) b st cnt last need lim 1 (1 + lead) c = some (four (if anew = true ∨ st = 2 ∨ st = 3 ∨ need ≤ cntR st cnt last c lead then (2, need, c) else (1, cntR st cnt last c lead, c))) := by
    intro b hb
    have hdis : (anew = true ∨ st = 2 ∨ st = 3 ∨ need ≤ cntR st cnt last c lead) ↔ need ≤ cntR st cnt last c lead := by
      constructor
      · rintro (h | h | h | h)
        · exact absurd h ha
        · exact absurd h s2
        · exact absurd h s3
        · exact h
      · intro h; exact .inr (.inr (.inr h))
    rw [mode_Sampled.j1]
    simp only [hdis]
    by_cases hs : st = 1 ∧ 500000000 ≤ c - last ∧ c - last ≤ 1500000000
    · have e : cntR st cnt last c lead = mx (1 + lead) (wrap64 (cnt + 1)) := by unfold cntR; rw [if_pos hs, w64 (cnt + 1) (by omega), mx_eq]
      rw [hb, decide_eq_true hs, if_pos rfl, ← e]
      by_cases hn : need ≤ cntR st cnt last c lead
      · rw [if_pos hn, if_pos hn]
      · rw [if_neg (by omega), if_neg hn]
    · have e : cntR st cnt last c lead = 1 + lead := by unfold cntR; rw [if_neg hs]
      rw [hb, decide_eq_false hs, if_neg (by decide), e]
      by_cases hn : need ≤ 1 + lead
      · rw [if_pos hn, if_pos hn]
      · rw [if_neg (by omega), if_neg hn]
  by_cases s1 : st = 1
  · rw [if_pos s1]
    by_cases h5 : c - last ≥ 500000000
    · rw [if_pos h5]
      exact key (decide (c - last ≤ 1500000000)) (by rw [Bool.eq_iff_iff]; simp; omega)
    · rw [if_neg h5]
      exact key false (by rw [Bool.eq_iff_iff]; simp; omega)
  · rw [if_neg s1]
    exact key false (by rw [Bool.eq_iff_iff]; simp; omega)

theorem sampled_no (k : Nat) (st cnt last need lim c lead : Int) (anew : Bool) (h : ¬ (Md.may st cnt last need lim = true ∧ 0 ≤ lead ∧ lead ≤ 1000)) :
    mode_Sampled.f (k + 2) st cnt last need lim c lead anew = some (0, 0, 0, 2) := by
  unfold mode_Sampled.f
  rw [may_f, Option.bind_some]
  by_cases hm : Md.may st cnt last need lim = true
  · rw [if_pos hm]
    by_cases h1 : lead < 0
    · rw [if_pos h1, mode_Sampled.j0, if_pos rfl]
    · have h2 : lead > 1000 := Int.not_le.1 (fun h3 => h ⟨hm, by omega, h3⟩)
      rw [if_neg h1, decide_eq_true h2, mode_Sampled.j0, if_pos rfl]
  · rw [if_neg hm, mode_Sampled.j0, if_pos rfl]
theorem sampled_late (k : Nat) (st cnt last need lim c lead : Int) (anew : Bool) (hm : Md.may st cnt last need lim = true) (hl : 0 ≤ lead ∧ lead ≤ 1000) (hc : c < last) :
    mode_Sampled.f (k + 2) st cnt last need lim c lead anew = some (0, 0, 0, 10) := by
  unfold mode_Sampled.f
  rw [may_f, hm, Option.bind_some, if_pos rfl, if_neg (by omega), decide_eq_false (by omega), mode_Sampled.j0, if_neg (by decide), if_pos hc]

theorem rsamp_j2 (k : Nat) (c cntv need lim : Int) (b : Bool) : remontoireref24_Sampled.j2 (k + 1) c cntv b need lim = some (if b = true ∨ need ≤ cntv then (2, need, c) else (1, cntv, c)) := by
  rw [remontoireref24_Sampled.j2]
  cases b
  · rw [if_neg (by decide)]
    by_cases h : need ≤ cntv
    · rw [if_pos h, if_pos (.inr h)]
    · rw [if_neg (by omega), if_neg (by simp; omega)]
  · rw [if_pos rfl, if_pos (Int.le_refl _), if_pos (.inl rfl)]
theorem rsamp_j1 (k : Nat) (c cntv st cnt last need lim : Int) (anew : Bool) : remontoireref24_Sampled.j1 (k + 2) c anew cntv st cnt last need lim = some (if anew = true ∨ st = 2 ∨ st = 3 ∨ need ≤ cntv then (2, need, c) else (1, cntv, c)) := by
  rw [remontoireref24_Sampled.j1]
  by_cases ha : anew = true
  · rw [if_pos ha, rsamp_j2, if_pos (.inl rfl), if_pos (.inl ha)]
  rw [if_neg ha]
  by_cases s2 : st = 2
  · rw [if_pos s2, rsamp_j2, if_pos (.inl rfl), if_pos (.inr (.inl s2))]
  rw [if_neg s2, rsamp_j2]
  by_cases s3 : st = 3
  · rw [if_pos (.inl (beq_iff_eq.mpr s3)), if_pos (.inr (.inr (.inl s3)))]
  · rw [beq_eq_false_iff_ne.mpr s3]
    congr 1
    simp [ha, s2, s3]

theorem rsampled (k : Nat) (st cnt last need lim c lead : Int) (anew : Bool) (hm : Md.may st cnt last need lim = true) (hl : 0 ≤ lead ∧ lead ≤ 1000) (hc : last ≤ c) (hc2 : c ≤ 9223372036854775807) :
    remontoireref24_Sampled.f (k + 3) st cnt last need lim c lead anew = some (sampR st cnt last need c lead anew) := by
  have hq := (may_iff _ _ _ _ _).1 hm
  have j0t : st = 1 ∧ 500000000 ≤ c - last ∧ c - last ≤ 1500000000 → ∀ b : Bool, b = decide (1 + lead ≤ cnt) → remontoireref24_Sampled.j0 (k + 3) c anew (1 + lead) b st cnt last need lim = some (sampR st cnt last need c lead anew) := by
    intro hs b hb
    rw [remontoireref24_Sampled.j0]
    unfold sampR
    have e : cntR st cnt last c lead = if 1 + lead ≤ cnt then cnt + 1 else 1 + lead := by
      unfold cntR; rw [if_pos hs]; split <;> split <;> omega
    by_cases hle : 1 + lead ≤ cnt
    · rw [hb, decide_eq_true hle, if_pos rfl, rsamp_j1, e, if_pos hle, w64 (cnt + 1) (by omega)]
    · rw [hb, decide_eq_false hle, if_neg (by decide), rsamp_j1, e, if_neg hle]
  have j0f : ¬ (st = 1 ∧ 500000000 ≤ c - last ∧ c - last ≤ 1500000000) → remontoireref24_Sampled.j0 (k + 3) c anew (1 + lead) false st cnt last need lim = some (sampR st cnt last need c lead anew) := by
    intro hs
    rw [remontoireref24_Sampled.j0, if_neg (by decide), rsamp_j1]
    unfold sampR
    rw [show cntR st cnt last c lead = 1 + lead by unfold cntR; rw [if_neg hs]]
  unfold remontoireref24_Sampled.f
  rw [w64 (c - last) (by omega), w64 (1 + lead) (by omega)]
  by_cases s1 : st = 1
  · rw [if_pos s1]
    by_cases h5 : c - last ≥ 500000000
    · rw [if_pos h5]
      by_cases h6 : c - last ≤ 1500000000
      · rw [if_pos h6]; exact j0t ⟨s1, h5, h6⟩ _ rfl
      · rw [if_neg h6]; exact j0f (by omega)
    · rw [if_neg h5]; exact j0f (by omega)
  · rw [if_neg s1]; exact j0f (by omega)

/-! ### Passed -/
def passR (st cnt last lim c b : Int) : Int × Int × Int :=
  if st = 0 ∨ st = 4 then (st, cnt, last) else if lim < b ∨ (st = 1 ∧ 2500000000 < c - last) then (4, 0, last) else if 2500000000 < c - last then (3, cnt, last) else (st, cnt, last)

theorem passed_j1 (k : Nat) (o l : Bool) (st cnt last : Int) : mode_Passed.j1 (k + 1) o l st cnt last = some (if o = true then (4, 0, last, 0) else if l = true then (3, cnt, last, 0) else (st, cnt, last, 0)) := by
  rw [mode_Passed.j1]
  cases o <;> cases l <;> rfl
theorem passed_yes (k : Nat) (st cnt last need lim c b : Int) (hm : Md.may st cnt last need lim = true) (hc : last ≤ c) (hc2 : c ≤ 9223372036854775807) :
    mode_Passed.f (k + 2) st cnt last need lim c b = some (four (passR st cnt last lim c b)) := by
  have hq := (may_iff _ _ _ _ _).1 hm
  unfold mode_Passed.f
  rw [may_f, hm, Option.bind_some, if_pos rfl, if_neg (by omega), mode_lapse.f, Option.bind_some, w64 (c - last) (by omega)]
  unfold passR
  by_cases s0 : st = 0
  · rw [if_pos s0, mode_Passed.j0, if_pos (beq_iff_eq.mpr s0), if_pos (.inl s0)]
  rw [if_neg s0, mode_Passed.j0]
  by_cases s4 : st = 4
  · rw [if_pos (beq_iff_eq.mpr s4), if_pos (.inr s4)]
  rw [if_neg (by simpa using s4), if_neg (show ¬ (st = 0 ∨ st = 4) by omega)]
  by_cases s1 : st = 1
  · rw [if_pos s1]
    by_cases hb : b > lim
    · rw [if_pos (decide_eq_true hb), passed_j1, if_pos rfl, if_pos (.inl hb)]
    · rw [if_neg (by simpa using hb), passed_j1]
      by_cases hl : c - last > 2500000000
      · rw [if_pos (decide_eq_true hl), if_pos (.inr ⟨s1, hl⟩)]
      · rw [if_neg (by simpa using hl), if_neg (by simpa using hl), if_neg (by omega), if_neg hl]
  · rw [if_neg s1, passed_j1]
    by_cases hb : b > lim
    · rw [if_pos (decide_eq_true hb), if_pos (.inl hb)]
    · rw [if_neg (by simpa using hb), if_neg (show ¬ (lim < b ∨ (st = 1 ∧ 2500000000 < c - last)) by omega)]
      by_cases hl : c - last > 2500000000
      · rw [if_pos (decide_eq_true hl), if_pos hl]
      · rw [if_neg (by simpa using hl), if_neg hl]
theorem passed_no (k : Nat) (st cnt last need lim c b : Int) (hm : ¬ Md.may st cnt last need lim = true) : mode_Passed.f (k + 2) st cnt last need lim c b = some (0, 0, 0, 2) := by
  unfold mode_Passed.f
  rw [may_f, Option.bind_some, if_neg hm]
theorem passed_late (k : Nat) (st cnt last need lim c b : Int) (hm : Md.may st cnt last need lim = true) (hc : c < last) : mode_Passed.f (k + 2) st cnt last need lim c b = some (0, 0, 0, 10) := by
  unfold mode_Passed.f
  rw [may_f, hm, Option.bind_some, if_pos rfl, if_pos hc]

theorem rpass_j1 (k : Nat) (o l : Bool) (st cnt last : Int) : remontoireref24_Passed.j1 (k + 1) l o st cnt last = some (if o = true then (4, 0, last) else if l = true then (3, cnt, last) else (st, cnt, last)) := by
  rw [remontoireref24_Passed.j1]
  cases o <;> cases l <;> rfl
theorem rpassed (k : Nat) (st cnt last need lim c b : Int) (hm : Md.may st cnt last need lim = true) (hc : last ≤ c) (hc2 : c ≤ 9223372036854775807) :
    remontoireref24_Passed.f (k + 2) st cnt last need lim c b = some (passR st cnt last lim c b) := by
  have hq := (may_iff _ _ _ _ _).1 hm
  unfold remontoireref24_Passed.f passR
  by_cases s0 : st = 0
  · rw [if_pos s0, remontoireref24_Passed.j0, if_pos rfl, if_pos (.inl s0)]
  rw [if_neg s0, remontoireref24_Passed.j0]
  by_cases s4 : st = 4
  · rw [if_pos (beq_iff_eq.mpr s4), if_pos (.inr s4)]
  rw [if_neg (by simpa using s4), if_neg (show ¬ (st = 0 ∨ st = 4) by omega), w64 (c - last) (by omega)]
  by_cases hb : b > lim
  · rw [if_pos hb, rpass_j1, if_pos rfl, if_pos (.inl hb)]
  rw [if_neg hb]
  by_cases s1 : st = 1
  · rw [if_pos s1, rpass_j1]
    by_cases hl : c - last > 2500000000
    · rw [if_pos (decide_eq_true hl), if_pos (.inr ⟨s1, hl⟩)]
    · rw [if_neg (by simpa using hl), if_neg (by simpa using hl), if_neg (by omega), if_neg hl]
  · rw [if_neg s1, rpass_j1, if_neg (by decide), if_neg (show ¬ (lim < b ∨ (st = 1 ∧ 2500000000 < c - last)) by omega)]
    by_cases hl : c - last > 2500000000
    · rw [if_pos (decide_eq_true hl), if_pos hl]
    · rw [if_neg (by simpa using hl), if_neg hl]

theorem serves_f (st cnt last : Int) : mode_Serves.f st cnt last = some (st == 2 || st == 3) := by
  unfold mode_Serves.f
  by_cases h : st = 2
  · rw [if_pos h, beq_iff_eq.mpr h]; rfl
  · rw [if_neg h, beq_eq_false_iff_ne.mpr h]; rfl
end Go.Proofs.Ytjldkgcabombhaa.Pure
