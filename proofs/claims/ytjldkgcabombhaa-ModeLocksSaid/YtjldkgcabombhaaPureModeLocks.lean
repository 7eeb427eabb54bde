/- The plain law of ModeLocks: over all numbers the Lean function that was printed out of the Go law comes to true; and from it the walk of the Go law. -/
import Derived.Test.YtjldkgcabombhaaPureModeParts
namespace Go.Proofs.Ytjldkgcabombhaa.Pure
set_option linter.unusedVariables false
open Go.RowKit Go.Proofs.Ytjldkgcabombhaa Go.Proofs.Ytjldkgcabombhaa.QM Go.Proofs.Ytjldkgcabombhaa.QN Go.Proofs.YtjldkgcabombhaaW.PrintWords Go.Proofs.YtjldkgcabombhaaW.PrintLast

theorem cntR_lo (st cnt last c lead : Int) : 1 + lead ≤ cntR st cnt last c lead := by
  unfold cntR
  split
  · split <;> omega
  · omega
theorem cntR_next {st cnt last c lead : Int} (h : st = 1 ∧ 500000000 ≤ c - last ∧ c - last ≤ 1500000000) : cnt + 1 ≤ cntR st cnt last c lead := by unfold cntR; rw [if_pos h]; split <;> omega

theorem lj2_true (k : Nat) (x2 x3 x11 x12 x13 : Int) (l : List Int) (x48 x49 st cnt last need lim : Int) : remontoirelaw24_ModeLocks.j2 (k + 1) x2 x3 x11 x12 x13 l x48 x49 true st cnt last need lim = some true := by
  rw [remontoirelaw24_ModeLocks.j2, if_pos rfl]; rfl

theorem lj3 (k : Nat) (from_ first x : Int) (l : List Int) (n i need lim st cnt : Int) (hm : Md.may st cnt from_ need lim = true) (hs : st = 1 ∨ st = 2) (hx : 500000000 ≤ x ∧ x ≤ 1500000000) (hf : from_ ≤ 1300000000000000000) (hi : 0 ≤ i ∧ i ≤ 30) (r : Option Bool)
    (h : remontoirelaw24_ModeLocks.l0 (k + 2) (from_ + x) 0 first l n (i + 1) st cnt from_ need lim = r) :
    remontoirelaw24_ModeLocks.j3 (k + 3) from_ first x l n i false need lim st cnt from_ = r := by
  have hq := (may_iff _ _ _ _ _).1 hm
  rw [remontoirelaw24_ModeLocks.j3, if_neg (by decide), w64 (from_ + x) (by omega), passed_yes k _ _ _ _ _ _ _ hm (by omega) (by omega), Option.bind_some]
  have e : passR st cnt from_ lim (from_ + x) lim = (st, cnt, from_) := by
    unfold passR; rw [if_neg (by omega), if_neg (by omega), if_neg (by omega)]
  rw [e]
  dsimp only
  rw [if_pos rfl, w64 (i + 1) (by omega)]
  simp only [beq_self_eq_true, Bool.not_true, Bool.or_self, Bool.false_eq_true, if_false]
  exact h

theorem locks_loop (l : List Int) (need lim first : Int) (hl : l.length ≤ 30) (hfirst : 0 ≤ first ∧ first ≤ 30) (j : Nat) : ∀ (i : Nat) (from_ lead st cnt last : Int) (k : Nat), (l.length : Int) - i = j → Md.may st cnt last need lim = true → last ≤ from_ → from_ ≤ 1152921504606846976 + 1500000000 * i →
    ((i = 0 ∧ lead = first) ∨ (lead = 0 ∧ 500000000 ≤ from_ - last ∧ from_ - last ≤ 1500000000 ∧ (st = 2 ∨ (st = 1 ∧ (i : Int) + first ≤ cnt)))) →
    remontoirelaw24_ModeLocks.l0 (k + 3 * j + 3) from_ lead first l (l.length : Int) i st cnt last need lim = some true := by
  induction j with
  | zero =>
    intro i from_ lead st cnt last k h1 hm h2 h3 h4
    rw [remontoirelaw24_ModeLocks.l0, if_neg (by omega)]; rfl
  | succ j ih =>
    intro i from_ lead st cnt last k h1 hm h2 h3 h4
    have hq := (may_iff _ _ _ _ _).1 hm
    rw [show k + 3 * (j + 1) + 3 = (k + 3 * j + 5) + 1 by omega, remontoirelaw24_ModeLocks.l0, if_pos (by omega), if_pos (by omega), if_pos (by omega)]
    by_cases hx : rd l (i : Int) < 500000000
    · rw [if_pos hx]; exact lj2_true (k + 3 * j + 4) _ _ _ _ _ _ _ _ _ _ _ _ _
    rw [if_neg hx]
    by_cases hy : rd l (i : Int) > 1500000000
    · rw [decide_eq_true hy]; exact lj2_true (k + 3 * j + 4) _ _ _ _ _ _ _ _ _ _ _ _ _
    rw [decide_eq_false hy, show k + 3 * j + 5 = (k + 3 * j + 4) + 1 by omega, remontoirelaw24_ModeLocks.j2, if_neg (by decide)]
    have hlead : 0 ≤ lead ∧ lead ≤ 1000 := by omega
    rw [show k + 3 * j + 4 = (k + 3 * j + 2) + 2 by omega, sampled_yes (k + 3 * j + 2) _ _ _ _ _ _ _ _ hm hlead h2 (by omega), Option.bind_some]
    have hlo := cntR_lo st cnt last from_ lead
    have hcase : (sampR st cnt last need from_ lead false = (2, need, from_)) ∨
        (sampR st cnt last need from_ lead false = (1, cntR st cnt last from_ lead, from_) ∧ cntR st cnt last from_ lead < need ∧ st ≠ 2 ∧ st ≠ 3) := by
      unfold sampR
      by_cases hs : (false = true ∨ st = 2 ∨ st = 3 ∨ need ≤ cntR st cnt last from_ lead)
      · exact .inl (if_pos hs)
      · refine .inr ⟨if_neg hs, ?_, ?_, ?_⟩
        · exact Int.not_le.1 (fun h => hs (.inr (.inr (.inr h))))
        · exact fun h => hs (.inr (.inl h))
        · exact fun h => hs (.inr (.inr (.inl h)))
    rcases hcase with e | ⟨e, hlt, hn2, hn3⟩
    · rw [e]
      dsimp only
      have hm2 : Md.may 2 need from_ need lim = true := (may_iff _ _ _ _ _).2 ⟨by omega, .inr (.inr (.inl ⟨rfl, rfl⟩))⟩
      rw [if_pos rfl, may_f, hm2, Option.bind_some, if_pos rfl, if_pos rfl, w64 (i + 1) (by omega), w64 ((i : Int) + 1 + first) (by omega)]
      have next : remontoirelaw24_ModeLocks.l0 (k + 3 * j + 1 + 2) (from_ + rd l (i : Int)) 0 first l (l.length : Int) ((i : Int) + 1) 2 need from_ need lim = some true := by
        have := ih (i + 1) (from_ + rd l (i : Int)) 0 2 need from_ k (by omega) hm2 (by omega) (by omega) (.inr ⟨rfl, by omega, by omega, .inl rfl⟩)
        rw [show k + 3 * j + 1 + 2 = k + 3 * j + 3 by omega, show (i : Int) + 1 = ((i + 1 : Nat) : Int) by omega]
        exact this
      have g := lj3 (k + 3 * j + 1) from_ first (rd l (i : Int)) l (l.length : Int) i need lim 2 need hm2 (.inr rfl) (by omega) (by omega) (by omega) _ next
      rw [show k + 3 * j + 2 + 2 = k + 3 * j + 1 + 3 by omega]
      by_cases hg : (i : Int) + 1 + first ≥ need
      · rw [if_pos hg, if_pos rfl]; exact g
      · rw [if_neg hg, if_pos rfl]; exact g
    · rw [e]
      dsimp only
      have hm2 : Md.may 1 (cntR st cnt last from_ lead) from_ need lim = true := (may_iff _ _ _ _ _).2 ⟨by omega, .inr (.inl ⟨rfl, by omega, hlt⟩)⟩
      have hcnt : (i : Int) + 1 + first ≤ cntR st cnt last from_ lead := by
        rcases h4 with ⟨hi0, hl0⟩ | ⟨_, ha, hb, hc | ⟨hc, hd⟩⟩
        · omega
        · exact absurd hc hn2
        · have := cntR_next (lead := lead) (cnt := cnt) ⟨hc, ha, hb⟩; omega
      rw [if_pos rfl, may_f, hm2, Option.bind_some, if_pos rfl, if_pos rfl, w64 (i + 1) (by omega), w64 ((i : Int) + 1 + first) (by omega), if_neg (by omega), if_neg (by decide)]
      have next : remontoirelaw24_ModeLocks.l0 (k + 3 * j + 1 + 2) (from_ + rd l (i : Int)) 0 first l (l.length : Int) ((i : Int) + 1) 1 (cntR st cnt last from_ lead) from_ need lim = some true := by
        have := ih (i + 1) (from_ + rd l (i : Int)) 0 1 (cntR st cnt last from_ lead) from_ k (by omega) hm2 (by omega) (by omega) (.inr ⟨rfl, by omega, by omega, .inr ⟨rfl, by omega⟩⟩)
        rw [show k + 3 * j + 1 + 2 = k + 3 * j + 3 by omega, show (i : Int) + 1 = ((i + 1 : Nat) : Int) by omega]
        exact this
      have g := lj3 (k + 3 * j + 1) from_ first (rd l (i : Int)) l (l.length : Int) i need lim 1 (cntR st cnt last from_ lead) hm2 (.inl rfl) (by omega) (by omega) (by omega) _ next
      rw [show k + 3 * j + 2 + 2 = k + 3 * j + 1 + 3 by omega]
      exact g

theorem ModeLocks (st cnt last need lim c lead : Int) (l : List Int) : ∃ k, remontoirelaw24_ModeLocks.f k st cnt last need lim c lead l = some true := by
  refine ⟨3 * l.length + 4, ?_⟩
  have jt : remontoirelaw24_ModeLocks.j0 (3 * l.length + 4) c lead l true st cnt last need lim = some true := by
    rw [show 3 * l.length + 4 = (3 * l.length + 3) + 1 by omega, remontoirelaw24_ModeLocks.j0, if_pos rfl]; rfl
  unfold remontoirelaw24_ModeLocks.f
  rw [may_f, Option.bind_some]
  by_cases hm : Md.may st cnt last need lim = true
  · rw [if_pos hm]
    by_cases h1 : c < last
    · rw [if_pos h1, jt]
    rw [if_neg h1]
    by_cases h2 : c > 1152921504606846976
    · rw [if_pos h2, jt]
    rw [if_neg h2]
    by_cases h3 : (l.length : Int) > 30
    · rw [if_pos h3, jt]
    rw [if_neg h3]
    by_cases h4 : lead < 0
    · rw [if_pos h4, jt]
    rw [if_neg h4]
    by_cases h5 : lead > 30
    · rw [decide_eq_true h5, jt]
    rw [decide_eq_false h5, show 3 * l.length + 4 = (3 * l.length + 3) + 1 by omega, remontoirelaw24_ModeLocks.j0, if_neg (by decide)]
    have := locks_loop l need lim lead (by omega) (by omega) l.length 0 c lead st cnt last 0 (by omega) hm (by omega) (by omega) (.inl ⟨rfl, rfl⟩)
    rw [show 0 + 3 * l.length + 3 = 3 * l.length + 3 by omega] at this
    exact this
  · rw [if_neg hm, jt]

theorem modeLocks_walk (st cnt last need lim c lead : Int) (a : Option Addr) (len cap : Nat) (z : List Int) (W : World) (w0 : (Lit.int .u8 st).wf = true) (w1 : (Lit.int .i64 cnt).wf = true) (w2 : (Lit.int .i64 last).wf = true) (w3 : (Lit.int .i64 need).wf = true) (w4 : (Lit.int .i64 lim).wf = true)
    (w5 : (Lit.int .i64 c).wf = true) (w6 : (Lit.int .i64 lead).wf = true)
    (w7 : (a = none ∧ len = 0 ∧ cap = 0 ∧ z = []) ∨ ∃ x, a = some x ∧ len ≤ cap ∧ cap ≤ maxLen ∧ z.length = cap ∧ (∀ i, i < z.length → W.cell? (x.add i) = some (.int .i64 (z.getD i 0))) ∧ ∀ n ∈ z, (Lit.int .i64 n).wf = true) (y : len * 8 ≤ 140737488351232) :
    Calls Try.prog 8 #[.agg #[.int .u8 st, .int .i64 cnt, .int .i64 last], .agg #[.int .i64 need, .int .i64 lim], .int .i64 c, .int .i64 lead, .slice a len cap] W fun e W' => e = .returned (.bool true) ∧ Below W.heap.size W W' := by
  obtain ⟨l, rfl, hr, hm, hw, hc⟩ := ReadsInt.ofRowC w7
  obtain ⟨k, hk⟩ := ModeLocks st cnt last need lim c lead l
  exact remontoirelaw24_ModeLocks.calls k st cnt last need lim c lead _ _ l true W (Kd.C_of_reads (d := (0 : Int)) (h1 := fun _ => rfl) hr) hc hk
end Go.Proofs.Ytjldkgcabombhaa.Pure
