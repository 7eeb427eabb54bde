/- The plain laws of ModeParts and ModeLocks: over all numbers the Lean functions that were printed out of the Go laws come to true; and from them the walks of the Go laws. -/
import Derived.Test.YtjldkgcabombhaaPureMode
import Derived.Test.YtjldkgcabombhaaQNx2
import Derived.Test.YtjldkgcabombhaaQNx3
namespace Go.Proofs.Ytjldkgcabombhaa.Pure
set_option linter.unusedVariables false
open Go.RowKit Go.Proofs.Ytjldkgcabombhaa Go.Proofs.Ytjldkgcabombhaa.QM Go.Proofs.Ytjldkgcabombhaa.QN Go.Proofs.YtjldkgcabombhaaW.PrintWords Go.Proofs.YtjldkgcabombhaaW.PrintLast

theorem passR_cases (st cnt last lim c b : Int) : ((st = 0 ∨ st = 4) ∧ passR st cnt last lim c b = (st, cnt, last)) ∨
    (¬ (st = 0 ∨ st = 4) ∧ (lim < b ∨ (st = 1 ∧ 2500000000 < c - last)) ∧ passR st cnt last lim c b = (4, 0, last)) ∨
    (¬ (st = 0 ∨ st = 4) ∧ ¬ (lim < b ∨ (st = 1 ∧ 2500000000 < c - last)) ∧ 2500000000 < c - last ∧ passR st cnt last lim c b = (3, cnt, last)) ∨
    (¬ (st = 0 ∨ st = 4) ∧ ¬ (lim < b ∨ (st = 1 ∧ 2500000000 < c - last)) ∧ ¬ 2500000000 < c - last ∧ passR st cnt last lim c b = (st, cnt, last)) := by
  unfold passR
  by_cases s0 : st = 0 ∨ st = 4
  · exact .inl ⟨s0, if_pos s0⟩
  rw [if_neg s0]
  by_cases hu : lim < b ∨ (st = 1 ∧ 2500000000 < c - last)
  · exact .inr (.inl ⟨s0, hu, if_pos hu⟩)
  rw [if_neg hu]
  by_cases hl : 2500000000 < c - last
  · exact .inr (.inr (.inl ⟨s0, hu, hl, if_pos hl⟩))
  · exact .inr (.inr (.inr ⟨s0, hu, hl, if_neg hl⟩))
theorem passR_may {st cnt last need lim c b : Int} (hm : Md.may st cnt last need lim = true) :
    Md.may (passR st cnt last lim c b).1 (passR st cnt last lim c b).2.1 (passR st cnt last lim c b).2.2 need lim = true := by
  have hq := (may_iff _ _ _ _ _).1 hm
  rw [may_iff]
  rcases passR_cases st cnt last lim c b with ⟨_, e⟩ | ⟨_, _, e⟩ | ⟨h1, h2, h3, e⟩ | ⟨_, _, _, e⟩
  · rw [e]; exact hq
  · rw [e]; exact ⟨hq.1, by dsimp only; omega⟩
  · rw [e]; exact ⟨hq.1, by dsimp only; omega⟩
  · rw [e]; exact hq
theorem passR_last (st cnt last lim c b : Int) : (passR st cnt last lim c b).2.2 = last := by
  rcases passR_cases st cnt last lim c b with ⟨_, e⟩ | ⟨_, _, e⟩ | ⟨_, _, _, e⟩ | ⟨_, _, _, e⟩ <;> rw [e]
theorem passR_parts {st cnt last need lim c d b f : Int} (hm : Md.may st cnt last need lim = true) (h2 : c ≤ d) (h3 : b ≤ f) :
    passR (passR st cnt last lim c b).1 (passR st cnt last lim c b).2.1 last lim d f = passR st cnt last lim d f := by
  have hq := (may_iff _ _ _ _ _).1 hm
  rcases passR_cases st cnt last lim c b with ⟨s0, e⟩ | ⟨s0, hu, e⟩ | ⟨s0, hu, hl, e⟩ | ⟨s0, hu, hl, e⟩
  · rw [e]
  · rw [e]
    rw [show passR st cnt last lim d f = (4, 0, last) by unfold passR; rw [if_neg s0, if_pos (by omega)]]
    exact if_pos (.inr rfl)
  · rw [e]
    show passR 3 cnt last lim d f = _
    by_cases hf : lim < f
    · rw [show passR 3 cnt last lim d f = (4, 0, last) by unfold passR; rw [if_neg (by omega), if_pos (.inl hf)], show passR st cnt last lim d f = (4, 0, last) by unfold passR; rw [if_neg s0, if_pos (.inl hf)]]
    · rw [show passR 3 cnt last lim d f = (3, cnt, last) by unfold passR; rw [if_neg (by omega), if_neg (by omega), if_pos (by omega)], show passR st cnt last lim d f = (3, cnt, last) by unfold passR; rw [if_neg s0, if_neg (by omega), if_pos (by omega)]]
  · rw [e]
theorem passR_serves {st cnt last lim d f : Int} (h : ¬ (st = 2 ∨ st = 3)) (hm : st = 0 ∨ st = 1 ∨ st = 4) : ((passR st cnt last lim d f).1 == 2 || (passR st cnt last lim d f).1 == 3) = false := by
  unfold passR
  by_cases s0 : st = 0 ∨ st = 4
  · rw [if_pos s0]; simp; omega
  rw [if_neg s0]
  by_cases hu : lim < f ∨ (st = 1 ∧ 2500000000 < d - last)
  · rw [if_pos hu]; rfl
  rw [if_neg hu, if_neg (by omega)]; simp; omega

theorem ModeParts (st cnt last need lim c d b f : Int) (wc : -9223372036854775808 ≤ c ∧ c ≤ 9223372036854775807) (wd : -9223372036854775808 ≤ d ∧ d ≤ 9223372036854775807) :
    remontoirelaw24_ModeParts.f 3 st cnt last need lim c d b f = some true := by
  have jt : remontoirelaw24_ModeParts.j0 3 c d b f true st cnt last need lim = some true := by
    rw [remontoirelaw24_ModeParts.j0, if_pos rfl]; rfl
  unfold remontoirelaw24_ModeParts.f
  rw [may_f, Option.bind_some]
  by_cases hm : Md.may st cnt last need lim = true
  · rw [if_pos hm]
    by_cases h1 : c < last
    · rw [if_pos h1, jt]
    rw [if_neg h1]
    by_cases h2 : d < c
    · rw [if_pos h2, jt]
    rw [if_neg h2]
    by_cases h3 : f < b
    · rw [decide_eq_true h3, jt]
    rw [decide_eq_false h3, remontoirelaw24_ModeParts.j0, if_neg (by decide)]
    have hx := passR_may (c := c) (b := b) hm
    have hz := passR_may (c := d) (b := f) hm
    rw [passed_yes 0 _ _ _ _ _ _ _ hm (by omega) wc.2, Option.bind_some]
    dsimp only
    rw [passed_yes 0 _ _ _ _ _ _ _ hx (by rw [passR_last]; omega) wd.2, Option.bind_some, passed_yes 0 _ _ _ _ _ _ _ hm (by omega) wd.2, Option.bind_some]
    dsimp only
    rw [passR_last st cnt last lim c b, passR_parts (c := c) (d := d) (b := b) (f := f) hm (by omega) (by omega), if_pos rfl, if_pos rfl, if_pos rfl]
    simp only [beq_self_eq_true, Bool.and_self, if_true, may_f, hz, Option.bind_some, serves_f]
    by_cases hs : st = 2 ∨ st = 3
    · have : (st == 2 || st == 3) = true := by simp; exact hs
      rw [this]
      split <;> rfl
    · have hq := (may_iff _ _ _ _ _).1 hm
      rw [passR_serves hs (by omega)]
      rfl
  · rw [if_neg hm, jt]

theorem modeParts_walk (st cnt last need lim c d b f : Int) (W : World) (w0 : (Lit.int .u8 st).wf = true) (w1 : (Lit.int .i64 cnt).wf = true) (w2 : (Lit.int .i64 last).wf = true) (w3 : (Lit.int .i64 need).wf = true) (w4 : (Lit.int .i64 lim).wf = true)
    (w5 : (Lit.int .i64 c).wf = true) (w6 : (Lit.int .i64 d).wf = true) (w7 : (Lit.int .i64 b).wf = true) (w8 : (Lit.int .i64 f).wf = true) :
    Calls Try.prog 7 #[.agg #[.int .u8 st, .int .i64 cnt, .int .i64 last], .agg #[.int .i64 need, .int .i64 lim], .int .i64 c, .int .i64 d, .int .i64 b, .int .i64 f] W fun e W' => e = .returned (.bool true) ∧ Below W.heap.size W W' :=
  remontoirelaw24_ModeParts.calls 3 st cnt last need lim c d b f true W (ModeParts st cnt last need lim c d b f (bounds_i64 w5) (bounds_i64 w6))
end Go.Proofs.Ytjldkgcabombhaa.Pure
