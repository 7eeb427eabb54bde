/- The row of the law SlotsWhole: at every input it answers true, and its arguments read as they did. -/
import Derived.Test.YtjldkgcabombhaaRows
import Derived.Test.YtjldkgcabombhaaSWp0
import Derived.Test.YtjldkgcabombhaaSWp3
import Derived.WalkKit
import Derived.ProofKit
import Derived.OpenShut
import Derived.ShutString
import Derived.ChangeOld
import Derived.Below
import Derived.SizedLaws
import Derived.Carry
import Derived.Test.YtjldkgcabombhaaSWp1
import Derived.Test.YtjldkgcabombhaaSWp2
namespace Go.Proofs.Ytjldkgcabombhaa.slotsWhole
open Go.ChangeShapes Go.WideShapes Go.ChangeAt Go.RowKit Go.Proofs.Ytjldkgcabombhaa.Open
set_option linter.unusedVariables false
theorem own : ownKnob Try.prog.godebug = none := by kernel_rfl
theorem laidOut : laidOutB Try.prog = true := by kernel_rfl
set_option maxRecDepth 100000 in
theorem lifted (os : Os) (started : os.Started) (H : Type) (enc : TypeId × Value → H) :
    ReturnsInHanded {} Try.checked os 12 .any (Rows.slotsWholeSpec.pre6 enc Try.prog Try.f12 Rows.slotsWholeRow.domain false) (Rows.slotsWholeSpec.post enc Try.prog Try.f12 false true false false) := by
  refine returnsInHanded_of_change_sized (C := Try.checked) own started (by kernel_rfl) Try.func12
    (ChangeSpec.witness6 (enc := enc) (C := Try.checked) false ⟨#[], #[.slice none 0 0, .agg #[.int .u32 0, .int .i64 0, .int .i64 0, .int .i64 0], .int .i64 0], []⟩ 8 (by kernel_rfl) (by kernel_rfl) (by kernel_rfl) (by kernel_rfl)) ?_
  intro W base args ds gs before hval0 hW hcnd hsz0 _
  have hval : ∀ (j : Nat) t v, Try.f12.params[j]? = some t → args[j]? = some v → Value.okWide Try.prog W .any base t v := hval0
  have hW' := hW
  obtain ⟨p, q, hA0, hV, rfl, hfz, hnd⟩ := hW
  have hA : DataW.TrodAll enc Try.prog W 0 (fun _ => true) true Try.f12.params.toList args.toList ds p := hA0
  rw [Try.params12] at hA hval
  obtain ⟨v0, vs0, d0, ds0, p0, q0, hargs, rfl, rfl, h0, r0⟩ := trodAll_cons hA
  obtain ⟨v1, vs1, d1, ds1, p1, q1, rfl, rfl, rfl, h1, r1⟩ := trodAll_cons r0
  obtain ⟨v2, vs2, d2, ds2, p2, q2, rfl, rfl, rfl, h2, r2⟩ := trodAll_cons r1
  obtain ⟨rfl, rfl, rfl⟩ := trodAll_nil r2
  obtain rfl : args = #[v0, v1, v2] := by cases args; simp_all
  obtain ⟨rfl, rfl⟩ := trodVars_none hV
  have k0 := h0
  have lt0 : ∀ x ∈ p0, x.block < W.heap.size := by obtain ⟨m, hm⟩ := k0; exact DataW.trod_lt m _ _ _ hm
  obtain ⟨a0, len0, cap0, rfl⟩ := okWide_slice Try.underlying86 (hval 0 86 v0 rfl rfl)
  obtain ⟨l0, rfl, hC0, hG0⟩ := open_recs Try.underlying86 h0
  have k1 := h1
  have lt1 : ∀ x ∈ p1, x.block < W.heap.size := by obtain ⟨m, hm⟩ := k1; exact DataW.trod_lt m _ _ _ hm
  obtain ⟨cs1, rfl, hl1, hf1⟩ := flat_struct Try.underlying24 (by kernel_rfl) (by kernel_rfl) (hval 1 24 v1 rfl rfl) h1
  obtain ⟨c1_0, n1_0, y1_0, e1_0, t1_0⟩ := hf1 0 _ rfl
  obtain ⟨a1_0, rfl, w1_0⟩ := int_cell Try.underlying22 t1_0
  obtain ⟨c1_1, n1_1, y1_1, e1_1, t1_1⟩ := hf1 1 _ rfl
  obtain ⟨a1_1, rfl, w1_1⟩ := int_cell Try.underlying2 t1_1
  obtain ⟨c1_2, n1_2, y1_2, e1_2, t1_2⟩ := hf1 2 _ rfl
  obtain ⟨a1_2, rfl, w1_2⟩ := int_cell Try.underlying2 t1_2
  obtain ⟨c1_3, n1_3, y1_3, e1_3, t1_3⟩ := hf1 3 _ rfl
  obtain ⟨a1_3, rfl, w1_3⟩ := int_cell Try.underlying2 t1_3
  obtain rfl := list_four (hl1.trans rfl) e1_0 e1_1 e1_2 e1_3
  have k2 := h2
  have lt2 : ∀ x ∈ p2, x.block < W.heap.size := by obtain ⟨m, hm⟩ := k2; exact DataW.trod_lt m _ _ _ hm
  obtain ⟨a2, rfl, rfl, rfl, w2⟩ := open_int Try.underlying3 (hval 2 3 v2 rfl rfl) h2
  clear hA0 hval0 hsz0
  refine (Go.Proofs.Ytjldkgcabombhaa.Ww.slotsWhole_walk a0 cap0 l0 a1_0 a1_1 a1_2 a1_3 a2 W hC0 hG0 w1_0 w1_1 w1_2 w1_3 w2).mono fun e W' ⟨he, bel⟩ => ?_
  subst he
  exact ⟨_, rfl, _, _, _, [], _, [], hW', trodAll_mk1 (shut_bool Try.underlying4 _), (trodAll_cons_mk (Below.trod laidOut (by kernel_rfl) (of_decide_eq_true (by kernel_rfl)) k0 bel lt0) (trodAll_cons_mk (Below.trod laidOut (by kernel_rfl) (of_decide_eq_true (by kernel_rfl)) k1 bel lt1) (trodAll_cons_mk (Below.trod laidOut (by kernel_rfl) (of_decide_eq_true (by kernel_rfl)) k2 bel lt2) trodAll_mk0))), rfl, bel.frame _, fun h => by cases h⟩
theorem over : Rows.slotsWholeRow.holds Try.pinned (OpenSpec.ofChange Rows.slotsWholeSpec) :=
  OpenClaim.holds_of_wide 12 Try.f12 rfl rfl rfl rfl rfl rfl rfl ⟨rfl, rfl, rfl, rfl, rfl⟩ rfl rfl rfl rfl rfl (by kernel_rfl) Try.func12 (by kernel_rfl)
    (of_decide_eq_true (by kernel_rfl)) (by unfold Func.isWrapper; first | (rw [if_pos (by decide +kernel)]; kernel_rfl) | (rw [if_neg (by decide +kernel)]; exact ⟨rfl, rfl⟩))
    (fun os started H enc _ => lifted os started H enc)
theorem proved : Rows.SlotsWholeSaid := over
#print axioms proved
end Go.Proofs.Ytjldkgcabombhaa.slotsWhole
namespace Go.Proofs.Ytjldkgcabombhaa
/-- The row, under a short name, for the claim. -/
theorem slotsWhole_holds : Rows.SlotsWholeSaid := slotsWhole.proved
end Go.Proofs.Ytjldkgcabombhaa
