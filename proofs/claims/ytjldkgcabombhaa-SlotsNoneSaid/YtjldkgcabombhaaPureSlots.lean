/- Plain facts for law27's known: the slots of a file behind its writes. -/
import Derived.Test.YtjldkgcabombhaaPureRecDec
import Derived.Test.YtjldkgcabombhaaHS7
namespace Go.Proofs.Ytjldkgcabombhaa.Rec
set_option linter.unusedVariables false
open Go.RowKit Go.Proofs.Ytjldkgcabombhaa Go.Proofs.Ytjldkgcabombhaa.QJ Go.Proofs.YtjldkgcabombhaaW.PrintWords Go.Proofs.YtjldkgcabombhaaW.PrintLast Go.Proofs.YtjldkgcabombhaaW.PrintMore

theorem zero_bytes (n : Nat) : Bytes (List.replicate n 0) := fun x hx => by
  obtain ⟨_, rfl⟩ := List.mem_replicate.mp hx
  omega
theorem zero_fold : fold 4294967295 (List.replicate 60 (0 : Int)) ≠ 4294967295 := by decide +kernel
theorem dec_six {l : List Int} (h : (Rd.dec l).2.2.2.2 = 6) : Rd.dec l = (0, 0, 0, 0, 6) := by
  unfold Rd.dec at h ⊢
  by_cases c1 : (l.length : Int) < 64
  · rw [if_pos c1] at h; cases h
  rw [if_neg c1] at h ⊢
  by_cases c2 : 64 < (l.length : Int)
  · rw [if_pos c2] at h; cases h
  rw [if_neg c2] at h ⊢
  by_cases c3 : Rd.num (Rd.part l 60 4) ≠ IntKind.u64.wrap (Cr.sum (l.take 60))
  · rw [if_pos c3]
  rw [if_neg c3] at h
  by_cases c4 : Rd.form l = false
  · rw [if_pos c4] at h; cases h
  · rw [if_neg c4] at h; cases h
theorem zero_dec : (Rd.dec (List.replicate 64 0)).2.2.2.2 = 6 := by
  have hs := sum_nat (zero_bytes 60)
  have hb := sum_bd (zero_bytes 60)
  have hz := zero_fold
  have hl : (List.replicate 64 (0 : Int)).length = 64 := List.length_replicate
  have ep : Rd.part (List.replicate 64 0) 60 4 = List.replicate 4 0 := by decide +kernel
  have et : (List.replicate 64 (0 : Int)).take 60 = List.replicate 60 0 := by decide +kernel
  have en : Rd.num (List.replicate 4 0) = 0 := by
    rw [num_eq _ (by decide) (zero_bytes 4)]
    decide +kernel
  have eu : IntKind.u64.wrap (Cr.sum (List.replicate 60 0)) = Cr.sum (List.replicate 60 0) := u64s _ (by omega)
  unfold Rd.dec
  rw [if_neg (by omega), if_neg (by omega), ep, et, en, eu, if_pos (by rw [hs.1]; omega)]
/-! ### halves -/
theorem half00 (s : Fs) (xs : List Int) (hx : xs.length = 64) : ((s.lay 0 xs).b.drop 0).take 64 = xs := by
  show ((s.b.take 0 ++ xs ++ s.b.drop (0 + xs.length)).drop 0).take 64 = xs
  rw [List.drop_zero, List.take_zero, List.nil_append, List.take_left' hx]
theorem half01 (s : Fs) (xs : List Int) (hx : xs.length ≤ 64) : ((s.lay 0 xs).b.drop 64).take 64 = (s.b.drop 64).take 64 := by
  show ((s.b.take 0 ++ xs ++ s.b.drop (0 + xs.length)).drop 64).take 64 = _
  rw [List.take_zero, List.nil_append, List.drop_append, List.drop_of_length_le (by omega), List.nil_append, List.drop_drop]
  congr 2
  omega
theorem half10 (s : Fs) (xs : List Int) (hb : 64 ≤ s.b.length) : ((s.lay 64 xs).b.drop 0).take 64 = (s.b.drop 0).take 64 := by
  show ((s.b.take 64 ++ xs ++ s.b.drop (64 + xs.length)).drop 0).take 64 = _
  rw [List.drop_zero, List.append_assoc, List.take_left' (by rw [List.length_take]; omega), List.drop_zero]
theorem half11 (s : Fs) (xs : List Int) (hb : 64 ≤ s.b.length) (hx : xs.length = 64) : ((s.lay 64 xs).b.drop 64).take 64 = xs := by
  show ((s.b.take 64 ++ xs ++ s.b.drop (64 + xs.length)).drop 64).take 64 = _
  rw [List.append_assoc, List.drop_left' (by rw [List.length_take]; omega), List.take_left' hx]
theorem half0t (s : Fs) (ys : List Int) (hy : ys.length ≤ 64) : ((s.lay 0 ys).b.drop 0).take 64 = ys ++ ((s.b.drop 0).take 64).drop ys.length := by
  show ((s.b.take 0 ++ ys ++ s.b.drop (0 + ys.length)).drop 0).take 64 = _
  rw [List.drop_zero, List.drop_zero, List.take_zero, List.nil_append, Nat.zero_add, List.take_append, List.take_of_length_le hy, List.drop_take]
/-- The torn first slot of law27's example. -/
theorem torn_slot : (Rc.enc 3 7 0 0).take 10 ++ (Rc.enc 1 5 0 0).drop 10 = (Rc.enc 1 5 0 0).set 7 3 := by
  have h3 : (Rc.enc 3 7 0 0).take 10 = [82, 77, 84, 82, 0, 0, 0, 3, 0, 0] := by
    have : (Rc.enc 3 7 0 0).take 10 = ((Rc.enc 3 7 0 0).take 60).take 10 := by
      rw [List.take_take]
      rfl
    rw [this, enc_take]
    decide +kernel
  have h1 : (Rc.enc 1 5 0 0).take 10 = [82, 77, 84, 82, 0, 0, 0, 1, 0, 0] := by
    have : (Rc.enc 1 5 0 0).take 10 = ((Rc.enc 1 5 0 0).take 60).take 10 := by
      rw [List.take_take]
      rfl
    rw [this, enc_take]
    decide +kernel
  have hs : (Rc.enc 1 5 0 0).set 7 3 = ((Rc.enc 1 5 0 0).take 10 ++ (Rc.enc 1 5 0 0).drop 10).set 7 3 := by rw [List.take_append_drop]
  rw [hs, h3, h1, List.set_append_left _ _ (by decide)]
  rfl
theorem torn_dec : (Rd.dec ((Rc.enc 3 7 0 0).take 10 ++ (Rc.enc 1 5 0 0).drop 10)).2.2.2.2 = 6 := by
  rw [torn_slot]
  have h1 : (Rc.enc 1 5 0 0).take 10 = [82, 77, 84, 82, 0, 0, 0, 1, 0, 0] := by
    have : (Rc.enc 1 5 0 0).take 10 = ((Rc.enc 1 5 0 0).take 60).take 10 := by
      rw [List.take_take]
      rfl
    rw [this, enc_take]
    decide +kernel
  refine dec_torn 1 5 0 0 7 (by decide) 3 (by decide) ?_
  rw [← rd_take _ 10 7 (by decide), h1]
  decide
end Go.Proofs.Ytjldkgcabombhaa.Rec
