/- Plain laws of the document's Decode: it answers as record.Decode does; what it reads has its own bytes. -/
import Derived.Test.YtjldkgcabombhaaPureRecDec
import Derived.Test.YtjldkgcabombhaaQKx1
namespace Go.Proofs.Ytjldkgcabombhaa.Rec
set_option linter.unusedVariables false
open Go.RowKit Go.Proofs.Ytjldkgcabombhaa Go.Proofs.Ytjldkgcabombhaa.QJ Go.Proofs.Ytjldkgcabombhaa.QK Go.Proofs.YtjldkgcabombhaaW.PrintWords Go.Proofs.YtjldkgcabombhaaW.PrintLast Go.Proofs.YtjldkgcabombhaaW.PrintMore

/-- The four numbers that such bytes tell. -/
def n0 (l : List Int) : Int := nv (Rd.part l 4 4) % 4294967296
def n1 (l : List Int) : Int := wrap64 (nv (Rd.part l 8 8))
def n2 (l : List Int) : Int := wrap64 (nv (Rd.part l 16 8))
def n3 (l : List Int) : Int := wrap64 (nv (Rd.part l 24 8))
theorem plen (l : List Int) (hl : 60 ≤ l.length) (a s : Nat) (h : a + s ≤ 60) : (Rd.part l (a : Int) (s : Int)).length = s := part_length l a s (by omega)
theorem head_n {l : List Int} (hb : Bytes l) (hl : 60 ≤ l.length) : Rc.head (n0 l) (n1 l) (n2 l) (n3 l) = [82, 77, 84, 82] ++ (Rd.part l 4 4 ++ (Rd.part l 8 8 ++ (Rd.part l 16 8 ++ (Rd.part l 24 8 ++ Rd.zeros)))) := by
  have l4 : (Rd.part l 4 4).length = 4 := plen l hl 4 4 (by decide)
  have l8 : (Rd.part l 8 8).length = 8 := plen l hl 8 8 (by decide)
  have l16 : (Rd.part l 16 8).length = 8 := plen l hl 16 8 (by decide)
  have l24 : (Rd.part l 24 8).length = 8 := plen l hl 24 8 (by decide)
  have b4 := nv_bd _ (bytes_part hb 4 4)
  have b8 := nv_bd _ (bytes_part hb 8 8)
  have b16 := nv_bd _ (bytes_part hb 16 8)
  have b24 := nv_bd _ (bytes_part hb 24 8)
  rw [l4, pow4] at b4
  rw [l8, pow8] at b8
  rw [l16, pow8] at b16
  rw [l24, pow8] at b24
  have e0 : Rc.u64 (n0 l) = nv (Rd.part l 4 4) := by
    unfold n0
    rw [u64_u32 (by omega)]
    omega
  have e1 : Rc.u64 (n1 l) = nv (Rd.part l 8 8) := u64_wrap b8
  have e2 : Rc.u64 (n2 l) = nv (Rd.part l 16 8) := u64_wrap b16
  have e3 : Rc.u64 (n3 l) = nv (Rd.part l 24 8) := u64_wrap b24
  rw [head_eq, e0, e1, e2, e3, be_nv 4 _ l4 (bytes_part hb 4 4), be_nv 8 _ l8 (bytes_part hb 8 8), be_nv 8 _ l16 (bytes_part hb 16 8), be_nv 8 _ l24 (bytes_part hb 24 8)]
/-- The document's test (its bytes are these) is the program's (the mark, and noughts). -/
theorem head_form {l : List Int} (hb : Bytes l) (hl : 60 ≤ l.length) : Rc.head (n0 l) (n1 l) (n2 l) (n3 l) = l.take 60 ↔ Rd.form l = true := by
  rw [head_n hb hl, split60, form_iff hb]
  constructor
  · intro h
    obtain ⟨h1, h⟩ := List.append_inj h (by rw [List.length_take]; simp; omega)
    have h2 := List.append_cancel_left (List.append_cancel_left (List.append_cancel_left (List.append_cancel_left h)))
    exact ⟨h1.symm, h2.symm⟩
  · rintro ⟨h1, h2⟩
    rw [h1, h2]
theorem drop_part {l : List Int} (hl : l.length = 64) : l.drop 60 = Rd.part l 60 4 := by
  unfold Rd.part
  rw [show ((60 : Int) + 4).toNat = 64 from rfl, show (60 : Int).toNat = 60 from rfl, List.take_of_length_le (by omega)]
/-- Bytes that are read are their record's. -/
theorem enc_dec {l : List Int} (hb : Bytes l) (h : (Rd.dec l).2.2.2.2 = 0) : l.length = 64 ∧ Rd.dec l = (n0 l, n1 l, n2 l, n3 l, 0) ∧ Rc.enc (n0 l) (n1 l) (n2 l) (n3 l) = l := by
  unfold Rd.dec at h ⊢
  by_cases c1 : (l.length : Int) < 64
  · rw [if_pos c1] at h; cases h
  rw [if_neg c1] at h ⊢
  by_cases c2 : 64 < (l.length : Int)
  · rw [if_pos c2] at h; cases h
  rw [if_neg c2] at h ⊢
  have hl : l.length = 64 := by omega
  by_cases c3 : Rd.num (Rd.part l 60 4) ≠ IntKind.u64.wrap (Cr.sum (l.take 60))
  · rw [if_pos c3] at h; cases h
  rw [if_neg c3] at h ⊢
  by_cases c4 : Rd.form l = false
  · rw [if_pos c4] at h; cases h
  rw [if_neg c4]
  have hf : Rd.form l = true := by simpa using c4
  have l4 : (Rd.part l 4 4).length = 4 := plen l (by omega) 4 4 (by decide)
  have l8 : (Rd.part l 8 8).length = 8 := plen l (by omega) 8 8 (by decide)
  have l16 : (Rd.part l 16 8).length = 8 := plen l (by omega) 16 8 (by decide)
  have l24 : (Rd.part l 24 8).length = 8 := plen l (by omega) 24 8 (by decide)
  have l60 : (Rd.part l 60 4).length = 4 := part_length l 60 4 (by omega)
  have hh := (head_form hb (by omega)).mpr hf
  have hs : Rd.num (Rd.part l 60 4) = Rc.u64 (Cr.sum (l.take 60)) := Classical.byContradiction c3
  refine ⟨hl, ?_, ?_⟩
  · rw [num_eq _ (by rw [l4]; decide) (bytes_part hb 4 4), num_eq _ (by rw [l8]; decide) (bytes_part hb 8 8), num_eq _ (by rw [l16]; decide) (bytes_part hb 16 8), num_eq _ (by rw [l24]; decide) (bytes_part hb 24 8), IntKind.wrap_u32]
    rfl
  · unfold Rc.enc
    rw [hh, ← hs, num_eq _ (by rw [l60]; decide) (bytes_part hb 60 4), be_nv 4 _ l60 (bytes_part hb 60 4), ← drop_part hl, List.take_append_drop]

/-! ### the loop over the bytes -/
theorem take_snoc_rd {l : List Int} {q : Nat} (h : q < l.length) : l.take (q + 1) = l.take q ++ [rd l (q : Int)] := by
  rw [List.take_succ_eq_append_getElem h]
  unfold rd
  rw [Int.toNat_natCast, List.getD_eq_getElem?_getD, List.getElem?_eq_getElem h]
  rfl
theorem same_tells (l want : List Int) (hl : l.length = 64) (hw : want.length = 64) (a0 a1 a2 a3 : Int) : Ev (fun k => remontoireref26_Decode.l0 k l want 0 a0 a1 a2 a3) (if want.take 60 = l.take 60 then (a0, a1, a2, a3, 0) else (0, 0, 0, 0, 5)) := by
  have key : ∀ j q, q + j = 60 → want.take q = l.take q → Ev (fun k => remontoireref26_Decode.l0 k l want (q : Int) a0 a1 a2 a3) (if want.take 60 = l.take 60 then (a0, a1, a2, a3, 0) else (0, 0, 0, 0, 5)) := by
    intro j
    induction j with
    | zero =>
      intro q h e
      obtain rfl : q = 60 := by omega
      rw [if_pos e]
      refine Ev.step (f := fun _ => some (a0, a1, a2, a3, 0)) (fun k => ?_) (Ev.now _)
      rw [remontoireref26_Decode.l0, if_neg (by omega)]
    | succ j ih =>
      intro q h e
      by_cases c : rd want (q : Int) = rd l (q : Int)
      · have e2 : want.take (q + 1) = l.take (q + 1) := by rw [take_snoc_rd (by omega), take_snoc_rd (by omega), e, c]
        refine Ev.step (fun k => ?_) (ih (q + 1) (by omega) e2)
        rw [remontoireref26_Decode.l0, if_pos (by omega), if_pos (by omega), if_pos (by omega), if_pos (by omega), if_pos c, i64s _ (by omega)]
        rfl
      · have hne : ¬ want.take 60 = l.take 60 := by
          intro h2
          have h3 := congrArg (fun t => rd t (q : Int)) h2
          rw [rd_take _ _ _ (by omega), rd_take _ _ _ (by omega)] at h3
          exact c h3
        rw [if_neg hne]
        refine Ev.step (f := fun _ => some (0, 0, 0, 0, 5)) (fun k => ?_) (Ev.now _)
        rw [remontoireref26_Decode.l0, if_pos (by omega), if_pos (by omega), if_pos (by omega), if_pos (by omega), if_neg c]
  exact key 60 0 (by omega) rfl
theorem rdec_tells (l : List Int) (hb : Bytes l) : Ev (fun k => remontoireref26_Decode.f k l) (Rd.dec l) := by
  unfold remontoireref26_Decode.f
  by_cases c1 : (l.length : Int) < 64
  · refine e_pos c1 ?_
    unfold Rd.dec
    rw [if_pos c1]
    exact Ev.now _
  refine e_neg c1 ?_
  by_cases c2 : (l.length : Int) > 64
  · refine e_pos c2 ?_
    unfold Rd.dec
    rw [if_neg c1, if_pos (show 64 < (l.length : Int) from c2)]
    exact Ev.now _
  refine e_neg c2 ?_
  have hl : l.length = 64 := by omega
  have l4 : (Rd.part l 4 4).length = 4 := plen l (by omega) 4 4 (by decide)
  have l8 : (Rd.part l 8 8).length = 8 := plen l (by omega) 8 8 (by decide)
  have l16 : (Rd.part l 16 8).length = 8 := plen l (by omega) 16 8 (by decide)
  have l24 : (Rd.part l 24 8).length = 8 := plen l (by omega) 24 8 (by decide)
  have l60 : (Rd.part l 60 4).length = 4 := part_length l 60 4 (by omega)
  refine e_pos (by decide) (e_pos (by omega) (Ev.bind (number_tells (Rd.part l 4 4) (by rw [l4]; decide) (bytes_part hb 4 4)) ?_))
  refine e_pos (by decide) (e_pos (by omega) (Ev.bind (number_tells (Rd.part l 8 8) (by rw [l8]; decide) (bytes_part hb 8 8)) ?_))
  refine e_pos (by decide) (e_pos (by omega) (Ev.bind (number_tells (Rd.part l 16 8) (by rw [l16]; decide) (bytes_part hb 16 8)) ?_))
  refine e_pos (by decide) (e_pos (by omega) (Ev.bind (number_tells (Rd.part l 24 8) (by rw [l24]; decide) (bytes_part hb 24 8)) ?_))
  refine Ev.bind (f := fun n t => _) (Ev.now (Rc.enc (n0 l) (n1 l) (n2 l) (n3 l))) ?_
  refine e_pos (by omega) (Ev.bind (number_tells (l.drop 60) (by rw [drop_part hl, l60]; decide) (bytes_drop hb 60)) ?_)
  refine Ev.bind (rcrc_tells (l.take 60) (bytes_take hb 60) (by rw [List.length_take]; omega)) ?_
  rw [drop_part hl]
  have en := num_eq (Rd.part l 60 4) (by rw [l60]; decide) (bytes_part hb 60 4)
  unfold Rd.dec
  rw [if_neg c1, if_neg (show ¬ 64 < (l.length : Int) from c2), en]
  by_cases c3 : nv (Rd.part l 60 4) = IntKind.u64.wrap (Cr.sum (l.take 60))
  · refine e_pos c3 ?_
    rw [if_neg (fun h => h c3)]
    have hs := same_tells l (Rc.enc (n0 l) (n1 l) (n2 l) (n3 l)) hl (enc_length ..) (n0 l) (n1 l) (n2 l) (n3 l)
    rw [enc_take] at hs
    by_cases c4 : Rd.form l = true
    · rw [if_pos ((head_form hb (by omega)).mpr c4)] at hs
      rw [if_neg (by rw [c4]; decide), num_eq _ (by rw [l4]; decide) (bytes_part hb 4 4), num_eq _ (by rw [l8]; decide) (bytes_part hb 8 8), num_eq _ (by rw [l16]; decide) (bytes_part hb 16 8), num_eq _ (by rw [l24]; decide) (bytes_part hb 24 8), IntKind.wrap_u32]
      exact hs
    · rw [if_neg (fun h => c4 ((head_form hb (by omega)).mp h))] at hs
      rw [if_pos (by simpa using c4)]
      exact hs
  · refine e_neg c3 ?_
    rw [if_pos c3]
    exact Ev.now _
end Go.Proofs.Ytjldkgcabombhaa.Rec
