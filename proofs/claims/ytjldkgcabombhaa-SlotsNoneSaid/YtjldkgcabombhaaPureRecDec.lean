/- Plain laws of the record: its bytes are read back; torn bytes are not. -/
import Derived.Test.YtjldkgcabombhaaHF
namespace Go.Proofs.Ytjldkgcabombhaa.Rec
set_option linter.unusedVariables false
open Go.RowKit Go.Proofs.Ytjldkgcabombhaa Go.Proofs.Ytjldkgcabombhaa.QJ Go.Proofs.YtjldkgcabombhaaW.PrintWords Go.Proofs.YtjldkgcabombhaaW.PrintLast Go.Proofs.YtjldkgcabombhaaW.PrintMore

theorem str_inj : ∀ (a b : List Int), Bytes a → Bytes b → Lib.bytesOf a = Lib.bytesOf b → a = b
  | [], [], _, _, _ => rfl
  | [], y :: t, _, _, h => by cases h
  | x :: s, [], _, _, h => by cases h
  | x :: s, y :: t, ha, hb, h => by
    obtain ⟨hx, hs⟩ := bytes_cons ha
    obtain ⟨hy, ht⟩ := bytes_cons hb
    unfold Lib.bytesOf at h
    rw [List.map_cons, List.map_cons] at h
    obtain ⟨h1, h2⟩ := List.cons.inj h
    have e := congrArg UInt8.toNat h1
    rw [UInt8.toNat_ofNat', UInt8.toNat_ofNat'] at e
    rw [str_inj s t hs ht h2, show x = y by omega]
theorem bytes_take {l : List Int} (h : Bytes l) (n : Nat) : Bytes (l.take n) := fun x hx => h x (List.mem_of_mem_take hx)
theorem bytes_drop {l : List Int} (h : Bytes l) (n : Nat) : Bytes (l.drop n) := fun x hx => h x (List.mem_of_mem_drop hx)
theorem bytes_part {l : List Int} (h : Bytes l) (a s : Int) : Bytes (Rd.part l a s) := bytes_drop (bytes_take h _) _
theorem part_length (l : List Int) (a s : Nat) (h : a + s ≤ l.length) : (Rd.part l (a : Int) (s : Int)).length = s := by
  unfold Rd.part
  rw [List.length_drop, List.length_take]
  omega
theorem form_iff {l : List Int} (h : Bytes l) : Rd.form l = true ↔ l.take 4 = [82, 77, 84, 82] ∧ Rd.part l 32 28 = Rd.zeros := by
  have m : ([82, 77, 84, 82] : List UInt8) = Lib.bytesOf [82, 77, 84, 82] := rfl
  unfold Rd.form
  rw [Bool.and_eq_true, beq_iff_eq, beq_iff_eq, m, Lib.strOfNums_toList, Lib.strOfNums_toList, Lib.strOfNums_toList]
  refine ⟨fun ⟨h1, h2⟩ => ⟨str_inj _ _ (bytes_take h 4) ?_ h1, str_inj _ _ (bytes_part h _ _) ?_ h2⟩, fun ⟨h1, h2⟩ => ⟨by rw [h1], by rw [h2]⟩⟩
  · intro x hx
    simp at hx
    omega
  · intro x hx
    obtain ⟨_, rfl⟩ := List.mem_replicate.mp hx
    omega
theorem part_of (X Y T : List Int) (a s : Nat) (hX : X.length = a) (hY : Y.length = s) : Rd.part (X ++ (Y ++ T)) (a : Int) (s : Int) = Y := by
  unfold Rd.part
  rw [show ((a : Int) + (s : Int)).toNat = a + s by omega, Int.toNat_natCast, ← List.append_assoc, List.take_left' (by rw [List.length_append]; omega), List.drop_left' hX]
theorem part_join (l : List Int) (a s : Nat) : l.take a ++ Rd.part l (a : Int) (s : Int) = l.take (a + s) := by
  unfold Rd.part
  rw [show ((a : Int) + (s : Int)).toNat = a + s by omega, Int.toNat_natCast]
  have := List.take_append_drop a (l.take (a + s))
  rwa [List.take_take, show min a (a + s) = a by omega] at this
theorem part_take (l : List Int) (a s n : Nat) (h : a + s ≤ n) : Rd.part (l.take n) (a : Int) (s : Int) = Rd.part l (a : Int) (s : Int) := by
  unfold Rd.part
  rw [show ((a : Int) + (s : Int)).toNat = a + s by omega, List.take_take, show min (a + s) n = a + s by omega]
theorem split60 (l : List Int) : l.take 60 = l.take 4 ++ (Rd.part l 4 4 ++ (Rd.part l 8 8 ++ (Rd.part l 16 8 ++ (Rd.part l 24 8 ++ Rd.part l 32 28)))) := by
  have h1 : l.take 4 ++ Rd.part l 4 4 = l.take 8 := part_join l 4 4
  have h2 : l.take 8 ++ Rd.part l 8 8 = l.take 16 := part_join l 8 8
  have h3 : l.take 16 ++ Rd.part l 16 8 = l.take 24 := part_join l 16 8
  have h4 : l.take 24 ++ Rd.part l 24 8 = l.take 32 := part_join l 24 8
  have h5 : l.take 32 ++ Rd.part l 32 28 = l.take 60 := part_join l 32 28
  rw [← h5, ← h4, ← h3, ← h2, ← h1]
  simp only [List.append_assoc]
theorem head_eq (a0 a1 a2 a3 : Int) : Rc.head a0 a1 a2 a3 = [82, 77, 84, 82] ++ (Rc.be 4 (Rc.u64 a0) ++ (Rc.be 8 (Rc.u64 a1) ++ (Rc.be 8 (Rc.u64 a2) ++ (Rc.be 8 (Rc.u64 a3) ++ Rd.zeros)))) := by
  have e : Rc.head a0 a1 a2 a3 = ((((([82, 77, 84, 82] ++ Rc.be 4 (Rc.u64 a0)) ++ Rc.be 8 (Rc.u64 a1)) ++ Rc.be 8 (Rc.u64 a2)) ++ Rc.be 8 (Rc.u64 a3)) ++ Rd.zeros) := rfl
  rw [e]
  simp only [List.append_assoc]
/-- The parts of such a head. -/
theorem head_parts {l : List Int} {a0 a1 a2 a3 : Int} (h : l.take 60 = Rc.head a0 a1 a2 a3) : l.take 4 = [82, 77, 84, 82] ∧ Rd.part l 4 4 = Rc.be 4 (Rc.u64 a0) ∧ Rd.part l 8 8 = Rc.be 8 (Rc.u64 a1) ∧ Rd.part l 16 8 = Rc.be 8 (Rc.u64 a2) ∧ Rd.part l 24 8 = Rc.be 8 (Rc.u64 a3) ∧ Rd.part l 32 28 = Rd.zeros := by
  have hl : 60 ≤ l.length := by
    have := congrArg List.length h
    rw [Rf.head_length, List.length_take] at this
    omega
  rw [split60, head_eq] at h
  obtain ⟨h1, h⟩ := List.append_inj h (by rw [List.length_take]; simp; omega)
  obtain ⟨h2, h⟩ := List.append_inj h ((part_length l 4 4 (by omega)).trans (Rc.be_length _ _).symm)
  obtain ⟨h3, h⟩ := List.append_inj h ((part_length l 8 8 (by omega)).trans (Rc.be_length _ _).symm)
  obtain ⟨h4, h⟩ := List.append_inj h ((part_length l 16 8 (by omega)).trans (Rc.be_length _ _).symm)
  obtain ⟨h5, h⟩ := List.append_inj h ((part_length l 24 8 (by omega)).trans (Rc.be_length _ _).symm)
  exact ⟨h1, h2, h3, h4, h5, h⟩

theorem num_be {n : Int} (s : Nat) (hs : s ≤ 8) (h0 : 0 ≤ n) (h1 : n < 256 ^ s) : Rd.num (Rc.be s n) = n := by
  rw [num_eq _ (by rw [Rc.be_length]; exact hs) (bytes_be _ _), nv_be s n h0 h1]
theorem u64_lt (n : Int) : Rc.u64 n < 256 ^ 8 := by
  have e : (256 : Int) ^ 8 = 18446744073709551616 := by decide
  have := Rf.u64 n
  rw [e]; omega
theorem u64_u32 {n : Int} (h : 0 ≤ n ∧ n < 4294967296) : Rc.u64 n = n := u64s n (by omega)
theorem wrap_u64 {n : Int} (h : -9223372036854775808 ≤ n ∧ n ≤ 9223372036854775807) : wrap64 (Rc.u64 n) = n := by
  unfold Rc.u64 wrap64
  simp [IntKind.wrap, IntKind.bits, IntKind.signed]
  omega
theorem u64_wrap {n : Int} (h : 0 ≤ n ∧ n < 18446744073709551616) : Rc.u64 (wrap64 n) = n := by
  unfold Rc.u64 wrap64
  simp [IntKind.wrap, IntKind.bits, IntKind.signed]
  omega
def Wf (a0 a1 a2 a3 : Int) : Prop := (0 ≤ a0 ∧ a0 < 4294967296) ∧ (-9223372036854775808 ≤ a1 ∧ a1 ≤ 9223372036854775807) ∧ (-9223372036854775808 ≤ a2 ∧ a2 ≤ 9223372036854775807) ∧ (-9223372036854775808 ≤ a3 ∧ a3 ≤ 9223372036854775807)
theorem pow4 : (256 : Int) ^ 4 = 4294967296 := by decide
theorem pow8 : (256 : Int) ^ 8 = 18446744073709551616 := by decide

/-! ### the record's bytes -/
theorem enc_length (a0 a1 a2 a3 : Int) : (Rc.enc a0 a1 a2 a3).length = 64 := by
  unfold Rc.enc
  rw [List.length_append, Rf.head_length, Rc.be_length]
theorem enc_bytes (a0 a1 a2 a3 : Int) : Bytes (Rc.enc a0 a1 a2 a3) := Rf.bytes_app (Rf.head_bytes a0 a1 a2 a3) (bytes_be _ _)
theorem enc_take (a0 a1 a2 a3 : Int) : (Rc.enc a0 a1 a2 a3).take 60 = Rc.head a0 a1 a2 a3 := List.take_left' (Rf.head_length ..)
theorem enc_part (a0 a1 a2 a3 : Int) : Rd.part (Rc.enc a0 a1 a2 a3) 60 4 = Rc.be 4 (Rc.u64 (Cr.sum (Rc.head a0 a1 a2 a3))) := by
  have := part_of (Rc.head a0 a1 a2 a3) (Rc.be 4 (Rc.u64 (Cr.sum (Rc.head a0 a1 a2 a3)))) [] 60 4 (Rf.head_length ..) (Rc.be_length _ _)
  rw [List.append_nil] at this
  exact this
theorem sum_u64 {l : List Int} (h : Bytes l) : Rc.u64 (Cr.sum l) = Cr.sum l := u64_u32 (sum_bd h)
theorem num_sum {l : List Int} (h : Bytes l) : Rd.num (Rc.be 4 (Rc.u64 (Cr.sum l))) = Rc.u64 (Cr.sum l) := by
  rw [sum_u64 h]
  have := sum_bd h
  exact num_be 4 (by decide) this.1 (by rw [pow4]; exact this.2)
theorem dec_enc {a0 a1 a2 a3 : Int} (w : Wf a0 a1 a2 a3) : Rd.dec (Rc.enc a0 a1 a2 a3) = (a0, a1, a2, a3, 0) := by
  obtain ⟨w0, w1, w2, w3⟩ := w
  have hl := enc_length a0 a1 a2 a3
  obtain ⟨p0, p1, p2, p3, p4, p5⟩ := head_parts (enc_take a0 a1 a2 a3)
  have hf := (form_iff (enc_bytes a0 a1 a2 a3)).mpr ⟨p0, p5⟩
  unfold Rd.dec
  rw [if_neg (by omega), if_neg (by omega), enc_part, enc_take, num_sum (Rf.head_bytes a0 a1 a2 a3), if_neg (fun h => h rfl), hf, if_neg (by decide), p1, p2, p3, p4,
    num_be 8 (by decide) (Rf.u64 a1).1 (u64_lt a1), num_be 8 (by decide) (Rf.u64 a2).1 (u64_lt a2), num_be 8 (by decide) (Rf.u64 a3).1 (u64_lt a3),
    wrap_u64 w1, wrap_u64 w2, wrap_u64 w3, u64_u32 w0, num_be 4 (by decide) w0.1 (by rw [pow4]; exact w0.2), IntKind.wrap_u32, show a0 % 4294967296 = a0 by omega]

/-! ### torn -/
theorem rd_take (l : List Int) (n q : Nat) (h : q < n) : rd (l.take n) (q : Int) = rd l (q : Int) := by
  unfold rd
  rw [Int.toNat_natCast, List.getD_eq_getElem?_getD, List.getD_eq_getElem?_getD, List.getElem?_take, if_pos h]
theorem dec_torn (a0 a1 a2 a3 : Int) (p : Nat) (hp : p < 64) (y : Int) (hy : 0 ≤ y ∧ y < 256) (hne : y ≠ rd (Rc.enc a0 a1 a2 a3) (p : Int)) : (Rd.dec ((Rc.enc a0 a1 a2 a3).set p y)).2.2.2.2 = 6 := by
  have hl := enc_length a0 a1 a2 a3
  have hl2 : ((Rc.enc a0 a1 a2 a3).set p y).length = 64 := by rw [List.length_set, hl]
  have hb := Rf.head_bytes a0 a1 a2 a3
  have hh := Rf.head_length a0 a1 a2 a3
  have key : Rd.num (Rd.part ((Rc.enc a0 a1 a2 a3).set p y) 60 4) ≠ IntKind.u64.wrap (Cr.sum (((Rc.enc a0 a1 a2 a3).set p y).take 60)) := by
    show _ ≠ Rc.u64 (Cr.sum _)
    rcases Nat.lt_or_ge p 60 with h | h
    · have e : (Rc.enc a0 a1 a2 a3).set p y = (Rc.head a0 a1 a2 a3).set p y ++ (Rc.be 4 (Rc.u64 (Cr.sum (Rc.head a0 a1 a2 a3))) ++ []) := by
        rw [List.append_nil]
        exact List.set_append_left _ _ (by rw [hh]; exact h)
      have hs : ((Rc.head a0 a1 a2 a3).set p y).length = 60 := by rw [List.length_set, hh]
      have e2 : Rd.part ((Rc.enc a0 a1 a2 a3).set p y) 60 4 = Rc.be 4 (Rc.u64 (Cr.sum (Rc.head a0 a1 a2 a3))) := by
        rw [e]
        exact part_of _ _ _ 60 4 hs (Rc.be_length _ _)
      have e3 : ((Rc.enc a0 a1 a2 a3).set p y).take 60 = (Rc.head a0 a1 a2 a3).set p y := by
        rw [e]
        exact List.take_left' hs
      rw [e2, e3, num_sum hb, sum_u64 hb, sum_u64 (bytes_set hb p hy)]
      refine fun h2 => sum_set hb p hy (by rw [hh]; exact h) ?_ h2.symm
      rw [← enc_take, rd_take _ _ _ h]
      exact hne
    · have e : (Rc.enc a0 a1 a2 a3).set p y = Rc.head a0 a1 a2 a3 ++ ((Rc.be 4 (Rc.u64 (Cr.sum (Rc.head a0 a1 a2 a3)))).set (p - 60) y ++ []) := by
        rw [List.append_nil]
        have := List.set_append_right (s := Rc.head a0 a1 a2 a3) (t := Rc.be 4 (Rc.u64 (Cr.sum (Rc.head a0 a1 a2 a3)))) p y (by rw [hh]; exact h)
        rw [hh] at this
        exact this
      have e2 : Rd.part ((Rc.enc a0 a1 a2 a3).set p y) 60 4 = (Rc.be 4 (Rc.u64 (Cr.sum (Rc.head a0 a1 a2 a3)))).set (p - 60) y := by
        rw [e]
        exact part_of _ _ _ 60 4 hh (by rw [List.length_set, Rc.be_length])
      have e3 : ((Rc.enc a0 a1 a2 a3).set p y).take 60 = Rc.head a0 a1 a2 a3 := by
        rw [e]
        exact List.take_left' hh
      have hb4 := bytes_be 4 (Rc.u64 (Cr.sum (Rc.head a0 a1 a2 a3)))
      have hs4 := bytes_set hb4 (p - 60) hy
      have hls : ((Rc.be 4 (Rc.u64 (Cr.sum (Rc.head a0 a1 a2 a3)))).set (p - 60) y).length = 4 := by rw [List.length_set, Rc.be_length]
      rw [e2, e3]
      intro h2
      rw [num_eq _ (by rw [hls]; decide) hs4] at h2
      have h3 := be_nv 4 _ hls hs4
      rw [h2] at h3
      have h4 : rd ((Rc.be 4 (Rc.u64 (Cr.sum (Rc.head a0 a1 a2 a3)))).set (p - 60) y) ((p - 60 : Nat) : Int) = y := by
        unfold rd
        rw [Int.toNat_natCast, List.getD_eq_getElem?_getD, List.getElem?_set_self (by rw [Rc.be_length]; omega)]
        rfl
      have h5 : rd (Rc.enc a0 a1 a2 a3) (p : Int) = rd (Rc.be 4 (Rc.u64 (Cr.sum (Rc.head a0 a1 a2 a3)))) ((p - 60 : Nat) : Int) := by
        unfold rd Rc.enc
        rw [Int.toNat_natCast, Int.toNat_natCast, List.getD_eq_getElem?_getD, List.getD_eq_getElem?_getD, List.getElem?_append_right (by rw [hh]; exact h), hh]
      rw [← h3] at h4
      exact hne (by rw [h5, h4])
  unfold Rd.dec
  rw [if_neg (by omega), if_neg (by omega), if_pos key]
theorem dec_short {l : List Int} (h : l.length < 64) : (Rd.dec l).2.2.2.2 = 4 := by
  unfold Rd.dec
  rw [if_pos (by omega)]
/-- What the law's own example comes to. -/
theorem known_at :
    ((Rd.dec ((Rc.enc 1 0 0 7).set (63 : Int).toNat ((rd (Rc.enc 1 0 0 7) 63 + 1) % 256))).2.2.2.2 = 6) ∧ ((Rd.dec (((Rc.enc 1 0 0 7).set (63 : Int).toNat ((rd (Rc.enc 1 0 0 7) 63 + 1) % 256)).take 63)).2.2.2.2 = 4) := by
  have hx : 0 ≤ rd (Rc.enc 1 0 0 7) ((63 : Nat) : Int) ∧ rd (Rc.enc 1 0 0 7) ((63 : Nat) : Int) < 256 := by
    refine enc_bytes 1 0 0 7 _ ?_
    unfold rd
    have hq : 63 < (Rc.enc 1 0 0 7).length := by rw [enc_length]; decide
    rw [Int.toNat_natCast, List.getD_eq_getElem?_getD, List.getElem?_eq_getElem hq]
    exact List.getElem_mem hq
  have e1 : (63 : Int).toNat = 63 := rfl
  have e2 : rd (Rc.enc 1 0 0 7) 63 = rd (Rc.enc 1 0 0 7) ((63 : Nat) : Int) := rfl
  have hl : (((Rc.enc 1 0 0 7).set 63 ((rd (Rc.enc 1 0 0 7) ((63 : Nat) : Int) + 1) % 256)).take 63).length < 64 := by
    rw [List.length_take, List.length_set, enc_length]
    decide
  have ht := dec_torn 1 0 0 7 63 (by decide) ((rd (Rc.enc 1 0 0 7) ((63 : Nat) : Int) + 1) % 256) (by omega) (by omega)
  rw [e1, e2]
  exact ⟨ht, dec_short hl⟩
end Go.Proofs.Ytjldkgcabombhaa.Rec
