/- RecordReads: which record any bytes are, or why none, is the document's. -/
import Derived.Test.YtjldkgcabombhaaPureRefDec
import Derived.Test.YtjldkgcabombhaaQRecordReadsx2
import Derived.OpenShut
namespace Go.Proofs.Ytjldkgcabombhaa.Pure
set_option linter.unusedVariables false
open Go.RowKit Go.Proofs.Ytjldkgcabombhaa Go.Proofs.Ytjldkgcabombhaa.QJ Go.Proofs.Ytjldkgcabombhaa.QK Go.Proofs.Ytjldkgcabombhaa.QRecordReads Go.Proofs.Ytjldkgcabombhaa.Rec Go.Proofs.YtjldkgcabombhaaW.PrintWords Go.Proofs.YtjldkgcabombhaaW.PrintLast Go.Proofs.YtjldkgcabombhaaW.PrintMore

theorem reads_known : remontoirelaw26_known.f = some true := by
  obtain ⟨h1, h2⟩ := known_at
  have hl := enc_length 1 0 0 7
  have e : remontoirelaw26_known.f = (record_Encode.f 1 0 0 7).bind fun t164 => (if (t164.length : Int) = 64 then (if 63 < (t164.length : Int) then ((some (t164.set (63 : Int).toNat (((rd t164 63) + 1) % 256) : List Int)).bind fun y168 => ((record_Decode.f y168).bind fun bt169 => (if 63 ≤ (t164.length : Int) then ((record_Decode.f (y168.take 63)).bind fun bt179 => (if bt169.2.2.2.2 = 6 then (some (bt179.2.2.2.2 == 4)) else (some false))) else (none)))) else (none)) else (some false)) := rfl
  rw [e]
  unfold record_Encode.f record_Decode.f
  simp only [Option.bind_some]
  rw [if_pos (by omega), if_pos (by omega), if_pos (by omega), if_pos h1, h2]
  rfl
theorem known_ev : Ev (fun _ => (remontoirelaw26_known.f).bind fun t => some t) true := by
  rw [reads_known]
  exact Ev.now _
/-! ### bytes with their own sum -/
theorem dec_own {T : List Int} (hb : Bytes T) (hl : T.length = 60) : (Rd.dec (T ++ Rc.be 4 (Cr.sum T))).2.2.2.2 ≠ 6 := by
  have hs := sum_bd hb
  have hlen : (T ++ Rc.be 4 (Cr.sum T)).length = 64 := by rw [List.length_append, hl, Rc.be_length]
  have e1 : Rd.part (T ++ Rc.be 4 (Cr.sum T)) 60 4 = Rc.be 4 (Cr.sum T) := by
    have := part_of T (Rc.be 4 (Cr.sum T)) [] 60 4 hl (Rc.be_length _ _)
    rw [List.append_nil] at this
    exact this
  have e2 : (T ++ Rc.be 4 (Cr.sum T)).take 60 = T := List.take_left' hl
  unfold Rd.dec
  rw [if_neg (by omega), if_neg (by omega), e1, e2, num_be 4 (by decide) hs.1 (by rw [pow4]; exact hs.2), if_neg (fun h => h (u64s _ (by omega)).symm)]
  by_cases c : Rd.form (T ++ Rc.be 4 (Cr.sum T)) = false
  · rw [if_pos c]
    intro h
    cases h
  · rw [if_neg c]
    intro h
    cases h
theorem set_step (T t : List Int) (hT : T.length = 60) (i : Nat) (v : Int) : (T ++ t).set (60 + i) v = T ++ t.set i v := by
  rw [List.set_append_right _ _ (by omega), hT, show 60 + i - 60 = i by omega]
theorem loop_step (T t : List Int) (hT : T.length = 60) (ht : t.length = 4) (n : Int) (hn : 0 ≤ n ∧ n < 4294967296) (i : Nat) (hi : i < 4)
    (h : Ev (fun k => remontoirelaw26_RecordReads.l0 k (T ++ t.set i (n / 2 ^ (8 * (3 - i)) % 256)) n ((i + 1 : Nat) : Int)) true) : Ev (fun k => remontoirelaw26_RecordReads.l0 k (T ++ t) n (i : Int)) true := by
  have hlen : (T ++ t).length = 64 := by rw [List.length_append, hT, ht]
  have hsh : shr .u32 n (24 - 8 * (i : Int)) = n / 2 ^ (8 * (3 - i)) := by
    have e : (24 - 8 * (i : Int)).toNat = 8 * (3 - i) := by omega
    have := shr_small (k := .u32) (x := n) (y := 24 - 8 * (i : Int)) rfl (by show _ ≤ ((32 : Nat) : Int); omega)
    rw [e] at this
    exact this.symm
  refine Ev.step (fun k => ?_) h
  rw [remontoirelaw26_RecordReads.l0, if_pos (by omega), i64s (8 * (i : Int)) (by omega), i64s (24 - 8 * (i : Int)) (by omega), i64s (60 + (i : Int)) (by omega), i64s ((i : Int) + 1) (by omega), if_pos (by omega), if_pos (by omega), if_pos (by omega), hsh, show (60 + (i : Int)).toNat = 60 + i by omega, set_step T t hT]
  rfl
theorem tail_reads (T : List Int) (hb : Bytes T) (hT : T.length = 60) : Ev (fun k => remontoirelaw26_RecordReads.l0 k (T ++ [0, 0, 0, 0]) (Cr.sum T) 0) true := by
  have hs := sum_bd hb
  have hbe : Rc.be 4 (Cr.sum T) = [Cr.sum T / 2 ^ (8 * (3 - 0)) % 256, Cr.sum T / 2 ^ (8 * (3 - 1)) % 256, Cr.sum T / 2 ^ (8 * (3 - 2)) % 256, Cr.sum T / 2 ^ (8 * (3 - 3)) % 256] := rfl
  have hW : Bytes (T ++ Rc.be 4 (Cr.sum T)) := Rf.bytes_app hb (bytes_be _ _)
  have hne := dec_own hb hT
  refine loop_step T [0, 0, 0, 0] hT rfl _ hs 0 (by decide) ?_
  refine loop_step T _ hT (by simp) _ hs 1 (by decide) ?_
  refine loop_step T _ hT (by simp) _ hs 2 (by decide) ?_
  refine loop_step T _ hT (by simp) _ hs 3 (by decide) ?_
  simp only [List.set_cons_zero, List.set_cons_succ]
  rw [← hbe]
  refine Ev.step (f := fun k => (record_Decode.f (T ++ Rc.be 4 (Cr.sum T))).bind fun bt143 => ((remontoireref26_Decode.f k (T ++ Rc.be 4 (Cr.sum T))).bind fun bt149 => (if (bt143.1 == bt149.1 && (bt143.2.1 == bt149.2.1 && (bt143.2.2.1 == bt149.2.2.1 && (bt143.2.2.2.1 == bt149.2.2.2.1)))) = true then (if bt143.2.2.2.2 = bt149.2.2.2.2 then (if bt143.2.2.2.2 = 6 then (some false) else ((remontoirelaw26_known.f).bind fun t155 => (some t155))) else (some false)) else (some false)))) (fun k => ?_) ?_
  · rw [remontoirelaw26_RecordReads.l0, if_neg (by decide)]
  · unfold record_Decode.f
    refine Ev.bind (Ev.now _) ?_
    refine Ev.bind (rdec_tells _ hW) ?_
    refine e_pos (by simp) (e_pos rfl (e_neg hne ?_))
    exact known_ev
theorem end_reads (l : List Int) (hb : Bytes l) (hl : l.length ≤ 200) : Ev (fun k => remontoirelaw26_RecordReads.j0 k l false) true := by
  by_cases c : (l.length : Int) < 60
  · refine Ev.step (f := fun _ => (remontoirelaw26_known.f).bind fun t => some t) (fun k => ?_) known_ev
    rw [remontoirelaw26_RecordReads.j0, if_neg (by decide), if_pos c]
  · have hT : (l.take 60).length = 60 := by rw [List.length_take]; omega
    have h60 : ((l.take 60) ++ [0, 0, 0, 0]).take 60 = l.take 60 := List.take_left' hT
    have hlen : ((l.take 60) ++ [0, 0, 0, 0]).length = 64 := by rw [List.length_append, hT]; rfl
    refine Ev.step (f := fun k => (remontoirelaw26_crc.f k (l.take 60)).bind fun t141 => (remontoirelaw26_RecordReads.l0 k ((l.take 60) ++ [0, 0, 0, 0]) t141 0)) (fun k => ?_) ?_
    · rw [remontoirelaw26_RecordReads.j0, if_neg (by decide), if_neg c]
      simp only [Option.bind_some, List.nil_append]
      rw [if_pos (by omega), if_pos (by rw [hT]; decide), if_pos (by rw [hT]; decide), if_pos (by omega), h60]
    · refine Ev.bind (a := Cr.sum (l.take 60)) ?_ (tail_reads (l.take 60) (bytes_take hb 60) hT)
      unfold remontoirelaw26_crc.f
      exact Ev.bind (rcrc_tells (l.take 60) (bytes_take hb 60) (by rw [hT]; decide)) (Ev.now _)
theorem reads (l : List Int) (hb : Bytes l) : Ev (fun k => remontoirelaw26_RecordReads.f k l) true := by
  unfold remontoirelaw26_RecordReads.f
  by_cases c : (l.length : Int) > 200
  · exact e_pos c known_ev
  refine e_neg c ?_
  refine Ev.bind (Ev.now _) ?_
  refine e_pos (by simp; omega) ?_
  refine Ev.bind (Ev.now _) ?_
  unfold record_Decode.f record_Encode.f
  refine Ev.bind (Ev.now _) ?_
  refine Ev.bind (rdec_tells l hb) ?_
  simp only [List.nil_append]
  refine e_neg (by simp) (e_pos trivial (e_pos trivial ?_))
  by_cases h0 : (Rd.dec l).2.2.2.2 = 0
  · refine e_pos h0 (Ev.bind (Ev.now _) ?_)
    obtain ⟨_, hd, he⟩ := enc_dec hb h0
    rw [hd]
    show Ev (fun k => remontoirelaw26_RecordReads.j0 k l ((strOfNums (Rc.enc (n0 l) (n1 l) (n2 l) (n3 l))).toList != (strOfNums l).toList)) true
    rw [he, bne_self_eq_false]
    exact end_reads l hb (by omega)
  · exact e_neg h0 (end_reads l hb (by omega))
theorem RecordReads : remontoirelaw26_RecordReads.Pure := by
  intro l _ _ hw
  exact Ev.rounds (reads l (fun x hx => by have := bounds_u8 (hw x hx); omega))
end Go.Proofs.Ytjldkgcabombhaa.Pure
