/- RecordTorn: a record with another byte is not read. -/
import Derived.Test.YtjldkgcabombhaaPureRecDec
import Derived.OpenShut
import Derived.Test.YtjldkgcabombhaaQRecordTornx1
namespace Go.Proofs.Ytjldkgcabombhaa.Rec
set_option linter.unusedVariables false
open Go.RowKit Go.Proofs.Ytjldkgcabombhaa Go.Proofs.Ytjldkgcabombhaa.QJ Go.Proofs.Ytjldkgcabombhaa.QRecordTorn Go.Proofs.YtjldkgcabombhaaW.PrintWords Go.Proofs.YtjldkgcabombhaaW.PrintLast Go.Proofs.YtjldkgcabombhaaW.PrintMore

theorem torn_known : remontoirelaw26_known.f = some true := by
  obtain ⟨h1, h2⟩ := known_at
  have hl := enc_length 1 0 0 7
  have e : remontoirelaw26_known.f = (record_Encode.f 1 0 0 7).bind fun t164 => (if (t164.length : Int) = 64 then (if 63 < (t164.length : Int) then ((some (t164.set (63 : Int).toNat (((rd t164 63) + 1) % 256) : List Int)).bind fun y168 => ((record_Decode.f y168).bind fun bt169 => (if 63 ≤ (t164.length : Int) then ((record_Decode.f (y168.take 63)).bind fun bt179 => (if bt169.2.2.2.2 = 6 then (some (bt179.2.2.2.2 == 4)) else (some false))) else (none)))) else (none)) else (some false)) := rfl
  rw [e]
  unfold record_Encode.f record_Decode.f
  simp only [Option.bind_some]
  rw [if_pos (by omega), if_pos (by omega), if_pos (by omega), if_pos h1, h2]
  rfl
theorem xor8 (a b : Nat) (ha : a < 256) (hb : b < 256) : bits .xor .u8 (a : Int) (b : Int) = ((a ^^^ b : Nat) : Int) := by
  have h : a ^^^ b < 2 ^ 8 := Nat.xor_lt_two_pow ha hb
  have e : bits .xor .u8 (a : Int) (b : Int) = IntKind.u8.wrap ((BitVec.ofInt 8 (a : Int) ^^^ BitVec.ofInt 8 (b : Int)).toNat : Int) := rfl
  rw [e, BitVec.ofInt_natCast, BitVec.ofInt_natCast, BitVec.toNat_xor, BitVec.toNat_ofNat, BitVec.toNat_ofNat, Nat.mod_eq_of_lt ha, Nat.mod_eq_of_lt hb]
  simp [IntKind.wrap, IntKind.bits, IntKind.signed]
  omega
theorem xor_other {a b : Int} (ha : 0 ≤ a ∧ a < 256) (hb : 0 ≤ b ∧ b < 256) (hne : b ≠ 0) : (0 ≤ bits .xor .u8 a b ∧ bits .xor .u8 a b < 256) ∧ bits .xor .u8 a b ≠ a := by
  obtain ⟨x, rfl⟩ := Int.eq_ofNat_of_zero_le ha.1
  obtain ⟨y, rfl⟩ := Int.eq_ofNat_of_zero_le hb.1
  have h : x ^^^ y < 2 ^ 8 := Nat.xor_lt_two_pow (by omega) (by omega)
  rw [xor8 x y (by omega) (by omega)]
  refine ⟨by omega, fun e => ?_⟩
  have e2 : y ^^^ x = 0 ^^^ x := by rw [Nat.xor_comm, Nat.zero_xor]; omega
  have := xor_cancel e2
  omega
theorem recordTorn (a0 a1 a2 a3 at' by' : Int) (hat : 0 ≤ at' ∧ at' < 256) (hby : 0 ≤ by' ∧ by' < 256) : Ev (fun k => remontoirelaw26_RecordTorn.f k a0 a1 a2 a3 at' by') true := by
  have hl := enc_length a0 a1 a2 a3
  unfold remontoirelaw26_RecordTorn.f record_Encode.f
  simp only [Option.bind_some]
  refine e_pos (by omega) ?_
  by_cases h0 : by' = 0
  · subst h0
    refine Ev.step (f := fun _ => some true) (fun k => ?_) (Ev.now _)
    rw [remontoirelaw26_RecordTorn.j0, if_pos (by decide), if_pos (by omega), torn_known]
    rfl
  · have e0 : (by' == 0) = false := by simpa using h0
    rw [e0]
    have ew : Int.tmod (wrap64 at') 64 = ((at'.toNat % 64 : Nat) : Int) := by
      rw [i64s _ (by omega), Int.tmod_eq_emod_of_nonneg hat.1]
      omega
    have hp : at'.toNat % 64 < 64 := Nat.mod_lt _ (by decide)
    have hx : 0 ≤ rd (Rc.enc a0 a1 a2 a3) ((at'.toNat % 64 : Nat) : Int) ∧ rd (Rc.enc a0 a1 a2 a3) ((at'.toNat % 64 : Nat) : Int) < 256 := by
      refine enc_bytes a0 a1 a2 a3 _ ?_
      unfold rd
      have hq : at'.toNat % 64 < (Rc.enc a0 a1 a2 a3).length := by rw [hl]; exact hp
      rw [Int.toNat_natCast, List.getD_eq_getElem?_getD, List.getElem?_eq_getElem hq]
      exact List.getElem_mem hq
    obtain ⟨hy, hne⟩ := xor_other hx hby h0
    have ht := dec_torn a0 a1 a2 a3 (at'.toNat % 64) hp _ hy hne
    refine Ev.step (f := fun _ => some true) (fun k => ?_) (Ev.now _)
    rw [remontoirelaw26_RecordTorn.j0, if_neg (by decide), ew, if_pos (by omega), if_pos (by omega), Int.toNat_natCast]
    unfold record_Decode.f
    simp only [Option.bind_some]
    rw [if_pos ht, torn_known]
    rfl
theorem recordTorn_walk (a0 a1 a2 a3 at' by' : Int) (W : World) (w0 : (Lit.int .u32 a0).wf = true) (w1 : (Lit.int .i64 a1).wf = true) (w2 : (Lit.int .i64 a2).wf = true) (w3 : (Lit.int .i64 a3).wf = true) (w4 : (Lit.int .u8 at').wf = true) (w5 : (Lit.int .u8 by').wf = true) :
    Calls Try.prog 5 #[.agg #[.int .u32 a0, .int .i64 a1, .int .i64 a2, .int .i64 a3], .int .u8 at', .int .u8 by'] W fun e W' => e = .returned (.bool true) ∧ Below W.heap.size W W' := by
  have h4 := bounds_u8 w4
  have h5 := bounds_u8 w5
  obtain ⟨k, hk⟩ := Ev.rounds (recordTorn a0 a1 a2 a3 at' by' (by omega) (by omega))
  exact remontoirelaw26_RecordTorn.calls k a0 a1 a2 a3 at' by' true W hk
end Go.Proofs.Ytjldkgcabombhaa.Rec
