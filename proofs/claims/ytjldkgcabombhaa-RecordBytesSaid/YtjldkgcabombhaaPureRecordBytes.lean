/- RecordBytes: a record's bytes are the document's and are read as it. -/
import Derived.Test.YtjldkgcabombhaaPureRecDec
import Derived.OpenShut
import Derived.Test.YtjldkgcabombhaaQRecordBytesx2
namespace Go.Proofs.Ytjldkgcabombhaa.Rec
set_option linter.unusedVariables false
open Go.RowKit Go.Proofs.Ytjldkgcabombhaa Go.Proofs.Ytjldkgcabombhaa.QJ Go.Proofs.Ytjldkgcabombhaa.QK Go.Proofs.Ytjldkgcabombhaa.QRecordBytes Go.Proofs.YtjldkgcabombhaaW.PrintWords Go.Proofs.YtjldkgcabombhaaW.PrintLast Go.Proofs.YtjldkgcabombhaaW.PrintMore

theorem known_true : remontoirelaw26_known.f = some true := by
  obtain ⟨h1, h2⟩ := known_at
  have hl := enc_length 1 0 0 7
  have e : remontoirelaw26_known.f = (record_Encode.f 1 0 0 7).bind fun t164 => (if (t164.length : Int) = 64 then (if 63 < (t164.length : Int) then ((some (t164.set (63 : Int).toNat (((rd t164 63) + 1) % 256) : List Int)).bind fun y168 => ((record_Decode.f y168).bind fun bt169 => (if 63 ≤ (t164.length : Int) then ((record_Decode.f (y168.take 63)).bind fun bt179 => (if bt169.2.2.2.2 = 6 then (some (bt179.2.2.2.2 == 4)) else (some false))) else (none)))) else (none)) else (some false)) := rfl
  rw [e]
  unfold record_Encode.f record_Decode.f
  simp only [Option.bind_some]
  rw [if_pos (by omega), if_pos (by omega), if_pos (by omega), if_pos h1, h2]
  rfl
theorem recordBytes {a0 a1 a2 a3 : Int} (w : Wf a0 a1 a2 a3) : remontoirelaw26_RecordBytes.f a0 a1 a2 a3 = some true := by
  unfold remontoirelaw26_RecordBytes.f remontoireref26_Encode.f record_Encode.f record_Decode.f
  simp only [Option.bind_some]
  rw [dec_enc w, if_pos trivial, if_pos rfl, if_pos (by simp), known_true]
  rfl
theorem recordBytes_walk (a0 a1 a2 a3 : Int) (W : World) (w0 : (Lit.int .u32 a0).wf = true) (w1 : (Lit.int .i64 a1).wf = true) (w2 : (Lit.int .i64 a2).wf = true) (w3 : (Lit.int .i64 a3).wf = true) :
    Calls Try.prog 3 #[.agg #[.int .u32 a0, .int .i64 a1, .int .i64 a2, .int .i64 a3]] W fun e W' => e = .returned (.bool true) ∧ Below W.heap.size W W' := by
  have h0 := bounds_u32 w0
  have h1 := bounds_i64 w1
  have h2 := bounds_i64 w2
  have h3 := bounds_i64 w3
  exact remontoirelaw26_RecordBytes.calls a0 a1 a2 a3 true W (recordBytes ⟨by omega, by omega, by omega, by omega⟩)
end Go.Proofs.Ytjldkgcabombhaa.Rec
