/- The contract of record.Encode, walked by hand: the bytes that it makes. -/
import Derived.Test.YtjldkgcabombhaaProg
import Derived.Below
import Derived.Deep.Draws
import Derived.OwnWalk
import Derived.Tactics
import Derived.WalkKit
import Derived.WalkSpells
import Derived.WalkLawsBesides
import Derived.KernelRfl
import Derived.RowKit3
import Derived.Deep.LoopGhost
import Derived.Deep.QuietTactic
import Derived.BigQuiet
import Derived.WideLaws
import Derived.Deep.DeepCutAuto
import Derived.Deep.CutBlock
import Derived.Deep.RegionHeld3
import Derived.Lib.Hide
import Derived.IntWalk
import Derived.Outline
import Derived.Test.YtjldkgcabombhaaWWords
import Derived.Test.YtjldkgcabombhaaWLast
import Derived.Test.YtjldkgcabombhaaWMore
import Derived.Test.YtjldkgcabombhaaWZeros
import Derived.ArgAppend
import Derived.Lib.SlBytesConst
import Derived.Test.YtjldkgcabombhaaHC
namespace Go.Proofs.Ytjldkgcabombhaa
open Go.RowKit Go.Proofs.YtjldkgcabombhaaW.PrintWords Go.Proofs.YtjldkgcabombhaaW.PrintLast Go.Proofs.YtjldkgcabombhaaW.PrintMore
set_option linter.unusedVariables false
set_option linter.unusedSimpArgs false

/-- The bytes of a number, so many, the highest one first. -/
def Rc.be (size : Nat) (n : Int) : List Int := (List.range size).map (fun i => n / 2 ^ (8 * (size - 1 - i)) % 256)
theorem Rc.be_length (size : Nat) (n : Int) : (Rc.be size n).length = size := by unfold Rc.be; simp
theorem Rc.w64 (n : Int) (h : -9223372036854775808 ≤ n ∧ n ≤ 9223372036854775807) : wrap64 n = n := by unfold wrap64; omega
theorem Rc.be_get (size : Nat) (n : Int) (i : Nat) (h : i < size) : (Rc.be size n)[i]'(by rw [Rc.be_length]; exact h) = n / 2 ^ (8 * (size - 1 - i)) % 256 := by simp [Rc.be]

/-- A row of the call's own beside the record's box. -/
def Rc.I (w W : World) (a0 a1 a2 a3 : Int) (v : Value) (l : List Int) : Prop :=
  Kd.R (Kd.int .u8) 5 W w.heap.size (fun k => w.heap.size < k) v l ∧ W.heap[w.heap.size]? = some (.cells #[.int .u32 a0, .int .i64 a1, .int .i64 a2, .int .i64 a3] 24 (0, 0)) ∧ Below w.heap.size w W
/-- A row that is as long as its room, wherever it lies. -/
def Rc.Full (W : World) (v : Value) (l : List Int) : Prop := ∃ g : Nat, v = .slice (some ⟨g, 0, none⟩) l.length l.length ∧ ∀ (j : Nat) (u : Value), (nums .u8 l)[j]? = some u → W.cell? ⟨g, j, none⟩ = some u
theorem Rc.full_below {W W1 : World} {v : Value} {l : List Int} (h : Rc.Full W v l) (hb : Below W.heap.size W W1) : Rc.Full W1 v l := by
  obtain ⟨g, rfl, hc⟩ := h
  refine ⟨g, rfl, fun j u hu => ?_⟩
  have := hc j u hu
  exact (hb.cell (p := ⟨g, j, none⟩) (World.block_lt_of_cell? W _ this)).trans this
def Rc.J (w W : World) (a0 a1 a2 a3 : Int) (v : Value) (l : List Int) : Prop :=
  (Kd.R (Kd.int .u8) 5 W w.heap.size (fun k => w.heap.size < k) v l ∨ Rc.Full W v l) ∧ W.heap[w.heap.size]? = some (.cells #[.int .u32 a0, .int .i64 a1, .int .i64 a2, .int .i64 a3] 24 (0, 0)) ∧ Below w.heap.size w W
theorem Rc.start (w : World) (a0 a1 a2 a3 : Int) (m : Nat × Nat) :
    Rc.J w ((w.alloc (.cells #[.int .u32 a0, .int .i64 a1, .int .i64 a2, .int .i64 a3] 24 (0, 0))).alloc (.cells #[.int .u8 82, .int .u8 77, .int .u8 84, .int .u8 82] 5 m)) a0 a1 a2 a3
      (.slice (some ⟨w.heap.size + 1, 0, none⟩) 4 4) [82, 77, 84, 82] := by
  have hs : (w.alloc (.cells #[.int .u32 a0, .int .i64 a1, .int .i64 a2, .int .i64 a3] 24 (0, 0))).heap.size = w.heap.size + 1 := by simp
  have hn := blk_new (w.alloc (.cells #[.int .u32 a0, .int .i64 a1, .int .i64 a2, .int .i64 a3] 24 (0, 0))) (.cells #[.int .u8 82, .int .u8 77, .int .u8 84, .int .u8 82] 5 m)
  rw [hs] at hn
  refine ⟨.inr ⟨w.heap.size + 1, rfl, fun j u hu => ?_⟩, blk_alloc (blk_new w _) _, below_alloc (below_alloc (Below.refl _ _) _) _⟩
  have : (((w.alloc (.cells #[.int .u32 a0, .int .i64 a1, .int .i64 a2, .int .i64 a3] 24 (0, 0))).alloc (.cells #[.int .u8 82, .int .u8 77, .int .u8 84, .int .u8 82] 5 m)).cell? ⟨w.heap.size + 1, j, none⟩) = #[Value.int .u8 82, .int .u8 77, .int .u8 84, .int .u8 82][j]? := by
    exact cell_of_row _ _ j _ _ _ hn
  rw [this, ← hu]
  simp [nums]

section
variable {ops : Array Oper} {rest : List Oper} {o : Oper} {a : Act} {Q : Exit → Act → World → Prop}
theorem Rc.size2 (h : 2 < Try.prog.types.size) : (Try.prog.types[2]'h).size = 1 := by kernel_rfl
theorem Rc.get3_0 (a b c : Value) (n : Nat) (hn : n = 1) (h : Int.toNat 0 * n < #[a, b, c].size) : #[a, b, c][Int.toNat 0 * n]'h = a := by subst hn; rfl
theorem Rc.get3_1 (a b c : Value) (n : Nat) (hn : n = 1) (h : Int.toNat 1 * n < #[a, b, c].size) : #[a, b, c][Int.toNat 1 * n]'h = b := by subst hn; rfl
theorem Rc.get3_2 (a b c : Value) (n : Nat) (hn : n = 1) (h : Int.toNat 2 * n < #[a, b, c].size) : #[a, b, c][Int.toNat 2 * n]'h = c := by subst hn; rfl
theorem Rc.info5 : (Try.prog.info? 5).map (fun i => (i.zero, i.size, i.bytes)) = some (some (.int .u8 0), 1, 1) := by kernel_rfl
/-- append of one byte to such a row. -/
theorem Rc.append {w W : World} {a0 a1 a2 a3 : Int} (hgd : o.guard = none) (s x : Operand) (ho : o.op = .call { callee := .builtin .append, args := #[s, x], argTypes := #[25, 25] })
    (v : Value) (xs : List Int) (p : Int) (hs : a.eval s = v) (hx : a.eval x = .slice (some ⟨W.heap.size, 0, none⟩) 1 1) (hJ : Rc.J w W a0 a1 a2 a3 v xs) (hl : xs.length ≤ 1000000)
    (h : ∀ v1 w1, Rc.I w w1 a0 a1 a2 a3 v1 (xs ++ [p]) → wpList Try.prog ops Q rest (a.put o.dst v1) w1) :
    wpList Try.prog ops Q (o :: rest) a (W.alloc (.cells #[.int .u8 p] 5)) := by
  obtain ⟨hv, hk, hb⟩ := hJ
  have hlt := blk_lt hk
  rcases hv with hR | ⟨g, rfl, hc⟩
  · refine Kd.R_append (Kd.int .u8) (w0 := w) (W := W) w.heap.size hgd s x 25 5 (.int .u8 0) 1 ho Try.underlying25 Rc.info5 rfl (by decide) (by omega) v xs p [.int .u8 p] (fun k => w.heap.size < k) (fun _ => False) hs hx rfl (fun _ hk => hk.elim)
      (fun k hk => by omega) hR hb (by omega) (by omega) ?_
    intro v1 w1 h1 h2 h3 _
    refine h v1 w1 ⟨h1, (h3.block _ hlt (fun e => ?_)).trans hk, h2⟩
    have := hR.1 _ e.symm
    omega
  · obtain ⟨i0, hi, hz⟩ := Option.map_eq_some_iff.1 Rc.info5
    simp only [Prod.mk.injEq] at hz
    obtain ⟨z0, z1, z2⟩ := hz
    refine wpList_append_grows (W.alloc (.cells #[.int .u8 p] 5)) hgd s x 25 ho 5 i0 (.int .u8 0) 1 1 Try.underlying25 hi z0 z1 z2 rfl (by decide) (some ⟨g, 0, none⟩) xs.length xs.length (nums .u8 xs) hs (fun e => by cases e) (by simp [nums]) ?_
      ⟨W.heap.size, 0, none⟩ 1 1 [.int .u8 p] hx rfl ?_ (by simp [Value.oneCell']) (by omega) (by simp only [maxLen]; omega) (by omega) ?_
    · intro b e j u hu
      obtain rfl : (⟨g, 0, none⟩ : Addr) = b := Option.some.inj e
      have := hc j u hu
      rw [add_plain]
      exact (World.cell?_alloc_lt W _ _ (World.block_lt_of_cell? W _ this)).trans this
    · intro j u hu
      match j, hu with
      | 0, hu =>
        obtain rfl : Value.int .u8 p = u := by simpa using hu
        exact blk_cell (blk_new W _) 0
      | j + 1, hu => simp at hu
    · intro v1 w1 hown hg
      have hsz : (W.alloc (.cells #[.int .u8 p] 5)).heap.size = W.heap.size + 1 := by simp
      have hwl : w.heap.size ≤ (W.alloc (.cells #[.int .u8 p] 5)).heap.size := by rw [hsz]; omega
      refine h v1 w1 ⟨?_, (hg.block _ (by rw [hsz]; omega) (by simp)).trans (blk_alloc hk _), (below_alloc hb _).grown hg hwl (fun k hk => by simp at hk)⟩
      have ho2 : w1.ownsRow (W.alloc (.cells #[.int .u8 p] 5)).heap.size 5 1 v1 (xs ++ [p]).length (nums .u8 (xs ++ [p])) := by
        have e1 : (xs ++ [p]).length = xs.length + 1 := by simp
        have e2 : nums .u8 (xs ++ [p]) = nums .u8 xs ++ [.int .u8 p] := by simp [nums]
        rw [e1, e2]
        exact hown
      refine Kd.R_of_own (own_weaken ho2 hwl) (fun k hk => ?_)
      have := own_base ho2 k hk
      rw [hsz] at this
      omega
end
theorem Rc.i_j {w W : World} {a0 a1 a2 a3 : Int} {v : Value} {l : List Int} (h : Rc.I w W a0 a1 a2 a3 v l) : Rc.J w W a0 a1 a2 a3 v l := ⟨.inl h.1, h.2⟩

set_option maxHeartbeats 8000000 in
set_option maxRecDepth 100000 in
theorem Rc.put (w W : World) (a0 a1 a2 a3 : Int) (v : Value) (l : List Int) (n : Int) (size : Nat) (hs : 1 ≤ size ∧ size ≤ 8) (hl : l.length ≤ 1000) (hJ : Rc.J w W a0 a1 a2 a3 v l) :
    Calls Try.prog 51 #[v, .int .u64 n, .int .i64 (size : Int)] W fun e W' => ∃ v', e = .returned v' ∧ Rc.I w W' a0 a1 a2 a3 v' (l ++ Rc.be size n) := by
  obtain ⟨z, hz⟩ : ∃ z : Int, z = (size : Int) := ⟨_, rfl⟩
  rw [← hz]
  have HZ := Aside0.mk hz
  have HS := Aside0.mk hs
  have HJ := Aside0.mk hJ
  have HL := Aside0.mk hl
  clear hz hs hJ hl
  go_enter Try.func51, Try.ntmps51
  go_wp2
  go_loopw [0, 9] (fun v0 v9 wr => ∃ (x : Int), v9 = .int .i64 x ∧ Aside0 (0 ≤ x ∧ x ≤ z) ∧ Aside0 (Rc.J w wr a0 a1 a2 a3 v0 (l ++ (Rc.be size n).take x.toNat)) ∧ Aside0 (0 < x → Rc.I w wr a0 a1 a2 a3 v0 (l ++ (Rc.be size n).take x.toNat))) (fun _ v9 _ => (z - intOf v9).toNat)
  case atStart => exact ⟨0, rfl, ⟨Int.le_refl _, by have := HZ.out; omega⟩, ⟨by rw [show (0 : Int).toNat = 0 from rfl, List.take_zero, List.append_nil]; exact HJ.out⟩, ⟨fun h => absurd h (by omega)⟩⟩
  case round =>
    clear HJ
    obtain ⟨x, rfl, HX, HJ, HI⟩ := hrel
    by_cases hlt : x < z
    · have d1 : decide (x < z) = true := decide_eq_true hlt
      have hz := HZ.out
      have hs := HS.out
      have hx := HX.out
      obtain ⟨ji, hji⟩ : ∃ ji : Int, (wrap64 (8 * (wrap64 ((wrap64 (z - 1)) - x)))) = ji := ⟨_, rfl⟩
      have hji2 := hji
      rw [Rc.w64 (z - 1) (by omega), Rc.w64 (z - 1 - x) (by omega), Rc.w64 (8 * (z - 1 - x)) (by omega)] at hji2
      have hjw : (IntKind.i64.wrap (8 * (wrap64 ((wrap64 (z - 1)) - x)))) = ji := (i64_w _).trans hji
      have c6b1 : decide (0 ≤ ji) = true := decide_eq_true (by omega)
      have c6b0 := eq_true (show 0 ≤ ji by omega)
      obtain ⟨q, hq⟩ : ∃ q : Int, (shr .u64 n ji) = q := ⟨_, rfl⟩
      have hq2 : (n / 2 ^ min ji.toNat 64) = q := hq
      have hq3 : ji ≤ 64 → (n / 2 ^ ji.toNat) = q := shr_small hq
      have HTS := Aside0.mk (show l ++ (Rc.be size n).take (x + 1).toNat = (l ++ (Rc.be size n).take x.toNat) ++ [q % 256] by
        have hlt2 : x.toNat < (Rc.be size n).length := by rw [Rc.be_length]; omega
        rw [show (x + 1).toNat = x.toNat + 1 by omega, List.take_succ_eq_append_getElem hlt2, Rc.be_get size n x.toNat (by omega), ← hq2, show min ji.toNat 64 = 8 * (size - 1 - x.toNat) by omega, List.append_assoc])
      have HLL := Aside0.mk (show (l ++ (Rc.be size n).take x.toNat).length ≤ 1000000 by
        have := HL.out
        have := Rc.be_length size n
        rw [List.length_append, List.length_take]; omega)
      have HN := Aside0.mk (show wrap64 (x + 1) = x + 1 from Rc.w64 _ (by omega))
      have HX1 := Aside0.mk (show 0 ≤ x + 1 ∧ x + 1 ≤ z ∧ 0 < x + 1 by omega)
      clear hlt hz hs hx hji2 hq HX
      go_wp2_with (at_builtin; refine Rc.append rfl (.tmp 12) (.tmp 21) rfl _ _ (q % 256) rfl rfl HJ.out HLL.out ?_
                   intro v1 w1 hi
                   rw [← HTS.out] at hi
                   have HI1 := Aside0.mk hi
                   clear hi HI HJ)
      go_roundw
      case rel => exact ⟨x + 1, by first | rfl | (rw [← HN.out]; rfl) | (simp [HN.out]), ⟨HX1.out.1, HX1.out.2.1⟩, ⟨Rc.i_j HI1.out⟩, ⟨fun _ => HI1.out⟩⟩
      case measure => have := HN.out; have := HX1.out; simp [intOf]; omega
    · have d1 : decide (x < z) = false := decide_eq_false hlt
      have HI2 := Aside0.mk (show Rc.I w wr a0 a1 a2 a3 u0 (l ++ Rc.be size n) by
        have hz := HZ.out
        have hs := HS.out
        have hx := HX.out
        have := HI.out (by omega)
        rwa [List.take_of_length_le (by rw [Rc.be_length]; omega)] at this)
      clear hlt HI HJ HX
      go_wp2
      go_ret
      exact ⟨_, rfl, HI2.out⟩

def Rc.u64 (n : Int) : Int := IntKind.u64.wrap n
def Rc.r0 (a0 : Int) : List Int := [82, 77, 84, 82] ++ Rc.be 4 (Rc.u64 a0)
def Rc.r1 (a0 a1 : Int) : List Int := Rc.r0 a0 ++ Rc.be 8 (Rc.u64 a1)
def Rc.r2 (a0 a1 a2 : Int) : List Int := Rc.r1 a0 a1 ++ Rc.be 8 (Rc.u64 a2)
def Rc.r3 (a0 a1 a2 a3 : Int) : List Int := Rc.r2 a0 a1 a2 ++ Rc.be 8 (Rc.u64 a3)
def Rc.rows (a0 a1 a2 a3 : Int) (i : Nat) : List Int := if i = 0 then Rc.r0 a0 else if i = 1 then Rc.r1 a0 a1 else if i = 2 then Rc.r2 a0 a1 a2 else Rc.r3 a0 a1 a2 a3
def Rc.head (a0 a1 a2 a3 : Int) : List Int := Rc.rows a0 a1 a2 a3 3 ++ List.replicate 28 0
def Rc.enc (a0 a1 a2 a3 : Int) : List Int := Rc.head a0 a1 a2 a3 ++ Rc.be 4 (Rc.u64 (Cr.sum (Rc.head a0 a1 a2 a3)))
def record_Encode.f (a0 a1 a2 a3 : Int) : Option (List Int) := some (Rc.enc a0 a1 a2 a3)
theorem Rc.rows_length (a0 a1 a2 a3 : Int) : (Rc.rows a0 a1 a2 a3 0).length = 8 ∧ (Rc.rows a0 a1 a2 a3 1).length = 16 ∧ (Rc.rows a0 a1 a2 a3 2).length = 24 ∧ (Rc.rows a0 a1 a2 a3 3).length = 32 := by
  refine ⟨?_, ?_, ?_, ?_⟩ <;> simp [Rc.rows, Rc.r0, Rc.r1, Rc.r2, Rc.r3, Rc.be_length]

set_option maxRecDepth 100000 in
theorem Rc.index0 (a1 a2 a3 : Int) (w : World) : (Instr.index 90 (.agg #[.int .i64 a1, .int .i64 a2, .int .i64 a3]) (.int .i64 0)).run Try.prog w = .ok (.int .i64 a1) w := by kernel_rfl
set_option maxRecDepth 100000 in
theorem Rc.index1 (a1 a2 a3 : Int) (w : World) : (Instr.index 90 (.agg #[.int .i64 a1, .int .i64 a2, .int .i64 a3]) (.int .i64 1)).run Try.prog w = .ok (.int .i64 a2) w := by kernel_rfl
set_option maxRecDepth 100000 in
theorem Rc.index2 (a1 a2 a3 : Int) (w : World) : (Instr.index 90 (.agg #[.int .i64 a1, .int .i64 a2, .int .i64 a3]) (.int .i64 2)).run Try.prog w = .ok (.int .i64 a3) w := by kernel_rfl

set_option maxHeartbeats 8000000 in
set_option maxRecDepth 100000 in
theorem record_Encode.calls (a0 a1 a2 a3 : Int) (r : List Int) (w : World) (h : record_Encode.f a0 a1 a2 a3 = some r) :
    Calls Try.prog 13 #[.agg #[.int .u32 a0, .int .i64 a1, .int .i64 a2, .int .i64 a3]] w fun e w' => ∃ v0_ : Value, e = .returned (v0_) ∧ Kd.R (Kd.int .u8) 5 w' w.heap.size (fun _ => True) v0_ r ∧ Below w.heap.size w w' := by
  obtain rfl := Option.some.inj h
  clear h
  have hu24 := Try.underlying24
  have HS := Aside0.mk (Rc.start w a0 a1 a2 a3 (4, 5))
  obtain ⟨hl0, hl1, hl2, hl3⟩ := Rc.rows_length a0 a1 a2 a3
  have HL0 := Aside0.mk hl0
  have HL1 := Aside0.mk hl1
  have HL2 := Aside0.mk hl2
  have HL3 := Aside0.mk hl3
  clear hl0 hl1 hl2 hl3
  have hcv : (convert 25 25 (.slice (some ⟨w.heap.size + 1, 0, none⟩) 4 4)).run Try.prog ((w.alloc (.cells #[.int .u32 a0, .int .i64 a1, .int .i64 a2, .int .i64 a3] 24)).alloc (.cells #[.int .u8 82, .int .u8 77, .int .u8 84, .int .u8 82] 5)) =
      .ok (.slice (some ⟨w.heap.size + 1, 0, none⟩) 4 4) ((w.alloc (.cells #[.int .u32 a0, .int .i64 a1, .int .i64 a2, .int .i64 a3] 24)).alloc (.cells #[.int .u8 82, .int .u8 77, .int .u8 84, .int .u8 82] 5 (4, 5))) := by
    have := Lib.run_convert_bytes_const (P := Try.prog) (w.alloc (.cells #[.int .u32 a0, .int .i64 a1, .int .i64 a2, .int .i64 a3] 24)) 25 5 #[.int .u8 82, .int .u8 77, .int .u8 84, .int .u8 82] 4 4 Try.underlying25 Try.underlying5
    have e : (w.alloc (.cells #[.int .u32 a0, .int .i64 a1, .int .i64 a2, .int .i64 a3] 24)).heap.size = w.heap.size + 1 := by simp
    rw [e] at this
    exact this
  go_enter Try.func13, Try.ntmps13
  go_wp2_with (go_at_call 51; (refine (Rc.put w _ a0 a1 a2 a3 _ _ (Rc.u64 a0) 4 (by decide) (by decide) HS.out).mono ?_)
               rintro e W1 ⟨v1, rfl, hi⟩
               have HI := Aside0.mk hi
               have g1 := blk_cell hi.2.1 1
               have g2 := blk_cell hi.2.1 2
               have g3 := blk_cell hi.2.1 3
               clear hi)
  go_loopw [3, 19] (fun v3 v19 wr => ∃ (i : Nat), v19 = .int .i64 i ∧ i ≤ 3 ∧ Aside0 (Rc.I w wr a0 a1 a2 a3 v3 (Rc.rows a0 a1 a2 a3 i))) (fun _ v19 _ => 3 - (intOf v19).toNat)
  case atStart => exact ⟨0, rfl, Nat.zero_le _, HI⟩
  case round =>
    clear HI g1 g2 g3
    obtain ⟨i, rfl, hi3, HI⟩ := hrel
    by_cases hlt : i < 3
    · obtain rfl | rfl | rfl : i = 0 ∨ i = 1 ∨ i = 2 := by omega
      · have hix := Rc.index0 a1 a2 a3
        go_wp2_with (go_at_call 51; (refine (Rc.put w _ a0 a1 a2 a3 _ (Rc.rows a0 a1 a2 a3 0) (Rc.u64 a1) 8 (by decide) (by rw [HL0.out]; decide) (Rc.i_j HI.out)).mono ?_)
                     rintro e W1 ⟨v1, rfl, hi⟩
                     have HI2 := Aside0.mk (show Rc.I w W1 a0 a1 a2 a3 v1 (Rc.rows a0 a1 a2 a3 1) from hi)
                     clear hi)
        go_roundw
        case rel => exact ⟨1, rfl, by decide, HI2⟩
        case measure => simp [intOf]
      · have hix := Rc.index1 a1 a2 a3
        go_wp2_with (go_at_call 51; (refine (Rc.put w _ a0 a1 a2 a3 _ (Rc.rows a0 a1 a2 a3 1) (Rc.u64 a2) 8 (by decide) (by rw [HL1.out]; decide) (Rc.i_j HI.out)).mono ?_)
                     rintro e W1 ⟨v1, rfl, hi⟩
                     have HI2 := Aside0.mk (show Rc.I w W1 a0 a1 a2 a3 v1 (Rc.rows a0 a1 a2 a3 2) from hi)
                     clear hi)
        go_roundw
        case rel => exact ⟨2, rfl, by decide, HI2⟩
        case measure => simp [intOf]
      · have hix := Rc.index2 a1 a2 a3
        go_wp2_with (go_at_call 51; (refine (Rc.put w _ a0 a1 a2 a3 _ (Rc.rows a0 a1 a2 a3 2) (Rc.u64 a3) 8 (by decide) (by rw [HL2.out]; decide) (Rc.i_j HI.out)).mono ?_)
                     rintro e W1 ⟨v1, rfl, hi⟩
                     have HI2 := Aside0.mk (show Rc.I w W1 a0 a1 a2 a3 v1 (Rc.rows a0 a1 a2 a3 3) from hi)
                     clear hi)
        go_roundw
        case rel => exact ⟨3, rfl, by decide, HI2⟩
        case measure => simp [intOf]
    · obtain rfl : i = 3 := by omega
      have HW := Aside0.mk (HI.out.2.2.size)
      go_wp2_with (first
        | (at_builtin; refine Kd.R_append_zeros (Kd.int .u8) (w0 := w) w.heap.size rfl (.tmp 27) (.const (.int .i64 28)) 25 3 5 (.int .u8 0) 1 rfl Try.underlying25 Try.underlying3 Rc.info5 rfl (by decide) (by omega) _ (Rc.rows a0 a1 a2 a3 3) 0 (28 : Int) (fun k => w.heap.size < k) rfl rfl rfl ?aF HI.out.1 (by omega) HI.out.2.2 HW.out ?aL ?_
           (case aF => exact fun k hk => by have := blk_lt HI.out.2.1; omega)
           (case aL => rw [HL3.out]; decide)
           intro v2 w2 ho hb hg hat
           have HI3 := Aside0.mk (show Rc.I w w2 a0 a1 a2 a3 v2 (Rc.head a0 a1 a2 a3) from ⟨ho, (hg.block _ (blk_lt HI.out.2.1) (fun e => by have := HI.out.1.1 _ e.symm; omega)).trans HI.out.2.1, hb⟩)
           clear ho hb hg hat HI HW
           obtain ⟨A1, c1, e1⟩ := Kd.R_slice HI3.out.1
           subst e1)
        | (go_at_call 52; (refine (sums_CRC.calls _ _ (Rc.head a0 a1 a2 a3) (Cr.sum (Rc.head a0 a1 a2 a3)) _ ?s1 ?s2 rfl).mono ?_)
           (case s1 => exact (Kd.R_reads' HI3.out.1).2.2)
           (case s2 => exact (Kd.R_reads' HI3.out.1).2.1)
           rintro e w4 ⟨rfl, hb⟩
           have HI4 := Aside0.mk (show Rc.I w w4 a0 a1 a2 a3 (.slice A1 (Rc.head a0 a1 a2 a3).length c1) (Rc.head a0 a1 a2 a3) from ⟨Kd.R_below HI3.out.1 hb, blk_below HI3.out.2.1 hb, below_step HI3.out.2.2 hb⟩)
           clear hb HI3)
        | (go_at_call 51; (refine (Rc.put w _ a0 a1 a2 a3 _ (Rc.head a0 a1 a2 a3) (Rc.u64 (Cr.sum (Rc.head a0 a1 a2 a3))) 4 (by decide) ?s3 (Rc.i_j HI4.out)).mono ?_)
           (case s3 => unfold Rc.head; rw [List.length_append, HL3.out, List.length_replicate]; decide)
           rintro e W1 ⟨v1, rfl, hi⟩
           have HI5 := Aside0.mk hi
           clear hi))
      go_ret
      exact ⟨_, rfl, Kd.R_mono HI5.out.1 (fun _ _ => trivial), HI5.out.2.2⟩
end Go.Proofs.Ytjldkgcabombhaa
