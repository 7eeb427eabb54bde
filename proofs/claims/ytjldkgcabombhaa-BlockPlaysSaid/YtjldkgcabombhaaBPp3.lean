/- The contracts of the document's Load and Next (ref27), walked by hand. -/
import Derived.Test.YtjldkgcabombhaaProg
import Derived.Below
import Derived.Deep.Draws
import Derived.OwnWalk
import Derived.Tactics
import Derived.WalkKit
import Derived.WalkSpells
import Derived.WalkLawsBesides
import Derived.KernelRfl
import Derived.RowKit3
import Derived.Deep.LoopGhost
import Derived.Deep.QuietTactic
import Derived.BigQuiet
import Derived.WideLaws
import Derived.Deep.DeepCutAuto
import Derived.Deep.CutBlock
import Derived.Deep.RegionHeld3
import Derived.Lib.Hide
import Derived.IntWalk
import Derived.Outline
import Derived.Test.YtjldkgcabombhaaWWords
import Derived.Test.YtjldkgcabombhaaWLast
import Derived.Test.YtjldkgcabombhaaWMore
import Derived.Deep.RegionWith
import Derived.Test.YtjldkgcabombhaaBPp1
import Derived.Test.YtjldkgcabombhaaBPp2
import Derived.Test.YtjldkgcabombhaaBPp0
import Derived.OpenShut
import Derived.ArgAppend
import Derived.Deep.CutRange
import Derived.Deep.Slices
namespace Go.Proofs.Ytjldkgcabombhaa
open Go.RowKit Go.Proofs.Ytjldkgcabombhaa.Rec Go.Proofs.Ytjldkgcabombhaa.QJ Go.Proofs.Ytjldkgcabombhaa.QK Go.Proofs.YtjldkgcabombhaaW.PrintWords Go.Proofs.YtjldkgcabombhaaW.PrintLast Go.Proofs.YtjldkgcabombhaaW.PrintMore
set_option linter.unusedVariables false
set_option linter.unusedSimpArgs false

theorem Dl.bytesOf {xs : List Int} (h : Bytes xs) : Go.Proofs.YtjldkgcabombhaaW.PrintWords.bytesOf (strOfNums xs) = xs := by
  unfold Go.Proofs.YtjldkgcabombhaaW.PrintWords.bytesOf
  rw [strOfNums_data, List.map_map]
  refine (List.map_congr_left (fun x hx => ?_)).trans (List.map_id xs)
  have := h x hx
  show ((UInt8.ofNat x.toNat).toNat : Int) = x
  rw [UInt8.toNat_ofNat']
  omega
/-- The world behind []byte(s). -/
def Dl.W (w : World) (xs : List Int) : World := Lib.bytesWorld w 5 (strOfNums xs)
def Dl.cap (w : World) (xs : List Int) : Nat := grownCap w xs.length 0 5
theorem Dl.conv (xs : List Int) (W : World) : (convert 9 25 (.string (strOfNums xs))).run Try.prog W = .ok (.slice (some ⟨W.heap.size, 0, none⟩) xs.length (Dl.cap W xs)) (Dl.W W xs) := by
  have := print_bytes (P := Try.prog) 9 25 5 Try.underlying9 Try.underlying25 Try.underlying5 (strOfNums xs) W
  rw [strOfNums_size] at this
  exact this
theorem Dl.reads {xs : List Int} (h : Bytes xs) (hl : xs.length ≤ 4096) (W : World) : Kd.C (Kd.int .u8) (Dl.W W xs) (some ⟨W.heap.size, 0, none⟩) xs.length xs := by
  have := bytes_reads W 5 (strOfNums xs) (by rw [strOfNums_size]; omega)
  rw [Dl.bytesOf h, strOfNums_size] at this
  exact Kd.C_of_reads (enc := Value.int .u8) (d := (0 : Int)) (h1 := fun _ => rfl) this
theorem Dl.below (xs : List Int) (W : World) : Below W.heap.size W (Dl.W W xs) := bytes_below (Below.refl _ _) (Nat.le_refl _) _ _
theorem Dl.size (xs : List Int) (W : World) : (Dl.W W xs).heap.size = W.heap.size + 1 := Lib.bytesWorld_size _ _ _
theorem Dl.cap_ge (xs : List Int) (W : World) : xs.length ≤ Dl.cap W xs := grownCap_ge _ _ _ _
theorem Dl.dec {xs : List Int} {p0 p1 p2 p3 p4 : Int} (h : Bytes xs) (hp : Rd.dec xs = (p0, p1, p2, p3, p4)) (A : Option Addr) (c : Nat) (W : World) (hC : Kd.C (Kd.int .u8) W A xs.length xs) (hc : xs.length ≤ c) :
    Calls Try.prog 17 #[.slice A xs.length c] W fun e w' => e = .returned (.tuple #[.agg #[.int .u32 p0, .int .i64 p1, .int .i64 p2, .int .i64 p3], .int .i64 p4]) ∧ Below W.heap.size W w' := by
  have he := rdec_tells xs h
  rw [hp] at he
  obtain ⟨k, hk⟩ := Ev.rounds he
  exact remontoireref26_Decode.calls k A c xs p0 p1 p2 p3 p4 W hC hc hk
/-- The result's own box. -/
def Dl.Z (w W : World) : Prop := W.heap[w.heap.size]? = some (.cells #[.int .u32 0, .int .i64 0, .int .i64 0, .int .i64 0] 24 (0, 0)) ∧ Below w.heap.size w W
theorem Dl.z_start (w : World) : Dl.Z w (w.alloc (.cells #[.int .u32 0, .int .i64 0, .int .i64 0, .int .i64 0] 24 (0, 0))) := ⟨blk_new w _, below_alloc (Below.refl _ _) _⟩
theorem Dl.z_below {w W W1 : World} (h : Dl.Z w W) (hb : Below W.heap.size W W1) : Dl.Z w W1 := ⟨blk_below h.1 hb, below_step h.2 hb⟩
theorem Dl.z_alloc {w W : World} (h : Dl.Z w W) (o : Obj) : Dl.Z w (W.alloc o) := ⟨blk_alloc h.1 _, below_alloc h.2 _⟩
def Dl.first (p0 p4 q0 q4 : Int) : Bool := (p4 == 0) && (!(q4 == 0) || decide (q0 ≤ p0))
def Dl.next (p0 p4 q0 q4 : Int) : Int := if ((p4 == 0) && (!(q4 == 0) || decide (q0 < p0))) = true then 1 else 0
set_option maxHeartbeats 400000 in
set_option maxRecDepth 100000 in
theorem Dl.load_x1 {xs ys b : List Int} {p0 p1 p2 p3 p4 q0 q1 q2 q3 q4 : Int} (hx : Bytes xs) (hy : Bytes ys) (hxl : xs.length ≤ 4096) (hyl : ys.length ≤ 4096) (hbx : b.take 64 = xs) (hby : b.drop 64 = ys) (hl : b.length = 128) (hp : Rd.dec xs = (p0, p1, p2, p3, p4)) (hq : Rd.dec ys = (q0, q1, q2, q3, q4)) (w : World) (e4 : (p4 == 0) = true) (g4 : (q4 == 0) = false) :
    Calls Try.prog 49 #[.string (strOfNums b)] w fun e w' => e = .returned (.tuple #[.agg #[.int .u32 p0, .int .i64 p1, .int .i64 p2, .int .i64 p3], .bool true]) ∧ Below w.heap.size w w' := by
  have hu := Try.underlying24
  have g5 : (q4 != 0) = true := by unfold bne; rw [g4]; rfl
  have HP := Aside0.mk (fun A c W => Dl.dec hx hp A c W)
  have HQ := Aside0.mk (fun A c W => Dl.dec hy hq A c W)
  have sl0 : ∀ W, (Instr.slice 9 (.string (strOfNums b)) none (some (.int .i64 64)) none).run Try.prog W = .ok (.string (strOfNums xs)) W := fun W => by
    rw [Dz.to ⟨b, false, 0, false, 0⟩ 64 (by decide) (by show (64 : Int) ≤ b.length; omega)]
    show _ = Result.ok (Value.string (strOfNums xs)) W
    rw [← hbx]
    rfl
  have sl1 : ∀ W, (Instr.slice 9 (.string (strOfNums b)) (some (.int .i64 64)) none none).run Try.prog W = .ok (.string (strOfNums ys)) W := fun W => by
    rw [Dz.from ⟨b, false, 0, false, 0⟩ 64 (by decide) (by show (64 : Int) ≤ b.length; omega)]
    show _ = Result.ok (Value.string (strOfNums ys)) W
    rw [← hby]
    rfl
  have cv0 := Dl.conv xs
  have cv1 := Dl.conv ys
  have HX := Aside0.mk (fun W => Dl.reads hx hxl W)
  have HY := Aside0.mk (fun W => Dl.reads hy hyl W)
  have Z0 := Aside0.mk (Dl.z_below (Dl.z_start w) (Dl.below xs (w.alloc (.cells #[.int .u32 0, .int .i64 0, .int .i64 0, .int .i64 0] 24 (0, 0)))))
  have H0 := Aside0.mk (HX.out (w.alloc (.cells #[.int .u32 0, .int .i64 0, .int .i64 0, .int .i64 0] 24 (0, 0))))
  rw [World.size_alloc] at H0
  clear hx hy hxl hyl hbx hby hl hp hq
  go_enter Try.func49, Try.ntmps49
  go_wp2_with (first
    | (have mk_ := H0; clear mk_; go_at_call 17; (refine (HP.out (some ⟨w.heap.size + 1, 0, none⟩) (Dl.cap _ xs) _ H0.out (Dl.cap_ge _ _)).mono ?_)
       rintro e w1 ⟨rfl, hb⟩
       have Z1 := Aside0.mk (Dl.z_alloc (Dl.z_below Z0.out hb) (.cells #[.int .u32 p0, .int .i64 p1, .int .i64 p2, .int .i64 p3] 24))
       have X1 := Aside0.mk (blk_new w1 (.cells #[.int .u32 p0, .int .i64 p1, .int .i64 p2, .int .i64 p3] 24 (0, 0)))
       have H1 := Aside0.mk (HY.out (w1.alloc (.cells #[.int .u32 p0, .int .i64 p1, .int .i64 p2, .int .i64 p3] 24 (0, 0))))
       rw [World.size_alloc] at H1
       clear hb H0 Z0)
    | (have mk_ := H1; clear mk_; go_at_call 17; (refine (HQ.out (some ⟨w1.heap.size + 1, 0, none⟩) (Dl.cap _ ys) _ H1.out (Dl.cap_ge _ _)).mono ?_)
       rintro e w2 ⟨rfl, hb⟩
       have hb' := Below.refl w1.heap.size w1
       have hW := Dl.below ys (w1.alloc (.cells #[.int .u32 p0, .int .i64 p1, .int .i64 p2, .int .i64 p3] 24 (0, 0)))
       have Z2 := Aside0.mk (Dl.z_alloc (Dl.z_below (Dl.z_below Z1.out hW) hb) (.cells #[.int .u32 q0, .int .i64 q1, .int .i64 q2, .int .i64 q3] 24))
       have X2 := Aside0.mk (blk_alloc (blk_below (blk_below X1.out hW) hb) (.cells #[.int .u32 q0, .int .i64 q1, .int .i64 q2, .int .i64 q3] 24 (0, 0)))
       have k0 := blk_cell Z2.out.1 0
       have k1 := blk_cell Z2.out.1 1
       have k2 := blk_cell Z2.out.1 2
       have k3 := blk_cell Z2.out.1 3
       have f0 := blk_frozen Z2.out.1 0
       have f1 := blk_frozen Z2.out.1 1
       have f2 := blk_frozen Z2.out.1 2
       have f3 := blk_frozen Z2.out.1 3
       have x0 := blk_cell X2.out 0
       have x1 := blk_cell X2.out 1
       have x2 := blk_cell X2.out 2
       have x3 := blk_cell X2.out 3
       clear hb hb' hW H1 Z1 X1))
  obtain ⟨hy, hz⟩ := Sq.set4 (y0 := .int .u32 p0) (y1 := .int .i64 p1) (y2 := .int .i64 p2) (y3 := .int .i64 p3) (Nat.le_refl w.heap.size) Z2.out.1 Z2.out.2
  generalize (((((w2.alloc (.cells #[.int .u32 q0, .int .i64 q1, .int .i64 q2, .int .i64 q3] 24 (0, 0))).setCell ⟨w.heap.size, 0, none⟩ (.int .u32 p0)).setCell ⟨w.heap.size, 1, none⟩ (.int .i64 p1)).setCell ⟨w.heap.size, 2, none⟩ (.int .i64 p2)).setCell ⟨w.heap.size, 3, none⟩ (.int .i64 p3)) = w9 at hy hz ⊢
  refine bodyPost_ret (results_ct rfl _ _ w.heap.size 24 #[.int .u32 p0, .int .i64 p1, .int .i64 p2, .int .i64 p3] (0, 0) _ rfl hy Try.underlying24 rfl (by kernel_rfl)) rfl ?_
  exact ⟨rfl, hz⟩
set_option maxHeartbeats 400000 in
set_option maxRecDepth 100000 in
theorem Dl.load_x2 {xs ys b : List Int} {p0 p1 p2 p3 p4 q0 q1 q2 q3 q4 : Int} (hx : Bytes xs) (hy : Bytes ys) (hxl : xs.length ≤ 4096) (hyl : ys.length ≤ 4096) (hbx : b.take 64 = xs) (hby : b.drop 64 = ys) (hl : b.length = 128) (hp : Rd.dec xs = (p0, p1, p2, p3, p4)) (hq : Rd.dec ys = (q0, q1, q2, q3, q4)) (w : World) (e4 : (p4 == 0) = true) (g4 : (q4 == 0) = true) (d : decide (q0 ≤ p0) = true) :
    Calls Try.prog 49 #[.string (strOfNums b)] w fun e w' => e = .returned (.tuple #[.agg #[.int .u32 p0, .int .i64 p1, .int .i64 p2, .int .i64 p3], .bool true]) ∧ Below w.heap.size w w' := by
  have hu := Try.underlying24
  have g5 : (q4 != 0) = false := by unfold bne; rw [g4]; rfl
  have HP := Aside0.mk (fun A c W => Dl.dec hx hp A c W)
  have HQ := Aside0.mk (fun A c W => Dl.dec hy hq A c W)
  have sl0 : ∀ W, (Instr.slice 9 (.string (strOfNums b)) none (some (.int .i64 64)) none).run Try.prog W = .ok (.string (strOfNums xs)) W := fun W => by
    rw [Dz.to ⟨b, false, 0, false, 0⟩ 64 (by decide) (by show (64 : Int) ≤ b.length; omega)]
    show _ = Result.ok (Value.string (strOfNums xs)) W
    rw [← hbx]
    rfl
  have sl1 : ∀ W, (Instr.slice 9 (.string (strOfNums b)) (some (.int .i64 64)) none none).run Try.prog W = .ok (.string (strOfNums ys)) W := fun W => by
    rw [Dz.from ⟨b, false, 0, false, 0⟩ 64 (by decide) (by show (64 : Int) ≤ b.length; omega)]
    show _ = Result.ok (Value.string (strOfNums ys)) W
    rw [← hby]
    rfl
  have cv0 := Dl.conv xs
  have cv1 := Dl.conv ys
  have HX := Aside0.mk (fun W => Dl.reads hx hxl W)
  have HY := Aside0.mk (fun W => Dl.reads hy hyl W)
  have Z0 := Aside0.mk (Dl.z_below (Dl.z_start w) (Dl.below xs (w.alloc (.cells #[.int .u32 0, .int .i64 0, .int .i64 0, .int .i64 0] 24 (0, 0)))))
  have H0 := Aside0.mk (HX.out (w.alloc (.cells #[.int .u32 0, .int .i64 0, .int .i64 0, .int .i64 0] 24 (0, 0))))
  rw [World.size_alloc] at H0
  clear hx hy hxl hyl hbx hby hl hp hq
  go_enter Try.func49, Try.ntmps49
  go_wp2_with (first
    | (have mk_ := H0; clear mk_; go_at_call 17; (refine (HP.out (some ⟨w.heap.size + 1, 0, none⟩) (Dl.cap _ xs) _ H0.out (Dl.cap_ge _ _)).mono ?_)
       rintro e w1 ⟨rfl, hb⟩
       have Z1 := Aside0.mk (Dl.z_alloc (Dl.z_below Z0.out hb) (.cells #[.int .u32 p0, .int .i64 p1, .int .i64 p2, .int .i64 p3] 24))
       have X1 := Aside0.mk (blk_new w1 (.cells #[.int .u32 p0, .int .i64 p1, .int .i64 p2, .int .i64 p3] 24 (0, 0)))
       have H1 := Aside0.mk (HY.out (w1.alloc (.cells #[.int .u32 p0, .int .i64 p1, .int .i64 p2, .int .i64 p3] 24 (0, 0))))
       rw [World.size_alloc] at H1
       clear hb H0 Z0)
    | (have mk_ := H1; clear mk_; go_at_call 17; (refine (HQ.out (some ⟨w1.heap.size + 1, 0, none⟩) (Dl.cap _ ys) _ H1.out (Dl.cap_ge _ _)).mono ?_)
       rintro e w2 ⟨rfl, hb⟩
       have hb' := Below.refl w1.heap.size w1
       have hW := Dl.below ys (w1.alloc (.cells #[.int .u32 p0, .int .i64 p1, .int .i64 p2, .int .i64 p3] 24 (0, 0)))
       have Z2 := Aside0.mk (Dl.z_alloc (Dl.z_below (Dl.z_below Z1.out hW) hb) (.cells #[.int .u32 q0, .int .i64 q1, .int .i64 q2, .int .i64 q3] 24))
       have X2 := Aside0.mk (blk_alloc (blk_below (blk_below X1.out hW) hb) (.cells #[.int .u32 q0, .int .i64 q1, .int .i64 q2, .int .i64 q3] 24 (0, 0)))
       have k0 := blk_cell Z2.out.1 0
       have k1 := blk_cell Z2.out.1 1
       have k2 := blk_cell Z2.out.1 2
       have k3 := blk_cell Z2.out.1 3
       have f0 := blk_frozen Z2.out.1 0
       have f1 := blk_frozen Z2.out.1 1
       have f2 := blk_frozen Z2.out.1 2
       have f3 := blk_frozen Z2.out.1 3
       have x0 := blk_cell X2.out 0
       have x1 := blk_cell X2.out 1
       have x2 := blk_cell X2.out 2
       have x3 := blk_cell X2.out 3
       clear hb hb' hW H1 Z1 X1))
  obtain ⟨hy, hz⟩ := Sq.set4 (y0 := .int .u32 p0) (y1 := .int .i64 p1) (y2 := .int .i64 p2) (y3 := .int .i64 p3) (Nat.le_refl w.heap.size) Z2.out.1 Z2.out.2
  generalize (((((w2.alloc (.cells #[.int .u32 q0, .int .i64 q1, .int .i64 q2, .int .i64 q3] 24 (0, 0))).setCell ⟨w.heap.size, 0, none⟩ (.int .u32 p0)).setCell ⟨w.heap.size, 1, none⟩ (.int .i64 p1)).setCell ⟨w.heap.size, 2, none⟩ (.int .i64 p2)).setCell ⟨w.heap.size, 3, none⟩ (.int .i64 p3)) = w9 at hy hz ⊢
  refine bodyPost_ret (results_ct rfl _ _ w.heap.size 24 #[.int .u32 p0, .int .i64 p1, .int .i64 p2, .int .i64 p3] (0, 0) _ rfl hy Try.underlying24 rfl (by kernel_rfl)) rfl ?_
  exact ⟨rfl, hz⟩
set_option maxHeartbeats 400000 in
set_option maxRecDepth 100000 in
theorem Dl.load_y1 {xs ys b : List Int} {p0 p1 p2 p3 p4 q0 q1 q2 q3 q4 : Int} (hx : Bytes xs) (hy : Bytes ys) (hxl : xs.length ≤ 4096) (hyl : ys.length ≤ 4096) (hbx : b.take 64 = xs) (hby : b.drop 64 = ys) (hl : b.length = 128) (hp : Rd.dec xs = (p0, p1, p2, p3, p4)) (hq : Rd.dec ys = (q0, q1, q2, q3, q4)) (w : World) (e4 : (p4 == 0) = true) (g4 : (q4 == 0) = true) (d : decide (q0 ≤ p0) = false) :
    Calls Try.prog 49 #[.string (strOfNums b)] w fun e w' => e = .returned (.tuple #[.agg #[.int .u32 q0, .int .i64 q1, .int .i64 q2, .int .i64 q3], .bool true]) ∧ Below w.heap.size w w' := by
  have hu := Try.underlying24
  have g5 : (q4 != 0) = false := by unfold bne; rw [g4]; rfl
  have HP := Aside0.mk (fun A c W => Dl.dec hx hp A c W)
  have HQ := Aside0.mk (fun A c W => Dl.dec hy hq A c W)
  have sl0 : ∀ W, (Instr.slice 9 (.string (strOfNums b)) none (some (.int .i64 64)) none).run Try.prog W = .ok (.string (strOfNums xs)) W := fun W => by
    rw [Dz.to ⟨b, false, 0, false, 0⟩ 64 (by decide) (by show (64 : Int) ≤ b.length; omega)]
    show _ = Result.ok (Value.string (strOfNums xs)) W
    rw [← hbx]
    rfl
  have sl1 : ∀ W, (Instr.slice 9 (.string (strOfNums b)) (some (.int .i64 64)) none none).run Try.prog W = .ok (.string (strOfNums ys)) W := fun W => by
    rw [Dz.from ⟨b, false, 0, false, 0⟩ 64 (by decide) (by show (64 : Int) ≤ b.length; omega)]
    show _ = Result.ok (Value.string (strOfNums ys)) W
    rw [← hby]
    rfl
  have cv0 := Dl.conv xs
  have cv1 := Dl.conv ys
  have HX := Aside0.mk (fun W => Dl.reads hx hxl W)
  have HY := Aside0.mk (fun W => Dl.reads hy hyl W)
  have Z0 := Aside0.mk (Dl.z_below (Dl.z_start w) (Dl.below xs (w.alloc (.cells #[.int .u32 0, .int .i64 0, .int .i64 0, .int .i64 0] 24 (0, 0)))))
  have H0 := Aside0.mk (HX.out (w.alloc (.cells #[.int .u32 0, .int .i64 0, .int .i64 0, .int .i64 0] 24 (0, 0))))
  rw [World.size_alloc] at H0
  clear hx hy hxl hyl hbx hby hl hp hq
  go_enter Try.func49, Try.ntmps49
  go_wp2_with (first
    | (have mk_ := H0; clear mk_; go_at_call 17; (refine (HP.out (some ⟨w.heap.size + 1, 0, none⟩) (Dl.cap _ xs) _ H0.out (Dl.cap_ge _ _)).mono ?_)
       rintro e w1 ⟨rfl, hb⟩
       have Z1 := Aside0.mk (Dl.z_alloc (Dl.z_below Z0.out hb) (.cells #[.int .u32 p0, .int .i64 p1, .int .i64 p2, .int .i64 p3] 24))
       have X1 := Aside0.mk (blk_new w1 (.cells #[.int .u32 p0, .int .i64 p1, .int .i64 p2, .int .i64 p3] 24 (0, 0)))
       have H1 := Aside0.mk (HY.out (w1.alloc (.cells #[.int .u32 p0, .int .i64 p1, .int .i64 p2, .int .i64 p3] 24 (0, 0))))
       rw [World.size_alloc] at H1
       clear hb H0 Z0)
    | (have mk_ := H1; clear mk_; go_at_call 17; (refine (HQ.out (some ⟨w1.heap.size + 1, 0, none⟩) (Dl.cap _ ys) _ H1.out (Dl.cap_ge _ _)).mono ?_)
       rintro e w2 ⟨rfl, hb⟩
       have hb' := Below.refl w1.heap.size w1
       have hW := Dl.below ys (w1.alloc (.cells #[.int .u32 p0, .int .i64 p1, .int .i64 p2, .int .i64 p3] 24 (0, 0)))
       have Z2 := Aside0.mk (Dl.z_alloc (Dl.z_below (Dl.z_below Z1.out hW) hb) (.cells #[.int .u32 q0, .int .i64 q1, .int .i64 q2, .int .i64 q3] 24))
       have X2 := Aside0.mk (blk_alloc (blk_below (blk_below X1.out hW) hb) (.cells #[.int .u32 q0, .int .i64 q1, .int .i64 q2, .int .i64 q3] 24 (0, 0)))
       have k0 := blk_cell Z2.out.1 0
       have k1 := blk_cell Z2.out.1 1
       have k2 := blk_cell Z2.out.1 2
       have k3 := blk_cell Z2.out.1 3
       have f0 := blk_frozen Z2.out.1 0
       have f1 := blk_frozen Z2.out.1 1
       have f2 := blk_frozen Z2.out.1 2
       have f3 := blk_frozen Z2.out.1 3
       have x0 := blk_cell X2.out 0
       have x1 := blk_cell X2.out 1
       have x2 := blk_cell X2.out 2
       have x3 := blk_cell X2.out 3
       clear hb hb' hW H1 Z1 X1))
  obtain ⟨hy, hz⟩ := Sq.set4 (y0 := .int .u32 q0) (y1 := .int .i64 q1) (y2 := .int .i64 q2) (y3 := .int .i64 q3) (Nat.le_refl w.heap.size) Z2.out.1 Z2.out.2
  generalize (((((w2.alloc (.cells #[.int .u32 q0, .int .i64 q1, .int .i64 q2, .int .i64 q3] 24 (0, 0))).setCell ⟨w.heap.size, 0, none⟩ (.int .u32 q0)).setCell ⟨w.heap.size, 1, none⟩ (.int .i64 q1)).setCell ⟨w.heap.size, 2, none⟩ (.int .i64 q2)).setCell ⟨w.heap.size, 3, none⟩ (.int .i64 q3)) = w9 at hy hz ⊢
  refine bodyPost_ret (results_ct rfl _ _ w.heap.size 24 #[.int .u32 q0, .int .i64 q1, .int .i64 q2, .int .i64 q3] (0, 0) _ rfl hy Try.underlying24 rfl (by kernel_rfl)) rfl ?_
  exact ⟨rfl, hz⟩
set_option maxHeartbeats 400000 in
set_option maxRecDepth 100000 in
theorem Dl.load_y2 {xs ys b : List Int} {p0 p1 p2 p3 p4 q0 q1 q2 q3 q4 : Int} (hx : Bytes xs) (hy : Bytes ys) (hxl : xs.length ≤ 4096) (hyl : ys.length ≤ 4096) (hbx : b.take 64 = xs) (hby : b.drop 64 = ys) (hl : b.length = 128) (hp : Rd.dec xs = (p0, p1, p2, p3, p4)) (hq : Rd.dec ys = (q0, q1, q2, q3, q4)) (w : World) (e4 : (p4 == 0) = false) (g4 : (q4 == 0) = true) :
    Calls Try.prog 49 #[.string (strOfNums b)] w fun e w' => e = .returned (.tuple #[.agg #[.int .u32 q0, .int .i64 q1, .int .i64 q2, .int .i64 q3], .bool true]) ∧ Below w.heap.size w w' := by
  have hu := Try.underlying24
  have g5 : (q4 != 0) = false := by unfold bne; rw [g4]; rfl
  have HP := Aside0.mk (fun A c W => Dl.dec hx hp A c W)
  have HQ := Aside0.mk (fun A c W => Dl.dec hy hq A c W)
  have sl0 : ∀ W, (Instr.slice 9 (.string (strOfNums b)) none (some (.int .i64 64)) none).run Try.prog W = .ok (.string (strOfNums xs)) W := fun W => by
    rw [Dz.to ⟨b, false, 0, false, 0⟩ 64 (by decide) (by show (64 : Int) ≤ b.length; omega)]
    show _ = Result.ok (Value.string (strOfNums xs)) W
    rw [← hbx]
    rfl
  have sl1 : ∀ W, (Instr.slice 9 (.string (strOfNums b)) (some (.int .i64 64)) none none).run Try.prog W = .ok (.string (strOfNums ys)) W := fun W => by
    rw [Dz.from ⟨b, false, 0, false, 0⟩ 64 (by decide) (by show (64 : Int) ≤ b.length; omega)]
    show _ = Result.ok (Value.string (strOfNums ys)) W
    rw [← hby]
    rfl
  have cv0 := Dl.conv xs
  have cv1 := Dl.conv ys
  have HX := Aside0.mk (fun W => Dl.reads hx hxl W)
  have HY := Aside0.mk (fun W => Dl.reads hy hyl W)
  have Z0 := Aside0.mk (Dl.z_below (Dl.z_start w) (Dl.below xs (w.alloc (.cells #[.int .u32 0, .int .i64 0, .int .i64 0, .int .i64 0] 24 (0, 0)))))
  have H0 := Aside0.mk (HX.out (w.alloc (.cells #[.int .u32 0, .int .i64 0, .int .i64 0, .int .i64 0] 24 (0, 0))))
  rw [World.size_alloc] at H0
  clear hx hy hxl hyl hbx hby hl hp hq
  go_enter Try.func49, Try.ntmps49
  go_wp2_with (first
    | (have mk_ := H0; clear mk_; go_at_call 17; (refine (HP.out (some ⟨w.heap.size + 1, 0, none⟩) (Dl.cap _ xs) _ H0.out (Dl.cap_ge _ _)).mono ?_)
       rintro e w1 ⟨rfl, hb⟩
       have Z1 := Aside0.mk (Dl.z_alloc (Dl.z_below Z0.out hb) (.cells #[.int .u32 p0, .int .i64 p1, .int .i64 p2, .int .i64 p3] 24))
       have X1 := Aside0.mk (blk_new w1 (.cells #[.int .u32 p0, .int .i64 p1, .int .i64 p2, .int .i64 p3] 24 (0, 0)))
       have H1 := Aside0.mk (HY.out (w1.alloc (.cells #[.int .u32 p0, .int .i64 p1, .int .i64 p2, .int .i64 p3] 24 (0, 0))))
       rw [World.size_alloc] at H1
       clear hb H0 Z0)
    | (have mk_ := H1; clear mk_; go_at_call 17; (refine (HQ.out (some ⟨w1.heap.size + 1, 0, none⟩) (Dl.cap _ ys) _ H1.out (Dl.cap_ge _ _)).mono ?_)
       rintro e w2 ⟨rfl, hb⟩
       have hb' := Below.refl w1.heap.size w1
       have hW := Dl.below ys (w1.alloc (.cells #[.int .u32 p0, .int .i64 p1, .int .i64 p2, .int .i64 p3] 24 (0, 0)))
       have Z2 := Aside0.mk (Dl.z_alloc (Dl.z_below (Dl.z_below Z1.out hW) hb) (.cells #[.int .u32 q0, .int .i64 q1, .int .i64 q2, .int .i64 q3] 24))
       have X2 := Aside0.mk (blk_alloc (blk_below (blk_below X1.out hW) hb) (.cells #[.int .u32 q0, .int .i64 q1, .int .i64 q2, .int .i64 q3] 24 (0, 0)))
       have k0 := blk_cell Z2.out.1 0
       have k1 := blk_cell Z2.out.1 1
       have k2 := blk_cell Z2.out.1 2
       have k3 := blk_cell Z2.out.1 3
       have f0 := blk_frozen Z2.out.1 0
       have f1 := blk_frozen Z2.out.1 1
       have f2 := blk_frozen Z2.out.1 2
       have f3 := blk_frozen Z2.out.1 3
       have x0 := blk_cell X2.out 0
       have x1 := blk_cell X2.out 1
       have x2 := blk_cell X2.out 2
       have x3 := blk_cell X2.out 3
       clear hb hb' hW H1 Z1 X1))
  obtain ⟨hy, hz⟩ := Sq.set4 (y0 := .int .u32 q0) (y1 := .int .i64 q1) (y2 := .int .i64 q2) (y3 := .int .i64 q3) (Nat.le_refl w.heap.size) Z2.out.1 Z2.out.2
  generalize (((((w2.alloc (.cells #[.int .u32 q0, .int .i64 q1, .int .i64 q2, .int .i64 q3] 24 (0, 0))).setCell ⟨w.heap.size, 0, none⟩ (.int .u32 q0)).setCell ⟨w.heap.size, 1, none⟩ (.int .i64 q1)).setCell ⟨w.heap.size, 2, none⟩ (.int .i64 q2)).setCell ⟨w.heap.size, 3, none⟩ (.int .i64 q3)) = w9 at hy hz ⊢
  refine bodyPost_ret (results_ct rfl _ _ w.heap.size 24 #[.int .u32 q0, .int .i64 q1, .int .i64 q2, .int .i64 q3] (0, 0) _ rfl hy Try.underlying24 rfl (by kernel_rfl)) rfl ?_
  exact ⟨rfl, hz⟩
set_option maxHeartbeats 400000 in
set_option maxRecDepth 100000 in
theorem Dl.load_y3 {xs ys b : List Int} {p0 p1 p2 p3 p4 q0 q1 q2 q3 q4 : Int} (hx : Bytes xs) (hy : Bytes ys) (hxl : xs.length ≤ 4096) (hyl : ys.length ≤ 4096) (hbx : b.take 64 = xs) (hby : b.drop 64 = ys) (hl : b.length = 128) (hp : Rd.dec xs = (p0, p1, p2, p3, p4)) (hq : Rd.dec ys = (q0, q1, q2, q3, q4)) (w : World) (e4 : (p4 == 0) = false) (g4 : (q4 == 0) = false) :
    Calls Try.prog 49 #[.string (strOfNums b)] w fun e w' => e = .returned (.tuple #[.agg #[.int .u32 q0, .int .i64 q1, .int .i64 q2, .int .i64 q3], .bool false]) ∧ Below w.heap.size w w' := by
  have hu := Try.underlying24
  have g5 : (q4 != 0) = true := by unfold bne; rw [g4]; rfl
  have HP := Aside0.mk (fun A c W => Dl.dec hx hp A c W)
  have HQ := Aside0.mk (fun A c W => Dl.dec hy hq A c W)
  have sl0 : ∀ W, (Instr.slice 9 (.string (strOfNums b)) none (some (.int .i64 64)) none).run Try.prog W = .ok (.string (strOfNums xs)) W := fun W => by
    rw [Dz.to ⟨b, false, 0, false, 0⟩ 64 (by decide) (by show (64 : Int) ≤ b.length; omega)]
    show _ = Result.ok (Value.string (strOfNums xs)) W
    rw [← hbx]
    rfl
  have sl1 : ∀ W, (Instr.slice 9 (.string (strOfNums b)) (some (.int .i64 64)) none none).run Try.prog W = .ok (.string (strOfNums ys)) W := fun W => by
    rw [Dz.from ⟨b, false, 0, false, 0⟩ 64 (by decide) (by show (64 : Int) ≤ b.length; omega)]
    show _ = Result.ok (Value.string (strOfNums ys)) W
    rw [← hby]
    rfl
  have cv0 := Dl.conv xs
  have cv1 := Dl.conv ys
  have HX := Aside0.mk (fun W => Dl.reads hx hxl W)
  have HY := Aside0.mk (fun W => Dl.reads hy hyl W)
  have Z0 := Aside0.mk (Dl.z_below (Dl.z_start w) (Dl.below xs (w.alloc (.cells #[.int .u32 0, .int .i64 0, .int .i64 0, .int .i64 0] 24 (0, 0)))))
  have H0 := Aside0.mk (HX.out (w.alloc (.cells #[.int .u32 0, .int .i64 0, .int .i64 0, .int .i64 0] 24 (0, 0))))
  rw [World.size_alloc] at H0
  clear hx hy hxl hyl hbx hby hl hp hq
  go_enter Try.func49, Try.ntmps49
  go_wp2_with (first
    | (have mk_ := H0; clear mk_; go_at_call 17; (refine (HP.out (some ⟨w.heap.size + 1, 0, none⟩) (Dl.cap _ xs) _ H0.out (Dl.cap_ge _ _)).mono ?_)
       rintro e w1 ⟨rfl, hb⟩
       have Z1 := Aside0.mk (Dl.z_alloc (Dl.z_below Z0.out hb) (.cells #[.int .u32 p0, .int .i64 p1, .int .i64 p2, .int .i64 p3] 24))
       have X1 := Aside0.mk (blk_new w1 (.cells #[.int .u32 p0, .int .i64 p1, .int .i64 p2, .int .i64 p3] 24 (0, 0)))
       have H1 := Aside0.mk (HY.out (w1.alloc (.cells #[.int .u32 p0, .int .i64 p1, .int .i64 p2, .int .i64 p3] 24 (0, 0))))
       rw [World.size_alloc] at H1
       clear hb H0 Z0)
    | (have mk_ := H1; clear mk_; go_at_call 17; (refine (HQ.out (some ⟨w1.heap.size + 1, 0, none⟩) (Dl.cap _ ys) _ H1.out (Dl.cap_ge _ _)).mono ?_)
       rintro e w2 ⟨rfl, hb⟩
       have hb' := Below.refl w1.heap.size w1
       have hW := Dl.below ys (w1.alloc (.cells #[.int .u32 p0, .int .i64 p1, .int .i64 p2, .int .i64 p3] 24 (0, 0)))
       have Z2 := Aside0.mk (Dl.z_alloc (Dl.z_below (Dl.z_below Z1.out hW) hb) (.cells #[.int .u32 q0, .int .i64 q1, .int .i64 q2, .int .i64 q3] 24))
       have X2 := Aside0.mk (blk_alloc (blk_below (blk_below X1.out hW) hb) (.cells #[.int .u32 q0, .int .i64 q1, .int .i64 q2, .int .i64 q3] 24 (0, 0)))
       have k0 := blk_cell Z2.out.1 0
       have k1 := blk_cell Z2.out.1 1
       have k2 := blk_cell Z2.out.1 2
       have k3 := blk_cell Z2.out.1 3
       have f0 := blk_frozen Z2.out.1 0
       have f1 := blk_frozen Z2.out.1 1
       have f2 := blk_frozen Z2.out.1 2
       have f3 := blk_frozen Z2.out.1 3
       have x0 := blk_cell X2.out 0
       have x1 := blk_cell X2.out 1
       have x2 := blk_cell X2.out 2
       have x3 := blk_cell X2.out 3
       clear hb hb' hW H1 Z1 X1))
  obtain ⟨hy, hz⟩ := Sq.set4 (y0 := .int .u32 q0) (y1 := .int .i64 q1) (y2 := .int .i64 q2) (y3 := .int .i64 q3) (Nat.le_refl w.heap.size) Z2.out.1 Z2.out.2
  generalize (((((w2.alloc (.cells #[.int .u32 q0, .int .i64 q1, .int .i64 q2, .int .i64 q3] 24 (0, 0))).setCell ⟨w.heap.size, 0, none⟩ (.int .u32 q0)).setCell ⟨w.heap.size, 1, none⟩ (.int .i64 q1)).setCell ⟨w.heap.size, 2, none⟩ (.int .i64 q2)).setCell ⟨w.heap.size, 3, none⟩ (.int .i64 q3)) = w9 at hy hz ⊢
  refine bodyPost_ret (results_ct rfl _ _ w.heap.size 24 #[.int .u32 q0, .int .i64 q1, .int .i64 q2, .int .i64 q3] (0, 0) _ rfl hy Try.underlying24 rfl (by kernel_rfl)) rfl ?_
  exact ⟨rfl, hz⟩
set_option maxHeartbeats 400000 in
set_option maxRecDepth 100000 in
theorem Dl.next_x1 {xs ys b : List Int} {p0 p1 p2 p3 p4 q0 q1 q2 q3 q4 : Int} (hx : Bytes xs) (hy : Bytes ys) (hxl : xs.length ≤ 4096) (hyl : ys.length ≤ 4096) (hbx : b.take 64 = xs) (hby : b.drop 64 = ys) (hl : b.length = 128) (hp : Rd.dec xs = (p0, p1, p2, p3, p4)) (hq : Rd.dec ys = (q0, q1, q2, q3, q4)) (w : World) (e4 : (p4 == 0) = true) (g4 : (q4 == 0) = false) :
    Calls Try.prog 50 #[.string (strOfNums b)] w fun e w' => e = .returned (.int .i64 1) ∧ Below w.heap.size w w' := by
  have hu := Try.underlying24
  have g5 : (q4 != 0) = true := by unfold bne; rw [g4]; rfl
  have HP := Aside0.mk (fun A c W => Dl.dec hx hp A c W)
  have HQ := Aside0.mk (fun A c W => Dl.dec hy hq A c W)
  have sl0 : ∀ W, (Instr.slice 9 (.string (strOfNums b)) none (some (.int .i64 64)) none).run Try.prog W = .ok (.string (strOfNums xs)) W := fun W => by
    rw [Dz.to ⟨b, false, 0, false, 0⟩ 64 (by decide) (by show (64 : Int) ≤ b.length; omega)]
    show _ = Result.ok (Value.string (strOfNums xs)) W
    rw [← hbx]
    rfl
  have sl1 : ∀ W, (Instr.slice 9 (.string (strOfNums b)) (some (.int .i64 64)) none none).run Try.prog W = .ok (.string (strOfNums ys)) W := fun W => by
    rw [Dz.from ⟨b, false, 0, false, 0⟩ 64 (by decide) (by show (64 : Int) ≤ b.length; omega)]
    show _ = Result.ok (Value.string (strOfNums ys)) W
    rw [← hby]
    rfl
  have cv0 := Dl.conv xs
  have cv1 := Dl.conv ys
  have HX := Aside0.mk (fun W => Dl.reads hx hxl W)
  have HY := Aside0.mk (fun W => Dl.reads hy hyl W)
  have H0 := Aside0.mk (HX.out w)
  have Z0 := Aside0.mk (Dl.below xs w)
  clear hx hy hxl hyl hbx hby hl hp hq
  go_enter Try.func50, Try.ntmps50
  go_wp2_with (first
    | (have mk_ := H0; clear mk_; go_at_call 17; (refine (HP.out (some ⟨w.heap.size, 0, none⟩) (Dl.cap _ xs) _ H0.out (Dl.cap_ge _ _)).mono ?_)
       rintro e w1 ⟨rfl, hb⟩
       have Z1 := Aside0.mk (below_alloc (below_step Z0.out hb) (.cells #[.int .u32 p0, .int .i64 p1, .int .i64 p2, .int .i64 p3] 24))
       have X1 := Aside0.mk (blk_new w1 (.cells #[.int .u32 p0, .int .i64 p1, .int .i64 p2, .int .i64 p3] 24 (0, 0)))
       have H1 := Aside0.mk (HY.out (w1.alloc (.cells #[.int .u32 p0, .int .i64 p1, .int .i64 p2, .int .i64 p3] 24 (0, 0))))
       rw [World.size_alloc] at H1
       clear hb H0 Z0)
    | (have mk_ := H1; clear mk_; go_at_call 17; (refine (HQ.out (some ⟨w1.heap.size + 1, 0, none⟩) (Dl.cap _ ys) _ H1.out (Dl.cap_ge _ _)).mono ?_)
       rintro e w2 ⟨rfl, hb⟩
       have hW := Dl.below ys (w1.alloc (.cells #[.int .u32 p0, .int .i64 p1, .int .i64 p2, .int .i64 p3] 24 (0, 0)))
       have Z2 := Aside0.mk (below_alloc (below_step (below_step Z1.out hW) hb) (.cells #[.int .u32 q0, .int .i64 q1, .int .i64 q2, .int .i64 q3] 24))
       have X2 := Aside0.mk (blk_alloc (blk_below (blk_below X1.out hW) hb) (.cells #[.int .u32 q0, .int .i64 q1, .int .i64 q2, .int .i64 q3] 24 (0, 0)))
       have x0 := blk_cell X2.out 0
       clear hb hW H1 Z1 X1))
  go_ret
  exact ⟨rfl, Z2.out⟩
set_option maxHeartbeats 400000 in
set_option maxRecDepth 100000 in
theorem Dl.next_x2 {xs ys b : List Int} {p0 p1 p2 p3 p4 q0 q1 q2 q3 q4 : Int} (hx : Bytes xs) (hy : Bytes ys) (hxl : xs.length ≤ 4096) (hyl : ys.length ≤ 4096) (hbx : b.take 64 = xs) (hby : b.drop 64 = ys) (hl : b.length = 128) (hp : Rd.dec xs = (p0, p1, p2, p3, p4)) (hq : Rd.dec ys = (q0, q1, q2, q3, q4)) (w : World) (e4 : (p4 == 0) = true) (g4 : (q4 == 0) = true) (d : decide (q0 < p0) = true) :
    Calls Try.prog 50 #[.string (strOfNums b)] w fun e w' => e = .returned (.int .i64 1) ∧ Below w.heap.size w w' := by
  have hu := Try.underlying24
  have g5 : (q4 != 0) = false := by unfold bne; rw [g4]; rfl
  have HP := Aside0.mk (fun A c W => Dl.dec hx hp A c W)
  have HQ := Aside0.mk (fun A c W => Dl.dec hy hq A c W)
  have sl0 : ∀ W, (Instr.slice 9 (.string (strOfNums b)) none (some (.int .i64 64)) none).run Try.prog W = .ok (.string (strOfNums xs)) W := fun W => by
    rw [Dz.to ⟨b, false, 0, false, 0⟩ 64 (by decide) (by show (64 : Int) ≤ b.length; omega)]
    show _ = Result.ok (Value.string (strOfNums xs)) W
    rw [← hbx]
    rfl
  have sl1 : ∀ W, (Instr.slice 9 (.string (strOfNums b)) (some (.int .i64 64)) none none).run Try.prog W = .ok (.string (strOfNums ys)) W := fun W => by
    rw [Dz.from ⟨b, false, 0, false, 0⟩ 64 (by decide) (by show (64 : Int) ≤ b.length; omega)]
    show _ = Result.ok (Value.string (strOfNums ys)) W
    rw [← hby]
    rfl
  have cv0 := Dl.conv xs
  have cv1 := Dl.conv ys
  have HX := Aside0.mk (fun W => Dl.reads hx hxl W)
  have HY := Aside0.mk (fun W => Dl.reads hy hyl W)
  have H0 := Aside0.mk (HX.out w)
  have Z0 := Aside0.mk (Dl.below xs w)
  clear hx hy hxl hyl hbx hby hl hp hq
  go_enter Try.func50, Try.ntmps50
  go_wp2_with (first
    | (have mk_ := H0; clear mk_; go_at_call 17; (refine (HP.out (some ⟨w.heap.size, 0, none⟩) (Dl.cap _ xs) _ H0.out (Dl.cap_ge _ _)).mono ?_)
       rintro e w1 ⟨rfl, hb⟩
       have Z1 := Aside0.mk (below_alloc (below_step Z0.out hb) (.cells #[.int .u32 p0, .int .i64 p1, .int .i64 p2, .int .i64 p3] 24))
       have X1 := Aside0.mk (blk_new w1 (.cells #[.int .u32 p0, .int .i64 p1, .int .i64 p2, .int .i64 p3] 24 (0, 0)))
       have H1 := Aside0.mk (HY.out (w1.alloc (.cells #[.int .u32 p0, .int .i64 p1, .int .i64 p2, .int .i64 p3] 24 (0, 0))))
       rw [World.size_alloc] at H1
       clear hb H0 Z0)
    | (have mk_ := H1; clear mk_; go_at_call 17; (refine (HQ.out (some ⟨w1.heap.size + 1, 0, none⟩) (Dl.cap _ ys) _ H1.out (Dl.cap_ge _ _)).mono ?_)
       rintro e w2 ⟨rfl, hb⟩
       have hW := Dl.below ys (w1.alloc (.cells #[.int .u32 p0, .int .i64 p1, .int .i64 p2, .int .i64 p3] 24 (0, 0)))
       have Z2 := Aside0.mk (below_alloc (below_step (below_step Z1.out hW) hb) (.cells #[.int .u32 q0, .int .i64 q1, .int .i64 q2, .int .i64 q3] 24))
       have X2 := Aside0.mk (blk_alloc (blk_below (blk_below X1.out hW) hb) (.cells #[.int .u32 q0, .int .i64 q1, .int .i64 q2, .int .i64 q3] 24 (0, 0)))
       have x0 := blk_cell X2.out 0
       clear hb hW H1 Z1 X1))
  go_ret
  exact ⟨rfl, Z2.out⟩
set_option maxHeartbeats 400000 in
set_option maxRecDepth 100000 in
theorem Dl.next_y1 {xs ys b : List Int} {p0 p1 p2 p3 p4 q0 q1 q2 q3 q4 : Int} (hx : Bytes xs) (hy : Bytes ys) (hxl : xs.length ≤ 4096) (hyl : ys.length ≤ 4096) (hbx : b.take 64 = xs) (hby : b.drop 64 = ys) (hl : b.length = 128) (hp : Rd.dec xs = (p0, p1, p2, p3, p4)) (hq : Rd.dec ys = (q0, q1, q2, q3, q4)) (w : World) (e4 : (p4 == 0) = true) (g4 : (q4 == 0) = true) (d : decide (q0 < p0) = false) :
    Calls Try.prog 50 #[.string (strOfNums b)] w fun e w' => e = .returned (.int .i64 0) ∧ Below w.heap.size w w' := by
  have hu := Try.underlying24
  have g5 : (q4 != 0) = false := by unfold bne; rw [g4]; rfl
  have HP := Aside0.mk (fun A c W => Dl.dec hx hp A c W)
  have HQ := Aside0.mk (fun A c W => Dl.dec hy hq A c W)
  have sl0 : ∀ W, (Instr.slice 9 (.string (strOfNums b)) none (some (.int .i64 64)) none).run Try.prog W = .ok (.string (strOfNums xs)) W := fun W => by
    rw [Dz.to ⟨b, false, 0, false, 0⟩ 64 (by decide) (by show (64 : Int) ≤ b.length; omega)]
    show _ = Result.ok (Value.string (strOfNums xs)) W
    rw [← hbx]
    rfl
  have sl1 : ∀ W, (Instr.slice 9 (.string (strOfNums b)) (some (.int .i64 64)) none none).run Try.prog W = .ok (.string (strOfNums ys)) W := fun W => by
    rw [Dz.from ⟨b, false, 0, false, 0⟩ 64 (by decide) (by show (64 : Int) ≤ b.length; omega)]
    show _ = Result.ok (Value.string (strOfNums ys)) W
    rw [← hby]
    rfl
  have cv0 := Dl.conv xs
  have cv1 := Dl.conv ys
  have HX := Aside0.mk (fun W => Dl.reads hx hxl W)
  have HY := Aside0.mk (fun W => Dl.reads hy hyl W)
  have H0 := Aside0.mk (HX.out w)
  have Z0 := Aside0.mk (Dl.below xs w)
  clear hx hy hxl hyl hbx hby hl hp hq
  go_enter Try.func50, Try.ntmps50
  go_wp2_with (first
    | (have mk_ := H0; clear mk_; go_at_call 17; (refine (HP.out (some ⟨w.heap.size, 0, none⟩) (Dl.cap _ xs) _ H0.out (Dl.cap_ge _ _)).mono ?_)
       rintro e w1 ⟨rfl, hb⟩
       have Z1 := Aside0.mk (below_alloc (below_step Z0.out hb) (.cells #[.int .u32 p0, .int .i64 p1, .int .i64 p2, .int .i64 p3] 24))
       have X1 := Aside0.mk (blk_new w1 (.cells #[.int .u32 p0, .int .i64 p1, .int .i64 p2, .int .i64 p3] 24 (0, 0)))
       have H1 := Aside0.mk (HY.out (w1.alloc (.cells #[.int .u32 p0, .int .i64 p1, .int .i64 p2, .int .i64 p3] 24 (0, 0))))
       rw [World.size_alloc] at H1
       clear hb H0 Z0)
    | (have mk_ := H1; clear mk_; go_at_call 17; (refine (HQ.out (some ⟨w1.heap.size + 1, 0, none⟩) (Dl.cap _ ys) _ H1.out (Dl.cap_ge _ _)).mono ?_)
       rintro e w2 ⟨rfl, hb⟩
       have hW := Dl.below ys (w1.alloc (.cells #[.int .u32 p0, .int .i64 p1, .int .i64 p2, .int .i64 p3] 24 (0, 0)))
       have Z2 := Aside0.mk (below_alloc (below_step (below_step Z1.out hW) hb) (.cells #[.int .u32 q0, .int .i64 q1, .int .i64 q2, .int .i64 q3] 24))
       have X2 := Aside0.mk (blk_alloc (blk_below (blk_below X1.out hW) hb) (.cells #[.int .u32 q0, .int .i64 q1, .int .i64 q2, .int .i64 q3] 24 (0, 0)))
       have x0 := blk_cell X2.out 0
       clear hb hW H1 Z1 X1))
  go_ret
  exact ⟨rfl, Z2.out⟩
set_option maxHeartbeats 400000 in
set_option maxRecDepth 100000 in
theorem Dl.next_y2 {xs ys b : List Int} {p0 p1 p2 p3 p4 q0 q1 q2 q3 q4 : Int} (hx : Bytes xs) (hy : Bytes ys) (hxl : xs.length ≤ 4096) (hyl : ys.length ≤ 4096) (hbx : b.take 64 = xs) (hby : b.drop 64 = ys) (hl : b.length = 128) (hp : Rd.dec xs = (p0, p1, p2, p3, p4)) (hq : Rd.dec ys = (q0, q1, q2, q3, q4)) (w : World) (e4 : (p4 == 0) = false) (g4 : (q4 == 0) = true) :
    Calls Try.prog 50 #[.string (strOfNums b)] w fun e w' => e = .returned (.int .i64 0) ∧ Below w.heap.size w w' := by
  have hu := Try.underlying24
  have g5 : (q4 != 0) = false := by unfold bne; rw [g4]; rfl
  have HP := Aside0.mk (fun A c W => Dl.dec hx hp A c W)
  have HQ := Aside0.mk (fun A c W => Dl.dec hy hq A c W)
  have sl0 : ∀ W, (Instr.slice 9 (.string (strOfNums b)) none (some (.int .i64 64)) none).run Try.prog W = .ok (.string (strOfNums xs)) W := fun W => by
    rw [Dz.to ⟨b, false, 0, false, 0⟩ 64 (by decide) (by show (64 : Int) ≤ b.length; omega)]
    show _ = Result.ok (Value.string (strOfNums xs)) W
    rw [← hbx]
    rfl
  have sl1 : ∀ W, (Instr.slice 9 (.string (strOfNums b)) (some (.int .i64 64)) none none).run Try.prog W = .ok (.string (strOfNums ys)) W := fun W => by
    rw [Dz.from ⟨b, false, 0, false, 0⟩ 64 (by decide) (by show (64 : Int) ≤ b.length; omega)]
    show _ = Result.ok (Value.string (strOfNums ys)) W
    rw [← hby]
    rfl
  have cv0 := Dl.conv xs
  have cv1 := Dl.conv ys
  have HX := Aside0.mk (fun W => Dl.reads hx hxl W)
  have HY := Aside0.mk (fun W => Dl.reads hy hyl W)
  have H0 := Aside0.mk (HX.out w)
  have Z0 := Aside0.mk (Dl.below xs w)
  clear hx hy hxl hyl hbx hby hl hp hq
  go_enter Try.func50, Try.ntmps50
  go_wp2_with (first
    | (have mk_ := H0; clear mk_; go_at_call 17; (refine (HP.out (some ⟨w.heap.size, 0, none⟩) (Dl.cap _ xs) _ H0.out (Dl.cap_ge _ _)).mono ?_)
       rintro e w1 ⟨rfl, hb⟩
       have Z1 := Aside0.mk (below_alloc (below_step Z0.out hb) (.cells #[.int .u32 p0, .int .i64 p1, .int .i64 p2, .int .i64 p3] 24))
       have X1 := Aside0.mk (blk_new w1 (.cells #[.int .u32 p0, .int .i64 p1, .int .i64 p2, .int .i64 p3] 24 (0, 0)))
       have H1 := Aside0.mk (HY.out (w1.alloc (.cells #[.int .u32 p0, .int .i64 p1, .int .i64 p2, .int .i64 p3] 24 (0, 0))))
       rw [World.size_alloc] at H1
       clear hb H0 Z0)
    | (have mk_ := H1; clear mk_; go_at_call 17; (refine (HQ.out (some ⟨w1.heap.size + 1, 0, none⟩) (Dl.cap _ ys) _ H1.out (Dl.cap_ge _ _)).mono ?_)
       rintro e w2 ⟨rfl, hb⟩
       have hW := Dl.below ys (w1.alloc (.cells #[.int .u32 p0, .int .i64 p1, .int .i64 p2, .int .i64 p3] 24 (0, 0)))
       have Z2 := Aside0.mk (below_alloc (below_step (below_step Z1.out hW) hb) (.cells #[.int .u32 q0, .int .i64 q1, .int .i64 q2, .int .i64 q3] 24))
       have X2 := Aside0.mk (blk_alloc (blk_below (blk_below X1.out hW) hb) (.cells #[.int .u32 q0, .int .i64 q1, .int .i64 q2, .int .i64 q3] 24 (0, 0)))
       have x0 := blk_cell X2.out 0
       clear hb hW H1 Z1 X1))
  go_ret
  exact ⟨rfl, Z2.out⟩
set_option maxHeartbeats 400000 in
set_option maxRecDepth 100000 in
theorem Dl.next_y3 {xs ys b : List Int} {p0 p1 p2 p3 p4 q0 q1 q2 q3 q4 : Int} (hx : Bytes xs) (hy : Bytes ys) (hxl : xs.length ≤ 4096) (hyl : ys.length ≤ 4096) (hbx : b.take 64 = xs) (hby : b.drop 64 = ys) (hl : b.length = 128) (hp : Rd.dec xs = (p0, p1, p2, p3, p4)) (hq : Rd.dec ys = (q0, q1, q2, q3, q4)) (w : World) (e4 : (p4 == 0) = false) (g4 : (q4 == 0) = false) :
    Calls Try.prog 50 #[.string (strOfNums b)] w fun e w' => e = .returned (.int .i64 0) ∧ Below w.heap.size w w' := by
  have hu := Try.underlying24
  have g5 : (q4 != 0) = true := by unfold bne; rw [g4]; rfl
  have HP := Aside0.mk (fun A c W => Dl.dec hx hp A c W)
  have HQ := Aside0.mk (fun A c W => Dl.dec hy hq A c W)
  have sl0 : ∀ W, (Instr.slice 9 (.string (strOfNums b)) none (some (.int .i64 64)) none).run Try.prog W = .ok (.string (strOfNums xs)) W := fun W => by
    rw [Dz.to ⟨b, false, 0, false, 0⟩ 64 (by decide) (by show (64 : Int) ≤ b.length; omega)]
    show _ = Result.ok (Value.string (strOfNums xs)) W
    rw [← hbx]
    rfl
  have sl1 : ∀ W, (Instr.slice 9 (.string (strOfNums b)) (some (.int .i64 64)) none none).run Try.prog W = .ok (.string (strOfNums ys)) W := fun W => by
    rw [Dz.from ⟨b, false, 0, false, 0⟩ 64 (by decide) (by show (64 : Int) ≤ b.length; omega)]
    show _ = Result.ok (Value.string (strOfNums ys)) W
    rw [← hby]
    rfl
  have cv0 := Dl.conv xs
  have cv1 := Dl.conv ys
  have HX := Aside0.mk (fun W => Dl.reads hx hxl W)
  have HY := Aside0.mk (fun W => Dl.reads hy hyl W)
  have H0 := Aside0.mk (HX.out w)
  have Z0 := Aside0.mk (Dl.below xs w)
  clear hx hy hxl hyl hbx hby hl hp hq
  go_enter Try.func50, Try.ntmps50
  go_wp2_with (first
    | (have mk_ := H0; clear mk_; go_at_call 17; (refine (HP.out (some ⟨w.heap.size, 0, none⟩) (Dl.cap _ xs) _ H0.out (Dl.cap_ge _ _)).mono ?_)
       rintro e w1 ⟨rfl, hb⟩
       have Z1 := Aside0.mk (below_alloc (below_step Z0.out hb) (.cells #[.int .u32 p0, .int .i64 p1, .int .i64 p2, .int .i64 p3] 24))
       have X1 := Aside0.mk (blk_new w1 (.cells #[.int .u32 p0, .int .i64 p1, .int .i64 p2, .int .i64 p3] 24 (0, 0)))
       have H1 := Aside0.mk (HY.out (w1.alloc (.cells #[.int .u32 p0, .int .i64 p1, .int .i64 p2, .int .i64 p3] 24 (0, 0))))
       rw [World.size_alloc] at H1
       clear hb H0 Z0)
    | (have mk_ := H1; clear mk_; go_at_call 17; (refine (HQ.out (some ⟨w1.heap.size + 1, 0, none⟩) (Dl.cap _ ys) _ H1.out (Dl.cap_ge _ _)).mono ?_)
       rintro e w2 ⟨rfl, hb⟩
       have hW := Dl.below ys (w1.alloc (.cells #[.int .u32 p0, .int .i64 p1, .int .i64 p2, .int .i64 p3] 24 (0, 0)))
       have Z2 := Aside0.mk (below_alloc (below_step (below_step Z1.out hW) hb) (.cells #[.int .u32 q0, .int .i64 q1, .int .i64 q2, .int .i64 q3] 24))
       have X2 := Aside0.mk (blk_alloc (blk_below (blk_below X1.out hW) hb) (.cells #[.int .u32 q0, .int .i64 q1, .int .i64 q2, .int .i64 q3] 24 (0, 0)))
       have x0 := blk_cell X2.out 0
       clear hb hW H1 Z1 X1))
  go_ret
  exact ⟨rfl, Z2.out⟩
/-- What the document holds of two slots. -/
def Dl.val (p q : Wh.D5) : Wh.R4 × Bool := if (Wh.ok p && (!Wh.ok q || decide (q.1 ≤ p.1))) = true then (Wh.rec p, true) else (Wh.rec q, Wh.ok q)
theorem Dl.load {b : List Int} (hb : Bytes b) (hl : b.length = 128) (w : World) :
    Calls Try.prog 49 #[.string (strOfNums b)] w fun e w' => e = .returned (.tuple #[.agg #[.int .u32 (Dl.val (Rd.dec (b.take 64)) (Rd.dec (b.drop 64))).1.1, .int .i64 (Dl.val (Rd.dec (b.take 64)) (Rd.dec (b.drop 64))).1.2.1, .int .i64 (Dl.val (Rd.dec (b.take 64)) (Rd.dec (b.drop 64))).1.2.2.1, .int .i64 (Dl.val (Rd.dec (b.take 64)) (Rd.dec (b.drop 64))).1.2.2.2], .bool (Dl.val (Rd.dec (b.take 64)) (Rd.dec (b.drop 64))).2]) ∧ Below w.heap.size w w' := by
  obtain ⟨⟨p0, p1, p2, p3, p4⟩, hp⟩ : ∃ p, Rd.dec (b.take 64) = p := ⟨_, rfl⟩
  obtain ⟨⟨q0, q1, q2, q3, q4⟩, hq⟩ : ∃ q, Rd.dec (b.drop 64) = q := ⟨_, rfl⟩
  have hx := bytes_take hb 64
  have hy := bytes_drop hb 64
  have hxl : (b.take 64).length ≤ 4096 := by rw [List.length_take]; omega
  have hyl : (b.drop 64).length ≤ 4096 := by rw [List.length_drop]; omega
  rw [hp, hq]
  unfold Dl.val Wh.ok Wh.rec
  cases e4 : (p4 == 0) with
  | true =>
    cases g4 : (q4 == 0) with
    | false => exact Dl.load_x1 hx hy hxl hyl rfl rfl hl hp hq w e4 g4
    | true =>
      cases d : decide (q0 ≤ p0) with
      | true => exact Dl.load_x2 hx hy hxl hyl rfl rfl hl hp hq w e4 g4 d
      | false => exact Dl.load_y1 hx hy hxl hyl rfl rfl hl hp hq w e4 g4 d
  | false =>
    cases g4 : (q4 == 0) with
    | true => exact Dl.load_y2 hx hy hxl hyl rfl rfl hl hp hq w e4 g4
    | false => exact Dl.load_y3 hx hy hxl hyl rfl rfl hl hp hq w e4 g4
theorem Dl.nxt {b : List Int} (hb : Bytes b) (hl : b.length = 128) (w : World) :
    Calls Try.prog 50 #[.string (strOfNums b)] w fun e w' => e = .returned (.int .i64 (Dl.next (Rd.dec (b.take 64)).1 (Rd.dec (b.take 64)).2.2.2.2 (Rd.dec (b.drop 64)).1 (Rd.dec (b.drop 64)).2.2.2.2)) ∧ Below w.heap.size w w' := by
  obtain ⟨⟨p0, p1, p2, p3, p4⟩, hp⟩ : ∃ p, Rd.dec (b.take 64) = p := ⟨_, rfl⟩
  obtain ⟨⟨q0, q1, q2, q3, q4⟩, hq⟩ : ∃ q, Rd.dec (b.drop 64) = q := ⟨_, rfl⟩
  have hx := bytes_take hb 64
  have hy := bytes_drop hb 64
  have hxl : (b.take 64).length ≤ 4096 := by rw [List.length_take]; omega
  have hyl : (b.drop 64).length ≤ 4096 := by rw [List.length_drop]; omega
  rw [hp, hq]
  unfold Dl.next
  show Calls _ _ _ _ fun e w' => e = .returned (.int .i64 (if ((p4 == 0) && (!(q4 == 0) || decide (q0 < p0))) = true then 1 else 0)) ∧ _
  cases e4 : (p4 == 0) with
  | true =>
    cases g4 : (q4 == 0) with
    | false => exact Dl.next_x1 hx hy hxl hyl rfl rfl hl hp hq w e4 g4
    | true =>
      cases d : decide (q0 < p0) with
      | true => exact Dl.next_x2 hx hy hxl hyl rfl rfl hl hp hq w e4 g4 d
      | false => exact Dl.next_y1 hx hy hxl hyl rfl rfl hl hp hq w e4 g4 d
  | false =>
    cases g4 : (q4 == 0) with
    | true => exact Dl.next_y2 hx hy hxl hyl rfl rfl hl hp hq w e4 g4
    | false => exact Dl.next_y3 hx hy hxl hyl rfl rfl hl hp hq w e4 g4
end Go.Proofs.Ytjldkgcabombhaa

/- The contracts of the document's Save (ref27), walked by hand. -/
namespace Go.Proofs.Ytjldkgcabombhaa
open Go.RowKit Go.Proofs.Ytjldkgcabombhaa.Rec Go.Proofs.Ytjldkgcabombhaa.QJ Go.Proofs.Ytjldkgcabombhaa.QK Go.Proofs.YtjldkgcabombhaaW.PrintWords Go.Proofs.YtjldkgcabombhaaW.PrintLast Go.Proofs.YtjldkgcabombhaaW.PrintMore
set_option linter.unusedVariables false
set_option linter.unusedSimpArgs false

def Rv.M (d : Dz) (w W : World) (g : Nat) (bx : Array Value) : Prop := d.At W g ∧ W.heap[w.heap.size]? = some (.cells bx 24 (0, 0)) ∧ W.heap[w.heap.size + 1]? = some (.cells #[.int .u32 0, .int .i64 0, .int .i64 0, .int .i64 0] 24 (0, 0)) ∧ Below w.heap.size w W
theorem Rv.m_below {d : Dz} {w W W1 : World} {g : Nat} {bx : Array Value} (h : Rv.M d w W g bx) (hb : Below W.heap.size W W1) : Rv.M d w W1 g bx := ⟨Dz.below h.1 hb, blk_below h.2.1 hb, blk_below h.2.2.1 hb, below_step h.2.2.2 hb⟩
theorem Rv.m_alloc {d : Dz} {w W : World} {g : Nat} {bx : Array Value} (h : Rv.M d w W g bx) (o : Obj) : Rv.M d w (W.alloc o) g bx := ⟨blk_alloc h.1 _, blk_alloc h.2.1 _, blk_alloc h.2.2.1 _, below_alloc h.2.2.2 _⟩
theorem Rv.m_start {d : Dz} {w : World} {g : Nat} (h : d.At w g) (r0 r1 r2 r3 : Int) : Rv.M d w ((w.alloc (.cells #[.int .u32 r0, .int .i64 r1, .int .i64 r2, .int .i64 r3] 24 (0, 0))).alloc (.cells #[.int .u32 0, .int .i64 0, .int .i64 0, .int .i64 0] 24 (0, 0))) g #[.int .u32 r0, .int .i64 r1, .int .i64 r2, .int .i64 r3] := ⟨blk_alloc (blk_alloc h _) _, blk_alloc (blk_new w _) _, Sv.new w r0 r1 r2 r3, below_alloc (below_alloc (Below.refl _ _) _) _⟩
theorem Rv.m_end {d d' : Dz} {w W W' : World} {g : Nat} {bx : Array Value} (hg : g ≠ w.heap.size ∧ g ≠ w.heap.size + 1) (h : Rv.M d w W g bx) (hA : d'.At W' g) (hF : Fs.Fr g W W') : d'.At W' g ∧ Fs.Fr g w W' ∧ W'.heap[w.heap.size]? = some (.cells bx 24 (0, 0)) ∧ W'.heap[w.heap.size + 1]? = some (.cells #[.int .u32 0, .int .i64 0, .int .i64 0, .int .i64 0] 24 (0, 0)) :=
  ⟨hA, Fs.fr_trans (Fs.fr_of_below g h.2.2.2) hF, (hF.2 _ (blk_lt h.2.1) hg.1.symm).trans h.2.1, (hF.2 _ (blk_lt h.2.2.1) hg.2.symm).trans h.2.2.1⟩
theorem Rv.m_set {d : Dz} {w W : World} {g : Nat} {x0 x1 x2 x3 y0 : Value} (hg : g ≠ w.heap.size) (h : Rv.M d w W g #[x0, x1, x2, x3]) : Rv.M d w (W.setCell ⟨w.heap.size, 0, none⟩ y0) g #[y0, x1, x2, x3] :=
  ⟨blk_far h.1 (p := ⟨w.heap.size, 0, none⟩) hg y0, blk_put (cs' := #[y0, x1, x2, x3]) h.2.1 0 y0 rfl, blk_far h.2.2.1 (p := ⟨w.heap.size, 0, none⟩) (by show w.heap.size + 1 ≠ w.heap.size; omega) y0, h.2.2.2.setCell (p := ⟨w.heap.size, 0, none⟩) (Nat.le_refl _) y0⟩
/-- What of a row a torn write lays. -/
def Dz.tcut (d : Dz) (en : List Int) : List Int := en.take (if (en.length : Int) < d.pre then (en.length : Int) else d.pre).toNat
set_option maxHeartbeats 1000000 in
set_option maxRecDepth 100000 in
theorem Rv.ok {d : Dz} {w : World} {g : Nat} (r0 r1 r2 r3 o0 o1 o2 o3 o' at' : Int) (ob : Bool) (nx : Int) (h : d.At w g) (hl : d.b.length ≤ 4096) (hs : d.set = false) (hm : d.may at' 64 = 0) (ha : wrap64 (64 * nx) = at') (ho : o0 ≠ 4294967295) (ho' : (o0 + 1) % 4294967296 = o')
    (hL : ∀ W, Calls Try.prog 49 #[.string (strOfNums d.b)] W fun e w' => e = .returned (.tuple #[.agg #[.int .u32 o0, .int .i64 o1, .int .i64 o2, .int .i64 o3], .bool ob]) ∧ Below W.heap.size W w')
    (hN : ∀ W, Calls Try.prog 50 #[.string (strOfNums d.b)] W fun e w' => e = .returned (.int .i64 nx) ∧ Below W.heap.size W w') :
    Calls Try.prog 46 #[.pointer (some ⟨g, 0, none⟩), .agg #[.int .u32 r0, .int .i64 r1, .int .i64 r2, .int .i64 r3]] w fun e w' => e = .returned (.tuple #[.agg #[.int .u32 o', .int .i64 r1, .int .i64 r2, .int .i64 r3], .int .i64 0]) ∧ (d.wrote at'.toNat (Rc.enc o' r1 r2 r3)).At w' g ∧ Fs.Fr g w w' := by
  have hu2 := Try.underlying24
  have hu67 := Try.underlying67
  have ha' : IntKind.i64.wrap (64 * nx) = at' := ((IntKind.wrap_i64 _).trans (show _ = wrap64 (64 * nx) by unfold wrap64; rfl)).trans ha
  have HL := Aside0.mk hL
  have HN := Aside0.mk hN
  have HLL := Aside0.mk hl
  have HS := Aside0.mk hs
  have HG := Aside0.mk (show g ≠ w.heap.size ∧ g ≠ w.heap.size + 1 by have := blk_lt h; omega)
  have HM := Aside0.mk (Rv.m_start h r0 r1 r2 r3)
  have b0 := Dz.c_b HM.out.1
  have d1 : (o0 == 4294967295) = false := beq_eq_false_iff_ne.mpr ho
  obtain ⟨en, hen⟩ : ∃ en, Rc.enc o' r1 r2 r3 = en := ⟨_, rfl⟩
  have HE := Aside0.mk (fun W => remontoireref26_Encode.calls o' r1 r2 r3 (Rc.enc o' r1 r2 r3) W rfl)
  have hlen : (Rc.enc o' r1 r2 r3).length = 64 := enc_length ..
  rw [hen] at HE hlen ⊢
  have HW := Aside0.mk (show d.may at' (en.length : Nat) = 0 by rw [hlen]; exact hm)
  clear h hl hs hm ho hL hN hen hlen
  go_enter Try.func46, Try.ntmps46
  go_upto_region 5 with (first
    | (go_at_call 49; (refine (HL.out _).mono ?_)
       rintro e w1 ⟨rfl, hb⟩
       have HM1 := Aside0.mk (Rv.m_alloc (Rv.m_below HM.out hb) (.cells #[.int .u32 o0, .int .i64 o1, .int .i64 o2, .int .i64 o3] 24 (0, 0)))
       have HO := Aside0.mk (blk_new w1 (.cells #[.int .u32 o0, .int .i64 o1, .int .i64 o2, .int .i64 o3] 24 (0, 0)))
       have k0 := blk_cell HM1.out.2.1 0
       have f0 := blk_frozen HM1.out.2.1 0
       clear hb HM HL b0))
  have HM3 := Aside0.mk (Rv.m_set (y0 := .int .u32 o') HG.out.1 HM1.out)
  generalize ((w1.alloc (.cells #[.int .u32 o0, .int .i64 o1, .int .i64 o2, .int .i64 o3] 24 (0, 0))).setCell ⟨w.heap.size, 0, none⟩ (.int .u32 o')) = w3 at HM3 ⊢
  clear k0 f0 HM1 HO
  have b0 := Dz.c_b HM3.out.1
  have k0 := blk_cell HM3.out.2.1 0
  have k1 := blk_cell HM3.out.2.1 1
  have k2 := blk_cell HM3.out.2.1 2
  have k3 := blk_cell HM3.out.2.1 3
  go_cut [8] (fun s8 wr => s8 = .int .i64 0 ∧ Aside0 ((d.wrote at'.toNat en).At wr g ∧ Fs.Fr g w wr ∧ wr.heap[w.heap.size]? = some (.cells #[.int .u32 o', .int .i64 r1, .int .i64 r2, .int .i64 r3] 24 (0, 0)) ∧ wr.heap[w.heap.size + 1]? = some (.cells #[.int .u32 0, .int .i64 0, .int .i64 0, .int .i64 0] 24 (0, 0))))
  case first =>
    go_region_with (first
      | (go_at_call 50; (refine (HN.out _).mono ?_)
         rintro e w4 ⟨rfl, hb⟩
         have HM4 := Aside0.mk (Rv.m_below HM3.out ((below_drew1 (Below.refl _ _)).trans hb))
         have j0 := blk_cell HM4.out.2.1 0
         have j1 := blk_cell HM4.out.2.1 1
         have j2 := blk_cell HM4.out.2.1 2
         have j3 := blk_cell HM4.out.2.1 3
         clear hb)
      | (go_at_call 15; (refine (HE.out _).mono ?_)
         rintro e w5 ⟨v, rfl, hr, hb⟩
         obtain ⟨A, c, rfl⟩ := Kd.R_slice hr
         have HR := Aside0.mk hr
         have HM5 := Aside0.mk (Rv.m_below HM4.out hb)
         clear hr hb)
      | (go_at_call 33; (refine (Dz.write_ok at' A c en HM5.out.1 HLL.out HW.out HS.out (Kd.R_reads' HR.out).2.2 (Kd.R_reads' HR.out).2.1).mono ?_)
         rintro e w6 ⟨rfl, hA, hF⟩
         have HZ := Aside0.mk (Rv.m_end HG.out HM5.out hA hF)
         clear hA hF))
    all_goals (go_wp2_with fail; go_meet)
    all_goals exact ⟨rfl, HZ⟩
  case rest =>
    obtain ⟨rfl, HZ⟩ := hcut
    clear HM3 b0 k0 k1 k2 k3
    rename World => w6
    have l0 := blk_cell HZ.out.2.2.1 0
    have l1 := blk_cell HZ.out.2.2.1 1
    have l2 := blk_cell HZ.out.2.2.1 2
    have l3 := blk_cell HZ.out.2.2.1 3
    have u0 := blk_cell HZ.out.2.2.2 0
    have u1 := blk_cell HZ.out.2.2.2 1
    have u2 := blk_cell HZ.out.2.2.2 2
    have u3 := blk_cell HZ.out.2.2.2 3
    have v0 := blk_frozen HZ.out.2.2.2 0
    have v1 := blk_frozen HZ.out.2.2.2 1
    have v2 := blk_frozen HZ.out.2.2.2 2
    have v3 := blk_frozen HZ.out.2.2.2 3
    go_wp2
    have hx := blk_far (blk_far (blk_far (blk_far HZ.out.1 (p := ⟨w.heap.size + 1, 0, none⟩) HG.out.2 (.int .u32 o')) (p := ⟨w.heap.size + 1, 1, none⟩) HG.out.2 (.int .i64 r1)) (p := ⟨w.heap.size + 1, 2, none⟩) HG.out.2 (.int .i64 r2)) (p := ⟨w.heap.size + 1, 3, none⟩) HG.out.2 (.int .i64 r3)
    have hy := (Sq.set4 (y0 := .int .u32 o') (y1 := .int .i64 r1) (y2 := .int .i64 r2) (y3 := .int .i64 r3) (Nat.zero_le (w.heap.size + 1)) HZ.out.2.2.2 HZ.out.2.1.1).1
    have hz := Fs.fr_new (Fs.fr_new (Fs.fr_new (Fs.fr_new HZ.out.2.1 ⟨w.heap.size + 1, 0, none⟩ (Nat.le_succ _) (.int .u32 o')) ⟨w.heap.size + 1, 1, none⟩ (Nat.le_succ _) (.int .i64 r1)) ⟨w.heap.size + 1, 2, none⟩ (Nat.le_succ _) (.int .i64 r2)) ⟨w.heap.size + 1, 3, none⟩ (Nat.le_succ _) (.int .i64 r3)
    generalize ((((w6.setCell ⟨w.heap.size + 1, 0, none⟩ (.int .u32 o')).setCell ⟨w.heap.size + 1, 1, none⟩ (.int .i64 r1)).setCell ⟨w.heap.size + 1, 2, none⟩ (.int .i64 r2)).setCell ⟨w.heap.size + 1, 3, none⟩ (.int .i64 r3)) = w9 at hx hy hz ⊢
    refine bodyPost_ret (results_ct rfl _ _ (w.heap.size + 1) 24 #[.int .u32 o', .int .i64 r1, .int .i64 r2, .int .i64 r3] (0, 0) _ rfl hy Try.underlying24 rfl (by kernel_rfl)) rfl ?_
    exact ⟨rfl, hx, hz⟩
set_option maxHeartbeats 1000000 in
set_option maxRecDepth 100000 in
theorem Rv.torn {d : Dz} {w : World} {g : Nat} (r0 r1 r2 r3 o0 o1 o2 o3 o' at' : Int) (ob : Bool) (nx : Int) (h : d.At w g) (hl : d.b.length ≤ 4096) (hs : d.set = true) (hp : 0 ≤ d.pre) (hm : d.may at' 64 = 0) (ha : wrap64 (64 * nx) = at') (ho : o0 ≠ 4294967295) (ho' : (o0 + 1) % 4294967296 = o')
    (hL : ∀ W, Calls Try.prog 49 #[.string (strOfNums d.b)] W fun e w' => e = .returned (.tuple #[.agg #[.int .u32 o0, .int .i64 o1, .int .i64 o2, .int .i64 o3], .bool ob]) ∧ Below W.heap.size W w')
    (hN : ∀ W, Calls Try.prog 50 #[.string (strOfNums d.b)] W fun e w' => e = .returned (.int .i64 nx) ∧ Below W.heap.size W w') :
    Calls Try.prog 46 #[.pointer (some ⟨g, 0, none⟩), .agg #[.int .u32 r0, .int .i64 r1, .int .i64 r2, .int .i64 r3]] w fun e w' => e = .returned (.tuple #[.agg #[.int .u32 0, .int .i64 0, .int .i64 0, .int .i64 0], .int .i64 10]) ∧ (d.torn at'.toNat (Dz.tcut d (Rc.enc o' r1 r2 r3))).At w' g ∧ Fs.Fr g w w' := by
  have hu2 := Try.underlying24
  have hu67 := Try.underlying67
  have ha' : IntKind.i64.wrap (64 * nx) = at' := ((IntKind.wrap_i64 _).trans (show _ = wrap64 (64 * nx) by unfold wrap64; rfl)).trans ha
  have HL := Aside0.mk hL
  have HN := Aside0.mk hN
  have HLL := Aside0.mk hl
  have HS := Aside0.mk hs
  have HG := Aside0.mk (show g ≠ w.heap.size ∧ g ≠ w.heap.size + 1 by have := blk_lt h; omega)
  have HM := Aside0.mk (Rv.m_start h r0 r1 r2 r3)
  have b0 := Dz.c_b HM.out.1
  have d1 : (o0 == 4294967295) = false := beq_eq_false_iff_ne.mpr ho
  obtain ⟨en, hen⟩ : ∃ en, Rc.enc o' r1 r2 r3 = en := ⟨_, rfl⟩
  have HE := Aside0.mk (fun W => remontoireref26_Encode.calls o' r1 r2 r3 (Rc.enc o' r1 r2 r3) W rfl)
  have hlen : (Rc.enc o' r1 r2 r3).length = 64 := enc_length ..
  rw [hen] at HE hlen ⊢
  have hpre := hp
  obtain ⟨tn, htn⟩ : ∃ tn, en.take (if (en.length : Int) < d.pre then (en.length : Int) else d.pre).toNat = tn := ⟨_, rfl⟩
  have HT := Aside0.mk htn
  have HP := Aside0.mk hpre
  rw [show Dz.tcut d en = tn from htn]
  have HW := Aside0.mk (show d.may at' (en.length : Nat) = 0 by rw [hlen]; exact hm)
  clear h hl hs hm ho hL hN hen hlen htn hpre hp
  go_enter Try.func46, Try.ntmps46
  go_upto_region 5 with (first
    | (go_at_call 49; (refine (HL.out _).mono ?_)
       rintro e w1 ⟨rfl, hb⟩
       have HM1 := Aside0.mk (Rv.m_alloc (Rv.m_below HM.out hb) (.cells #[.int .u32 o0, .int .i64 o1, .int .i64 o2, .int .i64 o3] 24 (0, 0)))
       have HO := Aside0.mk (blk_new w1 (.cells #[.int .u32 o0, .int .i64 o1, .int .i64 o2, .int .i64 o3] 24 (0, 0)))
       have k0 := blk_cell HM1.out.2.1 0
       have f0 := blk_frozen HM1.out.2.1 0
       clear hb HM HL b0))
  have HM3 := Aside0.mk (Rv.m_set (y0 := .int .u32 o') HG.out.1 HM1.out)
  generalize ((w1.alloc (.cells #[.int .u32 o0, .int .i64 o1, .int .i64 o2, .int .i64 o3] 24 (0, 0))).setCell ⟨w.heap.size, 0, none⟩ (.int .u32 o')) = w3 at HM3 ⊢
  clear k0 f0 HM1 HO
  have b0 := Dz.c_b HM3.out.1
  have k0 := blk_cell HM3.out.2.1 0
  have k1 := blk_cell HM3.out.2.1 1
  have k2 := blk_cell HM3.out.2.1 2
  have k3 := blk_cell HM3.out.2.1 3
  go_cut [8] (fun s8 wr => s8 = .int .i64 10 ∧ Aside0 ((d.torn at'.toNat tn).At wr g ∧ Fs.Fr g w wr ∧ wr.heap[w.heap.size]? = some (.cells #[.int .u32 o', .int .i64 r1, .int .i64 r2, .int .i64 r3] 24 (0, 0)) ∧ wr.heap[w.heap.size + 1]? = some (.cells #[.int .u32 0, .int .i64 0, .int .i64 0, .int .i64 0] 24 (0, 0))))
  case first =>
    go_region_with (first
      | (go_at_call 50; (refine (HN.out _).mono ?_)
         rintro e w4 ⟨rfl, hb⟩
         have HM4 := Aside0.mk (Rv.m_below HM3.out ((below_drew1 (Below.refl _ _)).trans hb))
         have j0 := blk_cell HM4.out.2.1 0
         have j1 := blk_cell HM4.out.2.1 1
         have j2 := blk_cell HM4.out.2.1 2
         have j3 := blk_cell HM4.out.2.1 3
         clear hb)
      | (go_at_call 15; (refine (HE.out _).mono ?_)
         rintro e w5 ⟨v, rfl, hr, hb⟩
         obtain ⟨A, c, rfl⟩ := Kd.R_slice hr
         have HR := Aside0.mk hr
         have HM5 := Aside0.mk (Rv.m_below HM4.out hb)
         clear hr hb)
      | (go_at_call 33; (refine (Dz.write_torn at' A c en HM5.out.1 HLL.out HW.out HS.out HP.out (Kd.R_reads' HR.out).2.2 (Kd.R_reads' HR.out).2.1).mono ?_)
         rintro e w6 ⟨rfl, hA, hF⟩
         rw [HT.out] at hA
         have HZ := Aside0.mk (Rv.m_end HG.out HM5.out hA hF)
         clear hA hF))
    all_goals (go_wp2_with fail; go_meet)
    all_goals exact ⟨rfl, HZ⟩
  case rest =>
    obtain ⟨rfl, HZ⟩ := hcut
    clear HM3 b0 k0 k1 k2 k3
    rename World => w6
    have l0 := blk_cell HZ.out.2.2.1 0
    have l1 := blk_cell HZ.out.2.2.1 1
    have l2 := blk_cell HZ.out.2.2.1 2
    have l3 := blk_cell HZ.out.2.2.1 3
    have u0 := blk_cell HZ.out.2.2.2 0
    have u1 := blk_cell HZ.out.2.2.2 1
    have u2 := blk_cell HZ.out.2.2.2 2
    have u3 := blk_cell HZ.out.2.2.2 3
    have v0 := blk_frozen HZ.out.2.2.2 0
    have v1 := blk_frozen HZ.out.2.2.2 1
    have v2 := blk_frozen HZ.out.2.2.2 2
    have v3 := blk_frozen HZ.out.2.2.2 3
    go_wp2
    have hx := blk_far (blk_far (blk_far (blk_far HZ.out.1 (p := ⟨w.heap.size + 1, 0, none⟩) HG.out.2 (.int .u32 0)) (p := ⟨w.heap.size + 1, 1, none⟩) HG.out.2 (.int .i64 0)) (p := ⟨w.heap.size + 1, 2, none⟩) HG.out.2 (.int .i64 0)) (p := ⟨w.heap.size + 1, 3, none⟩) HG.out.2 (.int .i64 0)
    have hy := (Sq.set4 (y0 := .int .u32 0) (y1 := .int .i64 0) (y2 := .int .i64 0) (y3 := .int .i64 0) (Nat.zero_le (w.heap.size + 1)) HZ.out.2.2.2 HZ.out.2.1.1).1
    have hz := Fs.fr_new (Fs.fr_new (Fs.fr_new (Fs.fr_new HZ.out.2.1 ⟨w.heap.size + 1, 0, none⟩ (Nat.le_succ _) (.int .u32 0)) ⟨w.heap.size + 1, 1, none⟩ (Nat.le_succ _) (.int .i64 0)) ⟨w.heap.size + 1, 2, none⟩ (Nat.le_succ _) (.int .i64 0)) ⟨w.heap.size + 1, 3, none⟩ (Nat.le_succ _) (.int .i64 0)
    generalize ((((w6.setCell ⟨w.heap.size + 1, 0, none⟩ (.int .u32 0)).setCell ⟨w.heap.size + 1, 1, none⟩ (.int .i64 0)).setCell ⟨w.heap.size + 1, 2, none⟩ (.int .i64 0)).setCell ⟨w.heap.size + 1, 3, none⟩ (.int .i64 0)) = w9 at hx hy hz ⊢
    refine bodyPost_ret (results_ct rfl _ _ (w.heap.size + 1) 24 #[.int .u32 0, .int .i64 0, .int .i64 0, .int .i64 0] (0, 0) _ rfl hy Try.underlying24 rfl (by kernel_rfl)) rfl ?_
    exact ⟨rfl, hx, hz⟩
set_option maxHeartbeats 1000000 in
set_option maxRecDepth 100000 in
theorem Rv.over {d : Dz} {w : World} {g : Nat} (r0 r1 r2 r3 o1 o2 o3 : Int) (ob : Bool) (h : d.At w g)
    (hL : ∀ W, Calls Try.prog 49 #[.string (strOfNums d.b)] W fun e w' => e = .returned (.tuple #[.agg #[.int .u32 4294967295, .int .i64 o1, .int .i64 o2, .int .i64 o3], .bool ob]) ∧ Below W.heap.size W w') :
    Calls Try.prog 46 #[.pointer (some ⟨g, 0, none⟩), .agg #[.int .u32 r0, .int .i64 r1, .int .i64 r2, .int .i64 r3]] w fun e w' => e = .returned (.tuple #[.agg #[.int .u32 0, .int .i64 0, .int .i64 0, .int .i64 0], .int .i64 9]) ∧ Below w.heap.size w w' := by
  have hu2 := Try.underlying24
  have hu67 := Try.underlying67
  have HL := Aside0.mk hL
  have HM := Aside0.mk (Rv.m_start h r0 r1 r2 r3)
  have b0 := Dz.c_b HM.out.1
  clear h hL
  go_enter Try.func46, Try.ntmps46
  go_wp2_with (first
    | (go_at_call 49; (refine (HL.out _).mono ?_)
       rintro e w1 ⟨rfl, hb⟩
       have HM1 := Aside0.mk (Rv.m_alloc (Rv.m_below HM.out hb) (.cells #[.int .u32 4294967295, .int .i64 o1, .int .i64 o2, .int .i64 o3] 24 (0, 0)))
       have u0 := blk_cell HM1.out.2.2.1 0
       have u1 := blk_cell HM1.out.2.2.1 1
       have u2 := blk_cell HM1.out.2.2.1 2
       have u3 := blk_cell HM1.out.2.2.1 3
       have v0 := blk_frozen HM1.out.2.2.1 0
       have v1 := blk_frozen HM1.out.2.2.1 1
       have v2 := blk_frozen HM1.out.2.2.1 2
       have v3 := blk_frozen HM1.out.2.2.1 3
       clear hb HM HL b0))
  obtain ⟨hx, hy⟩ := Sq.set4 (y0 := .int .u32 0) (y1 := .int .i64 0) (y2 := .int .i64 0) (y3 := .int .i64 0) (Nat.le_succ w.heap.size) HM1.out.2.2.1 HM1.out.2.2.2
  generalize (((((w1.alloc (.cells #[.int .u32 4294967295, .int .i64 o1, .int .i64 o2, .int .i64 o3] 24 (0, 0))).setCell ⟨w.heap.size + 1, 0, none⟩ (.int .u32 0)).setCell ⟨w.heap.size + 1, 1, none⟩ (.int .i64 0)).setCell ⟨w.heap.size + 1, 2, none⟩ (.int .i64 0)).setCell ⟨w.heap.size + 1, 3, none⟩ (.int .i64 0)) = w9 at hx hy ⊢
  refine bodyPost_ret (results_ct rfl _ _ (w.heap.size + 1) 24 #[.int .u32 0, .int .i64 0, .int .i64 0, .int .i64 0] (0, 0) _ rfl hx Try.underlying24 rfl (by kernel_rfl)) rfl ?_
  exact ⟨rfl, hy⟩
end Go.Proofs.Ytjldkgcabombhaa

/- Plain facts for SlotsPlay: the program's file and the document's, side by side. -/
namespace Go.Proofs.Ytjldkgcabombhaa.Pl
set_option linter.unusedVariables false
open Go.RowKit Go.Proofs.Ytjldkgcabombhaa Go.Proofs.Ytjldkgcabombhaa.Rec Go.Proofs.Ytjldkgcabombhaa.QJ Go.Proofs.Ytjldkgcabombhaa.Wh Go.Proofs.YtjldkgcabombhaaW.PrintWords Go.Proofs.YtjldkgcabombhaaW.PrintLast Go.Proofs.YtjldkgcabombhaaW.PrintMore

/-- The program's file of m bytes and the document's are alike. -/
structure Sim (m : Nat) (s : Fs) (d : Dz) : Prop where
  size : s.size = m
  len : s.b.length = 4096
  le : m ≤ 4096
  bytes : Bytes s.b
  b : d.b = s.b.take m
  set : d.set = s.set
  pre : d.pre = s.pre
  down : d.down = s.down
  wr : d.wr = s.wr
  pos : s.set = true → 0 ≤ s.pre
theorem Sim.dlen {m : Nat} {s : Fs} {d : Dz} (h : Sim m s d) : d.b.length = m := by
  rw [h.b, List.length_take, h.len]
  have := h.le
  omega
theorem Sim.dbytes {m : Nat} {s : Fs} {d : Dz} (h : Sim m s d) : Bytes d.b := by rw [h.b]; exact bytes_take h.bytes _
theorem Sim.ok {m : Nat} {s : Fs} {d : Dz} (h : Sim m s d) : s.Ok := ⟨by rw [h.size]; omega, by rw [h.size]; have := h.le; omega⟩
theorem Sim.may {m : Nat} {s : Fs} {d : Dz} (h : Sim m s d) (at' n : Int) (hi : -9223372036854775808 ≤ at' ∧ at' ≤ 9223372036854775807) : s.may at' n = d.may at' n := by
  unfold Fs.may Dz.may
  rw [h.down]
  cases hd : s.down with
  | true => rfl
  | false =>
    rw [if_neg Bool.false_ne_true, if_neg Bool.false_ne_true, h.dlen]
    have hm := h.le
    by_cases c1 : at' < 0
    · have e : s.inn at' = false := by simp [Fs.inn]; omega
      rw [if_pos e, if_pos c1]
    rw [if_neg c1]
    by_cases c3 : (m : Int) < at'
    · have e : s.inn at' = false := by simp [Fs.inn, h.size]; omega
      rw [if_pos e]
      by_cases c2 : n < 0
      · rw [if_pos c2]
      · rw [if_neg c2, if_pos c3]
    have e1 : s.inn at' = true := by simp [Fs.inn, h.size]; omega
    rw [if_neg (by rw [e1]; decide)]
    by_cases c2 : n < 0
    · have e : s.inn n = false := by simp [Fs.inn]; omega
      rw [if_pos e, if_pos c2]
    rw [if_neg c2, if_neg c3, Rc.w64 ((m : Int) - at') (by omega)]
    by_cases c4 : (m : Int) < n
    · have e : s.inn n = false := by simp [Fs.inn, h.size]; omega
      rw [if_pos e, if_pos (by omega)]
    have e2 : s.inn n = true := by simp [Fs.inn, h.size]; omega
    rw [if_neg (by rw [e2]; decide), Rc.w64 (at' + n) (by omega)]
    by_cases c5 : (m : Int) - at' < n
    · have e : s.inn (at' + n) = false := by simp [Fs.inn, h.size]; omega
      rw [if_pos e, if_pos c5]
    · have e : s.inn (at' + n) = true := by simp [Fs.inn, h.size]; omega
      rw [if_neg (by rw [e]; decide), if_neg c5]
theorem take_lay (b xs : List Int) (l m : Nat) (h : l + xs.length ≤ m) (hb : m ≤ b.length) : (b.take l ++ xs ++ b.drop (l + xs.length)).take m = (b.take m).take l ++ xs ++ (b.take m).drop (l + xs.length) := by
  rw [List.take_take, Nat.min_eq_left (by omega), List.append_assoc, List.append_assoc, List.take_append, List.take_append, List.length_take, Nat.min_eq_left (by omega), List.drop_take]
  rw [List.take_of_length_le (by rw [List.length_take]; omega), List.take_of_length_le (show xs.length ≤ m - l by omega)]
  congr 3
  omega
theorem Sim.lay {m : Nat} {s : Fs} {d : Dz} (h : Sim m s d) (l : Nat) (xs : List Int) (hl : l + xs.length ≤ m) (hx : Bytes xs) : Sim m (s.lay l xs) (d.lay l xs.length xs) := by
  refine ⟨h.size, len_lay h.len (by have := h.le; omega), h.le, bytes_lay h.bytes hx, ?_, h.set, h.pre, h.down, h.wr, h.pos⟩
  show d.b.take l ++ xs ++ d.b.drop (l + xs.length) = (s.b.take l ++ xs ++ s.b.drop (l + xs.length)).take m
  rw [take_lay _ _ _ _ hl (by rw [h.len]; exact h.le), h.b]
theorem Sim.wrote {m : Nat} {s : Fs} {d : Dz} (h : Sim m s d) (l : Nat) (xs : List Int) (hl : l + xs.length ≤ m) (hx : Bytes xs) : Sim m (s.wrote l xs) (d.wrote l xs) := by
  have k := h.lay l xs hl hx
  exact ⟨k.size, k.len, k.le, k.bytes, k.b, k.set, k.pre, k.down, by show wrap64 (d.wr + 1) = wrap64 (s.wr + 1); rw [h.wr], k.pos⟩
theorem Sim.torn {m : Nat} {s : Fs} {d : Dz} (h : Sim m s d) (l : Nat) (xs : List Int) (hl : l + xs.length ≤ m) (hx : Bytes xs) : Sim m (s.torn l xs) (d.torn l xs) := by
  have k := h.lay l xs hl hx
  exact ⟨k.size, k.len, k.le, k.bytes, k.b, rfl, k.pre, rfl, k.wr, fun h => by cases h⟩
theorem Sim.cut {m : Nat} {s : Fs} {d : Dz} (h : Sim m s d) (xs : List Int) : Dz.tcut d xs = xs.take (Fs.cut s xs.length).toNat := by
  unfold Dz.tcut Fs.cut
  rw [h.pre]
theorem Sim.crash {m : Nat} {s : Fs} {d : Dz} (h : Sim m s d) (p : Int) (hp : 0 ≤ p) : Sim m (s.crash p) (d.crash p) :=
  ⟨h.size, h.len, h.le, h.bytes, h.b, rfl, rfl, h.down, h.wr, fun _ => hp⟩
theorem Sim.up {m : Nat} {s : Fs} {d : Dz} (h : Sim m s d) : Sim m {s with down := false} {d with down := false} :=
  ⟨h.size, h.len, h.le, h.bytes, h.b, h.set, h.pre, rfl, h.wr, h.pos⟩
def Dz.new (m : Nat) : Dz := ⟨List.replicate m 0, false, 0, false, 0⟩
theorem Sim.start {m : Nat} (h : m ≤ 4096) : Sim m (Fs.new m) (Dz.new m) :=
  ⟨rfl, List.length_replicate, h, zero_bytes _, by show List.replicate m 0 = (List.replicate 4096 0).take m; rw [List.take_replicate, Nat.min_eq_left h], rfl, rfl, rfl, rfl, fun h => by cases h⟩
theorem Sim.half0 {s : Fs} {d : Dz} (h : Sim 128 s d) : d.b.take 64 = half s 0 := by
  rw [h.b, List.take_take]
  rfl
theorem Sim.half1 {s : Fs} {d : Dz} (h : Sim 128 s d) : d.b.drop 64 = half s 64 := by
  rw [h.b, List.drop_take]
  rfl

/-! ### what is held -/
theorem dec_zero (l : List Int) (h : ok (Rd.dec l) = false) : rec (Rd.dec l) = (0, 0, 0, 0) := by
  unfold Rd.dec at h ⊢
  by_cases c1 : (l.length : Int) < 64
  · rw [if_pos c1]; rfl
  rw [if_neg c1] at h ⊢
  by_cases c2 : 64 < (l.length : Int)
  · rw [if_pos c2]; rfl
  rw [if_neg c2] at h ⊢
  by_cases c3 : Rd.num (Rd.part l 60 4) ≠ IntKind.u64.wrap (Cr.sum (l.take 60))
  · rw [if_pos c3]; rfl
  rw [if_neg c3] at h ⊢
  by_cases c4 : Rd.form l = false
  · rw [if_pos c4]; rfl
  · rw [if_neg c4] at h; cases h
theorem val_doc (a b : List Int) : Dl.val (Rd.dec a) (Rd.dec b) = val (Rd.dec a) (Rd.dec b) := by
  unfold Dl.val val Sl.now
  have hz := dec_zero b
  cases hp : ok (Rd.dec a) <;> cases hq : ok (Rd.dec b) <;> simp [Sl.ahead, hq, hz]
theorem nxt_doc (p q : D5) : Dl.next p.1 p.2.2.2.2 q.1 q.2.2.2.2 = nxt p q := by
  unfold Dl.next nxt Sl.next ok
  cases p.2.2.2.2 == 0 <;> simp
theorem nxt_two (p q : D5) : nxt p q = 0 ∨ nxt p q = 1 := by
  unfold nxt Sl.next
  split
  · exact .inl rfl
  · split
    · exact .inr rfl
    · exact .inl rfl
theorem dec_u32 {l : List Int} (h : Bytes l) : 0 ≤ (Rd.dec l).1 ∧ (Rd.dec l).1 < 4294967296 := by
  cases ho : ok (Rd.dec l) with
  | false =>
    have := dec_zero l ho
    have e : (Rd.dec l).1 = 0 := congrArg (·.1) this
    rw [e]
    decide
  | true =>
    have e : (Rd.dec l).2.2.2.2 = 0 := by unfold ok at ho; exact beq_iff_eq.mp ho
    have := (enc_dec h e).2.1
    rw [this]
    show 0 ≤ n0 l ∧ n0 l < 4294967296
    unfold n0
    omega
theorem val_u32 {a b : List Int} (ha : Bytes a) (hb : Bytes b) : 0 ≤ (val (Rd.dec a) (Rd.dec b)).1.1 ∧ (val (Rd.dec a) (Rd.dec b)).1.1 < 4294967296 := by
  have h1 := dec_u32 ha
  have h2 := dec_u32 hb
  unfold val
  split
  · split
    · exact h1
    · decide
  · split
    · exact h2
    · decide
end Go.Proofs.Ytjldkgcabombhaa.Pl

/- The contracts of Load, Next and Save in the words of what a store holds. -/
namespace Go.Proofs.Ytjldkgcabombhaa
open Go.RowKit Go.Proofs.Ytjldkgcabombhaa.Rec Go.Proofs.Ytjldkgcabombhaa.Wh Go.Proofs.YtjldkgcabombhaaW.PrintWords Go.Proofs.YtjldkgcabombhaaW.PrintLast Go.Proofs.YtjldkgcabombhaaW.PrintMore
set_option linter.unusedVariables false
set_option linter.unusedSimpArgs false

theorem Wl.load {s : Fs} {w : World} {g : Nat} (h : s.At w g) (hz : s.size = 128) (hd : s.down = false) :
    Calls Try.prog 47 #[.pointer (some ⟨g, 0, none⟩)] w fun e w' => e = .returned (.tuple #[.agg #[.int .u32 (val (Rd.dec (half s 0)) (Rd.dec (half s 64))).1.1, .int .i64 (val (Rd.dec (half s 0)) (Rd.dec (half s 64))).1.2.1, .int .i64 (val (Rd.dec (half s 0)) (Rd.dec (half s 64))).1.2.2.1, .int .i64 (val (Rd.dec (half s 0)) (Rd.dec (half s 64))).1.2.2.2], .bool (val (Rd.dec (half s 0)) (Rd.dec (half s 64))).2, .int .i64 0]) ∧ Below w.heap.size w w' := by
  obtain ⟨⟨p0, p1, p2, p3, p4⟩, hp⟩ : ∃ p, Rd.dec (half s 0) = p := ⟨_, rfl⟩
  obtain ⟨⟨q0, q1, q2, q3, q4⟩, hq⟩ : ∃ q, Rd.dec (half s 64) = q := ⟨_, rfl⟩
  rw [hp, hq]
  unfold val Wh.ok Wh.rec
  by_cases hn : Sl.now p0 (p4 == 0) q0 (q4 == 0) = 0
  · rw [if_pos hn]
    cases hw : (p4 == 0) with
    | true => exact Sq.ok0t h hz hd hp hq hn hw
    | false => exact Sq.ok0f h hz hd hp hq hn hw
  · rw [if_neg hn]
    have hn1 : Sl.now p0 (p4 == 0) q0 (q4 == 0) = 1 := by
      unfold Sl.now at hn ⊢
      split at hn
      · exact absurd rfl hn
      · rename_i c; rw [if_neg c]
    cases hw : (q4 == 0) with
    | true => exact Sq.ok1t h hz hd hp hq hn1 hw
    | false => exact Sq.ok1f h hz hd hp hq hn1 hw
theorem Wl.next {s : Fs} {w : World} {g : Nat} (h : s.At w g) (hz : s.size = 128) (hd : s.down = false) :
    Calls Try.prog 48 #[.pointer (some ⟨g, 0, none⟩)] w fun e w' => e = .returned (.tuple #[.int .i64 (nxt (Rd.dec (half s 0)) (Rd.dec (half s 64))), .int .i64 0]) ∧ Below w.heap.size w w' := by
  obtain ⟨⟨p0, p1, p2, p3, p4⟩, hp⟩ : ∃ p, Rd.dec (half s 0) = p := ⟨_, rfl⟩
  obtain ⟨⟨q0, q1, q2, q3, q4⟩, hq⟩ : ∃ q, Rd.dec (half s 64) = q := ⟨_, rfl⟩
  rw [hp, hq]
  exact Sn.ok h hz hd hp hq
theorem Wl.held {s : Fs} {w : World} {g : Nat} {k f d fl : Int} (h : s.At w g) (H : St s k f d fl) :
    Calls Try.prog 47 #[.pointer (some ⟨g, 0, none⟩)] w fun e w' => e = .returned (.tuple #[.agg #[.int .u32 k, .int .i64 f, .int .i64 d, .int .i64 fl], .bool (decide (0 < k)), .int .i64 0]) ∧ Below w.heap.size w w' := by
  have := Wl.load h H.size H.down
  rw [held_val H.held] at this
  exact this
theorem Wl.nx {s : Fs} {w : World} {g : Nat} {k f d fl : Int} (h : s.At w g) (H : St s k f d fl) :
    Calls Try.prog 48 #[.pointer (some ⟨g, 0, none⟩)] w fun e w' => e = .returned (.tuple #[.int .i64 (k % 2), .int .i64 0]) ∧ Below w.heap.size w w' := by
  have := Wl.next h H.size H.down
  rw [held_nxt H.held] at this
  exact this
theorem Wl.may {s : Fs} (k : Int) (hz : s.size = 128) (hd : s.down = false) : s.may (pos k) 64 = 0 := by
  rcases pos_cases k with ⟨hk, hp⟩ | ⟨hk, hp⟩
  · have := Sr.may128 (s := s) hz 0 (by decide)
    rw [hd, if_neg (by decide)] at this
    unfold pos; rw [hk]; exact this
  · have := Sr.may128 (s := s) hz 1 (by decide)
    rw [hd, if_neg (by decide)] at this
    unfold pos; rw [hk]; exact this
theorem Wl.at (k : Int) : wrap64 (k % 2 * 64) = pos k := by
  unfold pos
  rw [Rc.w64 _ (by omega)]
  omega
theorem Wl.save {s : Fs} {w : World} {g : Nat} {k f d fl : Int} (r0 r1 r2 r3 : Int) (h : s.At w g) (H : St s k f d fl) (hk : k < 4294967295) :
    Calls Try.prog 45 #[.pointer (some ⟨g, 0, none⟩), .agg #[.int .u32 r0, .int .i64 r1, .int .i64 r2, .int .i64 r3]] w fun e w' => e = .returned (.tuple #[.agg #[.int .u32 (k + 1), .int .i64 r1, .int .i64 r2, .int .i64 r3], .int .i64 0]) ∧ (s.wrote (pos k).toNat (Rc.enc (k + 1) r1 r2 r3)).At w' g ∧ Fs.Fr g w w' := by
  have h0 := held_pos H.held
  exact Sv.ok (s := s) r0 r1 r2 r3 k f d fl (k + 1) (pos k) (decide (0 < k)) (k % 2) h ⟨by rw [H.size]; decide, by rw [H.size]; decide⟩ H.set (Wl.may k H.size H.down) (Wl.at k) (by omega) (by omega)
    (fun W hW => Wl.held hW H) (fun W hW => Wl.nx hW H)
theorem Wl.tear {s : Fs} {w : World} {g : Nat} {k f d fl : Int} (p r0 r1 r2 r3 : Int) (h : (s.crash p).At w g) (H : St s k f d fl) (hk : k < 4294967295) (hp : 0 ≤ p) :
    Calls Try.prog 45 #[.pointer (some ⟨g, 0, none⟩), .agg #[.int .u32 r0, .int .i64 r1, .int .i64 r2, .int .i64 r3]] w fun e w' => e = .returned (.tuple #[.agg #[.int .u32 0, .int .i64 0, .int .i64 0, .int .i64 0], .int .i64 10]) ∧ ((s.crash p).torn (pos k).toNat ((Rc.enc (k + 1) r1 r2 r3).take (Fs.cut (s.crash p) 64).toNat)).At w' g ∧ Fs.Fr g w w' := by
  have h0 := held_pos H.held
  exact Sv.torn (s := s.crash p) r0 r1 r2 r3 k f d fl (k + 1) (pos k) (decide (0 < k)) (k % 2) h ⟨by show 0 ≤ s.size; rw [H.size]; decide, by show s.size ≤ 4096; rw [H.size]; decide⟩ rfl hp (Wl.may (s := s.crash p) k H.size H.down) (Wl.at k) (by omega) (by omega)
    (fun W hW => by
      have := Wl.load (s := s.crash p) hW H.size H.down
      have e := held_val H.held
      rw [show val (Rd.dec (half (s.crash p) 0)) (Rd.dec (half (s.crash p) 64)) = ((k, f, d, fl), decide (0 < k)) from e] at this
      exact this)
    (fun W hW => by
      have := Wl.next (s := s.crash p) hW H.size H.down
      have e := held_nxt H.held
      rw [show nxt (Rd.dec (half (s.crash p) 0)) (Rd.dec (half (s.crash p) 64)) = k % 2 from e] at this
      exact this)
theorem Wl.up {s : Fs} {w : World} {g : Nat} {k p : Int} {en : List Int} (h : ((s.crash p).torn (pos k).toNat (en.take (Fs.cut (s.crash p) 64).toNat)).At w g) : (tore s k p en).At (w.setCell ⟨g, 4099, none⟩ (.bool false)) g :=
  Fs.put_tail (s := (s.crash p).torn (pos k).toNat (en.take (Fs.cut (s.crash p) 64).toNat)) (s' := tore s k p en) h 3 (.bool false) rfl rfl
end Go.Proofs.Ytjldkgcabombhaa

/- The contracts of slots.read, Load, Next and Save of a file that is down, and of Save behind the last number, walked by hand. -/
namespace Go.Proofs.Ytjldkgcabombhaa
open Go.RowKit Go.Proofs.Ytjldkgcabombhaa.Rec Go.Proofs.YtjldkgcabombhaaW.PrintWords Go.Proofs.YtjldkgcabombhaaW.PrintLast Go.Proofs.YtjldkgcabombhaaW.PrintMore
set_option linter.unusedVariables false
set_option linter.unusedSimpArgs false

set_option maxHeartbeats 1000000 in
set_option maxRecDepth 100000 in
theorem Sr.down {s : Fs} {w : World} {g : Nat} (h : s.At w g) (hz : s.size = 128) (hd : s.down = true) : Calls Try.prog 65 #[.pointer (some ⟨g, 0, none⟩)] w fun e w' => e = .returned (.tuple #[.agg #[.int .u32 0, .int .i64 0, .int .i64 0, .int .i64 0, .bool false, .int .u32 0, .int .i64 0, .int .i64 0, .int .i64 0, .bool false], .int .i64 10]) ∧ Below w.heap.size w w' := by
  have hu := Try.underlying106
  have hu2 := Try.underlying105
  have hu3 := Try.underlying24
  have d1 : (s.size != 128) = false := by rw [hz]; rfl
  have hm0 := Sr.may128 (s := s) hz 0 (by decide)
  rw [hd, if_pos rfl] at hm0
  have HS := Aside0.mk (Sr.s_start h)
  have HR0 := Aside0.mk (fun (W : World) (hA : s.At W g) => Fs.read_bad (w := W) 0 64 hA (by show s.may (64 * (0 : Nat)) 64 ≠ 0; rw [hm0]; decide))
  rw [show s.may 0 64 = 10 from hm0] at HR0
  clear h hz hd hm0
  go_enter Try.func65, Try.ntmps65
  go_upto_region 5 with (first
    | (go_at_call 43; (refine (Fs.size_calls HS.out.2.1).mono ?_)
       rintro e w1 ⟨rfl, rfl⟩))
  go_wp2
  go_loopw [17] (fun v17 wr => ∃ i : Int, v17 = .int .i64 i ∧ i = 0 ∧ Aside0 (Sr.S s w wr g #[.int .u32 0, .int .i64 0, .int .i64 0, .int .i64 0, .bool false, .int .u32 0, .int .i64 0, .int .i64 0, .int .i64 0, .bool false])) (fun v17 _ => (2 - intOf v17).toNat)
  case atStart => exact ⟨0, rfl, rfl, HS⟩
  case round =>
    clear HS
    obtain ⟨i, rfl, rfl, HS⟩ := hrel
    go_wp2_with (first
        | (go_at_call 34; (refine (HR0.out _ HS.out.2.1).mono ?_)
           rintro e w2 ⟨rfl, hb⟩
           have HS2 := Aside0.mk (Sr.s_below HS.out hb)
           have k0 := blk_cell HS2.out.1 0
           have f0 := blk_frozen HS2.out.1 0
           have k1 := blk_cell HS2.out.1 1
           have f1 := blk_frozen HS2.out.1 1
           have k2 := blk_cell HS2.out.1 2
           have f2 := blk_frozen HS2.out.1 2
           have k3 := blk_cell HS2.out.1 3
           have f3 := blk_frozen HS2.out.1 3
           have k4 := blk_cell HS2.out.1 4
           have f4 := blk_frozen HS2.out.1 4
           have k5 := blk_cell HS2.out.1 5
           have f5 := blk_frozen HS2.out.1 5
           have k6 := blk_cell HS2.out.1 6
           have f6 := blk_frozen HS2.out.1 6
           have k7 := blk_cell HS2.out.1 7
           have f7 := blk_frozen HS2.out.1 7
           have k8 := blk_cell HS2.out.1 8
           have f8 := blk_frozen HS2.out.1 8
           have k9 := blk_cell HS2.out.1 9
           have f9 := blk_frozen HS2.out.1 9
           clear hb HS))
    have hx := Sr.set10 (y0 := .int .u32 0) (y1 := .int .i64 0) (y2 := .int .i64 0) (y3 := .int .i64 0) (y4 := .bool false) (y5 := .int .u32 0) (y6 := .int .i64 0) (y7 := .int .i64 0) (y8 := .int .i64 0) (y9 := .bool false) HS2.out.1
    have hy := Sr.bel10 (y0 := .int .u32 0) (y1 := .int .i64 0) (y2 := .int .i64 0) (y3 := .int .i64 0) (y4 := .bool false) (y5 := .int .u32 0) (y6 := .int .i64 0) (y7 := .int .i64 0) (y8 := .int .i64 0) (y9 := .bool false) (Nat.le_refl w.heap.size) HS2.out.2.2
    generalize ((((((((((w2.setCell ⟨w.heap.size, 0, none⟩ (.int .u32 0)).setCell ⟨w.heap.size, 1, none⟩ (.int .i64 0)).setCell ⟨w.heap.size, 2, none⟩ (.int .i64 0)).setCell ⟨w.heap.size, 3, none⟩ (.int .i64 0)).setCell ⟨w.heap.size, 4, none⟩ (.bool false)).setCell ⟨w.heap.size, 5, none⟩ (.int .u32 0)).setCell ⟨w.heap.size, 6, none⟩ (.int .i64 0)).setCell ⟨w.heap.size, 7, none⟩ (.int .i64 0)).setCell ⟨w.heap.size, 8, none⟩ (.int .i64 0)).setCell ⟨w.heap.size, 9, none⟩ (.bool false)) = w9 at hx hy ⊢
    refine bodyPost_ret (results_ct rfl _ _ w.heap.size 106 #[.int .u32 0, .int .i64 0, .int .i64 0, .int .i64 0, .bool false, .int .u32 0, .int .i64 0, .int .i64 0, .int .i64 0, .bool false] (0, 0) _ rfl hx Try.underlying106 rfl (by kernel_rfl)) rfl ?_
    exact ⟨rfl, hy⟩
set_option maxHeartbeats 1000000 in
set_option maxRecDepth 100000 in
theorem Sn.down {s : Fs} {w : World} {g : Nat} (h : s.At w g) (hz : s.size = 128) (hd : s.down = true) : Calls Try.prog 48 #[.pointer (some ⟨g, 0, none⟩)] w fun e w' => e = .returned (.tuple #[.int .i64 0, .int .i64 10]) ∧ Below w.heap.size w w' := by
  have hu := Try.underlying106
  have HC := Aside0.mk (Sr.down h hz hd)
  go_enter Try.func48, Try.ntmps48
  go_wp2_with (first
    | (go_at_call 65; (refine HC.out.mono ?_)
       rintro e w1 ⟨rfl, hb⟩
       have HB := Aside0.mk hb
       clear hb))
  go_ret2
  exact ⟨rfl, by first | exact below_alloc HB.out _ | exact HB.out⟩

set_option maxHeartbeats 1000000 in
set_option maxRecDepth 100000 in
theorem Sq.down {s : Fs} {w : World} {g : Nat} (h : s.At w g) (hz : s.size = 128) (hd : s.down = true) : Calls Try.prog 47 #[.pointer (some ⟨g, 0, none⟩)] w fun e w' => e = .returned (.tuple #[.agg #[.int .u32 0, .int .i64 0, .int .i64 0, .int .i64 0], .bool false, .int .i64 10]) ∧ Below w.heap.size w w' := by
  have hu := Try.underlying106
  have hu2 := Try.underlying24
  have HC := Aside0.mk (Sr.down (w := (w.alloc (.cells #[.int .u32 0, .int .i64 0, .int .i64 0, .int .i64 0] 24 (0, 0)))) ⟨blk_alloc h.1 _, h.2⟩ hz hd)
  go_enter Try.func47, Try.ntmps47
  go_wp2_with (first
    | (go_at_call 65; (refine HC.out.mono ?_)
       rintro e w1 ⟨rfl, hb⟩
       have HB := Aside0.mk (below_alloc (below_step (below_alloc (Below.refl w.heap.size w) (.cells #[.int .u32 0, .int .i64 0, .int .i64 0, .int .i64 0] 24 (0, 0))) hb) (.cells #[.int .u32 0, .int .i64 0, .int .i64 0, .int .i64 0, .bool false, .int .u32 0, .int .i64 0, .int .i64 0, .int .i64 0, .bool false] 106 (0, 0)))
       have HK := Aside0.mk (blk_alloc (blk_below (blk_new w (.cells #[.int .u32 0, .int .i64 0, .int .i64 0, .int .i64 0] 24 (0, 0))) hb) (.cells #[.int .u32 0, .int .i64 0, .int .i64 0, .int .i64 0, .bool false, .int .u32 0, .int .i64 0, .int .i64 0, .int .i64 0, .bool false] 106 (0, 0)))
       have k0 := blk_cell HK.out 0
       have f0 := blk_frozen HK.out 0
       have k1 := blk_cell HK.out 1
       have f1 := blk_frozen HK.out 1
       have k2 := blk_cell HK.out 2
       have f2 := blk_frozen HK.out 2
       have k3 := blk_cell HK.out 3
       have f3 := blk_frozen HK.out 3
       clear hb))
  obtain ⟨hx, hy⟩ := Sq.set4 (y0 := .int .u32 0) (y1 := .int .i64 0) (y2 := .int .i64 0) (y3 := .int .i64 0) (Nat.le_refl w.heap.size) HK.out HB.out
  generalize (((((w1.alloc (.cells #[.int .u32 0, .int .i64 0, .int .i64 0, .int .i64 0, .bool false, .int .u32 0, .int .i64 0, .int .i64 0, .int .i64 0, .bool false] 106)).setCell ⟨w.heap.size, 0, none⟩ (.int .u32 0)).setCell ⟨w.heap.size, 1, none⟩ (.int .i64 0)).setCell ⟨w.heap.size, 2, none⟩ (.int .i64 0)).setCell ⟨w.heap.size, 3, none⟩ (.int .i64 0)) = w9 at hx hy ⊢
  refine bodyPost_ret (results_ctt rfl _ _ w.heap.size 24 #[.int .u32 0, .int .i64 0, .int .i64 0, .int .i64 0] (0, 0) _ rfl hx Try.underlying24 rfl (by kernel_rfl)) rfl ?_
  exact ⟨rfl, hy⟩
set_option maxHeartbeats 1000000 in
set_option maxRecDepth 100000 in
theorem Sv.down {s : Fs} {w : World} {g : Nat} (h : s.At w g) (hz : s.size = 128) (hd : s.down = true) (r0 r1 r2 r3 : Int) : Calls Try.prog 45 #[.pointer (some ⟨g, 0, none⟩), .agg #[.int .u32 r0, .int .i64 r1, .int .i64 r2, .int .i64 r3]] w fun e w' => e = .returned (.tuple #[.agg #[.int .u32 0, .int .i64 0, .int .i64 0, .int .i64 0], .int .i64 10]) ∧ Below w.heap.size w w' := by
  have hu2 := Try.underlying24
  have HC := Aside0.mk (Sq.down (w := ((w.alloc (.cells #[.int .u32 r0, .int .i64 r1, .int .i64 r2, .int .i64 r3] 24 (0, 0))).alloc (.cells #[.int .u32 0, .int .i64 0, .int .i64 0, .int .i64 0] 24 (0, 0)))) ⟨blk_alloc (blk_alloc h.1 _) _, h.2⟩ hz hd)
  have HN := Aside0.mk (Sv.new w r0 r1 r2 r3)
  go_enter Try.func45, Try.ntmps45
  go_wp2_with (first
    | (go_at_call 47; (refine HC.out.mono ?_)
       rintro e w1 ⟨rfl, hb⟩
       have HB := Aside0.mk (below_alloc (below_step (below_alloc (below_alloc (Below.refl w.heap.size w) (.cells #[.int .u32 r0, .int .i64 r1, .int .i64 r2, .int .i64 r3] 24 (0, 0))) (.cells #[.int .u32 0, .int .i64 0, .int .i64 0, .int .i64 0] 24 (0, 0))) hb) (.cells #[.int .u32 0, .int .i64 0, .int .i64 0, .int .i64 0] 24 (0, 0)))
       have HK := Aside0.mk (blk_alloc (blk_below HN.out hb) (.cells #[.int .u32 0, .int .i64 0, .int .i64 0, .int .i64 0] 24 (0, 0)))
       have k0 := blk_cell HK.out 0
       have f0 := blk_frozen HK.out 0
       have k1 := blk_cell HK.out 1
       have f1 := blk_frozen HK.out 1
       have k2 := blk_cell HK.out 2
       have f2 := blk_frozen HK.out 2
       have k3 := blk_cell HK.out 3
       have f3 := blk_frozen HK.out 3
       clear hb))
  obtain ⟨hx, hy⟩ := Sq.set4 (y0 := .int .u32 0) (y1 := .int .i64 0) (y2 := .int .i64 0) (y3 := .int .i64 0) (Nat.le_succ w.heap.size) HK.out HB.out
  generalize (((((w1.alloc (.cells #[.int .u32 0, .int .i64 0, .int .i64 0, .int .i64 0] 24)).setCell ⟨w.heap.size + 1, 0, none⟩ (.int .u32 0)).setCell ⟨w.heap.size + 1, 1, none⟩ (.int .i64 0)).setCell ⟨w.heap.size + 1, 2, none⟩ (.int .i64 0)).setCell ⟨w.heap.size + 1, 3, none⟩ (.int .i64 0)) = w9 at hx hy ⊢
  refine bodyPost_ret (results_ct rfl _ _ (w.heap.size + 1) 24 #[.int .u32 0, .int .i64 0, .int .i64 0, .int .i64 0] (0, 0) _ rfl hx Try.underlying24 rfl (by kernel_rfl)) rfl ?_
  exact ⟨rfl, hy⟩
set_option maxHeartbeats 1000000 in
set_option maxRecDepth 100000 in
theorem Sv.over {s : Fs} {w : World} {g : Nat} (h : s.At w g) (o1 o2 o3 : Int) (ob : Bool) (hL : ∀ W, s.At W g → Calls Try.prog 47 #[.pointer (some ⟨g, 0, none⟩)] W fun e w' => e = .returned (.tuple #[.agg #[.int .u32 4294967295, .int .i64 o1, .int .i64 o2, .int .i64 o3], .bool ob, .int .i64 0]) ∧ Below W.heap.size W w') (r0 r1 r2 r3 : Int) : Calls Try.prog 45 #[.pointer (some ⟨g, 0, none⟩), .agg #[.int .u32 r0, .int .i64 r1, .int .i64 r2, .int .i64 r3]] w fun e w' => e = .returned (.tuple #[.agg #[.int .u32 0, .int .i64 0, .int .i64 0, .int .i64 0], .int .i64 9]) ∧ Below w.heap.size w w' := by
  have hu2 := Try.underlying24
  have HC := Aside0.mk (hL ((w.alloc (.cells #[.int .u32 r0, .int .i64 r1, .int .i64 r2, .int .i64 r3] 24 (0, 0))).alloc (.cells #[.int .u32 0, .int .i64 0, .int .i64 0, .int .i64 0] 24 (0, 0))) ⟨blk_alloc (blk_alloc h.1 _) _, h.2⟩)
  have HN := Aside0.mk (Sv.new w r0 r1 r2 r3)
  go_enter Try.func45, Try.ntmps45
  go_wp2_with (first
    | (go_at_call 47; (refine HC.out.mono ?_)
       rintro e w1 ⟨rfl, hb⟩
       have HB := Aside0.mk (below_alloc (below_step (below_alloc (below_alloc (Below.refl w.heap.size w) (.cells #[.int .u32 r0, .int .i64 r1, .int .i64 r2, .int .i64 r3] 24 (0, 0))) (.cells #[.int .u32 0, .int .i64 0, .int .i64 0, .int .i64 0] 24 (0, 0))) hb) (.cells #[.int .u32 4294967295, .int .i64 o1, .int .i64 o2, .int .i64 o3] 24 (0, 0)))
       have HK := Aside0.mk (blk_alloc (blk_below HN.out hb) (.cells #[.int .u32 4294967295, .int .i64 o1, .int .i64 o2, .int .i64 o3] 24 (0, 0)))
       have k0 := blk_cell HK.out 0
       have f0 := blk_frozen HK.out 0
       have k1 := blk_cell HK.out 1
       have f1 := blk_frozen HK.out 1
       have k2 := blk_cell HK.out 2
       have f2 := blk_frozen HK.out 2
       have k3 := blk_cell HK.out 3
       have f3 := blk_frozen HK.out 3
       clear hb))
  obtain ⟨hx, hy⟩ := Sq.set4 (y0 := .int .u32 0) (y1 := .int .i64 0) (y2 := .int .i64 0) (y3 := .int .i64 0) (Nat.le_succ w.heap.size) HK.out HB.out
  generalize (((((w1.alloc (.cells #[.int .u32 4294967295, .int .i64 o1, .int .i64 o2, .int .i64 o3] 24)).setCell ⟨w.heap.size + 1, 0, none⟩ (.int .u32 0)).setCell ⟨w.heap.size + 1, 1, none⟩ (.int .i64 0)).setCell ⟨w.heap.size + 1, 2, none⟩ (.int .i64 0)).setCell ⟨w.heap.size + 1, 3, none⟩ (.int .i64 0)) = w9 at hx hy ⊢
  refine bodyPost_ret (results_ct rfl _ _ (w.heap.size + 1) 24 #[.int .u32 0, .int .i64 0, .int .i64 0, .int .i64 0] (0, 0) _ rfl hx Try.underlying24 rfl (by kernel_rfl)) rfl ?_
  exact ⟨rfl, hy⟩
end Go.Proofs.Ytjldkgcabombhaa

/- Each call of the program's file, and of its store, beside the document's: both answer alike, and leave files that are alike. -/
namespace Go.Proofs.Ytjldkgcabombhaa
open Go.RowKit Go.Proofs.Ytjldkgcabombhaa.Rec Go.Proofs.Ytjldkgcabombhaa.Wh Go.Proofs.Ytjldkgcabombhaa.Pl Go.Proofs.YtjldkgcabombhaaW.PrintWords Go.Proofs.YtjldkgcabombhaaW.PrintLast Go.Proofs.YtjldkgcabombhaaW.PrintMore
set_option linter.unusedVariables false
set_option linter.unusedSimpArgs false

/-- A call of the program's file: the answer, and the file behind it. -/
def Pv.F (f : Nat) (s : Fs) (s' : Fs) (args : List Value) (v : Value) (w : World) (g : Nat) : Prop := Calls Try.prog f (.pointer (some ⟨g, 0, none⟩) :: args).toArray w fun e w' => e = .returned v ∧ s'.At w' g ∧ Fs.Fr g w w'
def Pv.D (f : Nat) (d : Dz) (d' : Dz) (args : List Value) (v : Value) (w : World) (g : Nat) : Prop := Calls Try.prog f (.pointer (some ⟨g, 0, none⟩) :: args).toArray w fun e w' => e = .returned v ∧ d'.At w' g ∧ Fs.Fr g w w'
theorem Pv.same {f : Nat} {s : Fs} {args : List Value} {v : Value} {w : World} {g : Nat} (h : s.At w g) (hc : Calls Try.prog f (.pointer (some ⟨g, 0, none⟩) :: args).toArray w fun e w' => e = .returned v ∧ Below w.heap.size w w') : Pv.F f s s args v w g :=
  hc.mono (fun _ _ ⟨he, hb⟩ => ⟨he, Fs.below h hb, Fs.fr_of_below g hb⟩)
theorem Pv.same' {f : Nat} {d : Dz} {args : List Value} {v : Value} {w : World} {g : Nat} (h : d.At w g) (hc : Calls Try.prog f (.pointer (some ⟨g, 0, none⟩) :: args).toArray w fun e w' => e = .returned v ∧ Below w.heap.size w w') : Pv.D f d d args v w g :=
  hc.mono (fun _ _ ⟨he, hb⟩ => ⟨he, Dz.below h hb, Fs.fr_of_below g hb⟩)
theorem Pv.kept' {f : Nat} {d : Dz} {args : List Value} {v : Value} {w : World} {g : Nat} (h : d.At w g) (hc : Calls Try.prog f (.pointer (some ⟨g, 0, none⟩) :: args).toArray w fun e w' => e = .returned v ∧ w' = w) : Pv.D f d d args v w g :=
  hc.mono (fun _ _ ⟨he, hb⟩ => by subst hb; exact ⟨he, h, Fs.fr_refl g _⟩)

theorem Pv.crash {m : Nat} {s : Fs} {d : Dz} (H : Sim m s d) (p : Int) : ∃ (e : Int) (s' : Fs) (d' : Dz), Sim m s' d' ∧
    (∀ w g, s.At w g → Pv.F 36 s s' [.int .i64 p] (.int .i64 e) w g) ∧ (∀ w g, d.At w g → Pv.D 37 d d' [.int .i64 p] (.int .i64 e) w g) := by
  have hs0 : 0 ≤ s.size := by rw [H.size]; omega
  cases hd : s.down with
  | true =>
    have hm : s.may 0 0 = 10 := by unfold Fs.may; rw [hd, if_pos rfl]
    refine ⟨10, s, d, H, fun w g h => Pv.same h ?_, fun w g h => Pv.kept' h (Dz.crash_down p h (by rw [H.down]; exact hd))⟩
    have := Fs.crash_bad p h (by rw [hm]; decide)
    rw [hm] at this
    exact this
  | false =>
    have hm : s.may 0 0 = 0 := by
      have e : s.inn 0 = true := by simp [Fs.inn]; exact hs0
      unfold Fs.may
      rw [hd, if_neg Bool.false_ne_true, e, show wrap64 (0 + 0) = 0 by decide +kernel, e]
      rfl
    by_cases hp : p < 0
    · exact ⟨2, s, d, H, fun w g h => Pv.same h (Fs.crash_neg p h hm hp), fun w g h => Pv.kept' h (Dz.crash_neg p h (by rw [H.down]; exact hd) hp)⟩
    · exact ⟨0, s.crash p, d.crash p, H.crash p (by omega), fun w g h => Fs.crash_ok p h hm (by omega), fun w g h => Dz.crash_ok p h (by rw [H.down]; exact hd) (by omega)⟩
theorem Pv.write {m : Nat} {s : Fs} {d : Dz} (H : Sim m s d) (at' : Int) (xs : List Int) (hi : -9223372036854775808 ≤ at' ∧ at' ≤ 9223372036854775807) (hx : Bytes xs) : ∃ (e : Int) (s' : Fs) (d' : Dz), Sim m s' d' ∧
    (∀ w g A c, s.At w g → Kd.C (Kd.int .u8) w A xs.length xs → xs.length ≤ c → Pv.F 32 s s' [.int .i64 at', .slice A xs.length c] (.int .i64 e) w g) ∧
    (∀ w g A c, d.At w g → Kd.C (Kd.int .u8) w A xs.length xs → xs.length ≤ c → Pv.D 33 d d' [.int .i64 at', .slice A xs.length c] (.int .i64 e) w g) := by
  have hm := H.may at' xs.length hi
  by_cases h0 : s.may at' xs.length = 0
  · obtain ⟨z0, z1, z2, z3, z4⟩ := Fs.may_zero H.ok h0
    have hl : at'.toNat + xs.length ≤ m := by rw [H.size] at z3; omega
    have hd0 : d.may at' xs.length = 0 := by rw [← hm]; exact h0
    have hdl : d.b.length ≤ 4096 := by rw [H.dlen]; exact H.le
    cases hs : s.set with
    | false =>
      exact ⟨0, s.wrote at'.toNat xs, d.wrote at'.toNat xs, H.wrote _ _ hl hx, fun w g A c h hC hc => Fs.write_ok at' A xs.length c xs h H.ok h0 hs hC,
        fun w g A c h hC hc => Dz.write_ok at' A c xs h hdl hd0 (by rw [H.set]; exact hs) hC hc⟩
    | true =>
      refine ⟨10, s.torn at'.toNat (xs.take (Fs.cut s xs.length).toNat), d.torn at'.toNat (Dz.tcut d xs), ?_, fun w g A c h hC hc => Fs.write_torn at' A c xs h H.ok h0 hs (H.pos hs) hC hc,
        fun w g A c h hC hc => Dz.write_torn at' A c xs h hdl hd0 (by rw [H.set]; exact hs) (by rw [H.pre]; exact H.pos hs) hC hc⟩
      rw [H.cut xs]
      exact H.torn _ _ (by rw [List.length_take]; omega) (bytes_take hx _)
  · refine ⟨s.may at' xs.length, s, d, H, fun w g A c h hC hc => Pv.same h (Fs.write_bad at' A xs.length c h h0), fun w g A c h hC hc => ?_⟩
    rw [hm]
    exact Pv.same' h (Dz.write_bad at' A xs.length c h (by rw [← hm]; exact h0))
/-- The next slot's place. -/
theorem Pv.may {s : Fs} (hz : s.size = 128) (hd : s.down = false) {n : Int} (hn : n = 0 ∨ n = 1) : s.may (64 * n) 64 = 0 := by
  rcases hn with rfl | rfl
  · have := Sr.may128 (s := s) hz 0 (by decide)
    rw [hd, if_neg (by decide)] at this
    exact this
  · have := Sr.may128 (s := s) hz 1 (by decide)
    rw [hd, if_neg (by decide)] at this
    exact this
theorem Pv.save {s : Fs} {d : Dz} (H : Sim 128 s d) (hd : s.down = false) (r0 r1 r2 r3 : Int) : ∃ (x0 x1 x2 x3 e : Int) (s' : Fs) (d' : Dz), Sim 128 s' d' ∧
    (∀ w g, s.At w g → Pv.F 45 s s' [.agg #[.int .u32 r0, .int .i64 r1, .int .i64 r2, .int .i64 r3]] (.tuple #[.agg #[.int .u32 x0, .int .i64 x1, .int .i64 x2, .int .i64 x3], .int .i64 e]) w g) ∧
    (∀ w g, d.At w g → Pv.D 46 d d' [.agg #[.int .u32 r0, .int .i64 r1, .int .i64 r2, .int .i64 r3]] (.tuple #[.agg #[.int .u32 x0, .int .i64 x1, .int .i64 x2, .int .i64 x3], .int .i64 e]) w g) := by
  have hdl : d.b.length = 128 := H.dlen
  obtain ⟨⟨⟨o0, o1, o2, o3⟩, ob⟩, hv⟩ : ∃ v, val (Rd.dec (half s 0)) (Rd.dec (half s 64)) = v := ⟨_, rfl⟩
  have hu := val_u32 (a := half s 0) (b := half s 64) (bytes_take (bytes_drop H.bytes _) _) (bytes_take (bytes_drop H.bytes _) _)
  rw [hv] at hu
  have hu : 0 ≤ o0 ∧ o0 < 4294967296 := hu
  have hL : ∀ W g, s.At W g → Calls Try.prog 47 #[.pointer (some ⟨g, 0, none⟩)] W fun e w' => e = .returned (.tuple #[.agg #[.int .u32 o0, .int .i64 o1, .int .i64 o2, .int .i64 o3], .bool ob, .int .i64 0]) ∧ Below W.heap.size W w' := fun W g h => by
    have := Wl.load h H.size hd
    rw [hv] at this
    exact this
  have hDL : ∀ W, Calls Try.prog 49 #[.string (strOfNums d.b)] W fun e w' => e = .returned (.tuple #[.agg #[.int .u32 o0, .int .i64 o1, .int .i64 o2, .int .i64 o3], .bool ob]) ∧ Below W.heap.size W w' := fun W => by
    have := Dl.load H.dbytes hdl W
    rw [H.half0, H.half1, val_doc, hv] at this
    exact this
  obtain ⟨nx, hn⟩ : ∃ n, nxt (Rd.dec (half s 0)) (Rd.dec (half s 64)) = n := ⟨_, rfl⟩
  have h2 := nxt_two (Rd.dec (half s 0)) (Rd.dec (half s 64))
  rw [hn] at h2
  have hN : ∀ W g, s.At W g → Calls Try.prog 48 #[.pointer (some ⟨g, 0, none⟩)] W fun e w' => e = .returned (.tuple #[.int .i64 nx, .int .i64 0]) ∧ Below W.heap.size W w' := fun W g h => by
    have := Wl.next h H.size hd
    rw [hn] at this
    exact this
  have hDN : ∀ W, Calls Try.prog 50 #[.string (strOfNums d.b)] W fun e w' => e = .returned (.int .i64 nx) ∧ Below W.heap.size W w' := fun W => by
    have := Dl.nxt H.dbytes hdl W
    rw [H.half0, H.half1, nxt_doc, hn] at this
    exact this
  by_cases ho : o0 = 4294967295
  · subst ho
    exact ⟨0, 0, 0, 0, 9, s, d, H, fun w g h => Pv.same h (Sv.over h o1 o2 o3 ob (fun W hW => hL W g hW) r0 r1 r2 r3), fun w g h => Pv.same' h (Rv.over r0 r1 r2 r3 o1 o2 o3 ob h hDL)⟩
  · have hm : s.may (64 * nx) 64 = 0 := Pv.may H.size hd h2
    have hdm : d.may (64 * nx) 64 = 0 := by rw [← H.may _ _ (by omega)]; exact hm
    have ha : wrap64 (nx * 64) = 64 * nx := by rw [Rc.w64 _ (by omega)]; omega
    have hda : wrap64 (64 * nx) = 64 * nx := Rc.w64 _ (by omega)
    have ho' : (o0 + 1) % 4294967296 = o0 + 1 := by omega
    have he := enc_length (o0 + 1) r1 r2 r3
    have hb := enc_bytes (o0 + 1) r1 r2 r3
    have hl : (64 * nx).toNat + (Rc.enc (o0 + 1) r1 r2 r3).length ≤ 128 := by omega
    cases hs : s.set with
    | false =>
      exact ⟨o0 + 1, r1, r2, r3, 0, s.wrote (64 * nx).toNat (Rc.enc (o0 + 1) r1 r2 r3), d.wrote (64 * nx).toNat (Rc.enc (o0 + 1) r1 r2 r3), H.wrote _ _ hl hb,
        fun w g h => Sv.ok r0 r1 r2 r3 o0 o1 o2 o3 (o0 + 1) (64 * nx) ob nx h H.ok hs hm ha ho ho' (fun W hW => hL W g hW) (fun W hW => hN W g hW),
        fun w g h => Rv.ok r0 r1 r2 r3 o0 o1 o2 o3 (o0 + 1) (64 * nx) ob nx h (by omega) (by rw [H.set]; exact hs) hdm hda ho ho' hDL hDN⟩
    | true =>
      refine ⟨0, 0, 0, 0, 10, s.torn (64 * nx).toNat ((Rc.enc (o0 + 1) r1 r2 r3).take (Fs.cut s 64).toNat), d.torn (64 * nx).toNat (Dz.tcut d (Rc.enc (o0 + 1) r1 r2 r3)), ?_,
        fun w g h => Sv.torn r0 r1 r2 r3 o0 o1 o2 o3 (o0 + 1) (64 * nx) ob nx h H.ok hs (H.pos hs) hm ha ho ho' (fun W hW => hL W g hW) (fun W hW => hN W g hW),
        fun w g h => Rv.torn r0 r1 r2 r3 o0 o1 o2 o3 (o0 + 1) (64 * nx) ob nx h (by omega) (by rw [H.set]; exact hs) (by rw [H.pre]; exact H.pos hs) hdm hda ho ho' hDL hDN⟩
      rw [H.cut _, he]
      exact H.torn _ _ (by rw [List.length_take]; omega) (bytes_take hb _)
theorem Pv.look {s : Fs} {d : Dz} (H : Sim 128 s d) (hd : s.down = false) : ∃ (x0 x1 x2 x3 nx : Int) (b : Bool),
    (∀ w g, s.At w g → Calls Try.prog 47 #[.pointer (some ⟨g, 0, none⟩)] w fun e w' => e = .returned (.tuple #[.agg #[.int .u32 x0, .int .i64 x1, .int .i64 x2, .int .i64 x3], .bool b, .int .i64 0]) ∧ Below w.heap.size w w') ∧
    (∀ w g, s.At w g → Calls Try.prog 48 #[.pointer (some ⟨g, 0, none⟩)] w fun e w' => e = .returned (.tuple #[.int .i64 nx, .int .i64 0]) ∧ Below w.heap.size w w') ∧
    (∀ w, Calls Try.prog 49 #[.string (strOfNums d.b)] w fun e w' => e = .returned (.tuple #[.agg #[.int .u32 x0, .int .i64 x1, .int .i64 x2, .int .i64 x3], .bool b]) ∧ Below w.heap.size w w') ∧
    (∀ w, Calls Try.prog 50 #[.string (strOfNums d.b)] w fun e w' => e = .returned (.int .i64 nx) ∧ Below w.heap.size w w') ∧
    (b = false → x0 = 0 ∧ x1 = 0 ∧ x2 = 0 ∧ x3 = 0) := by
  obtain ⟨⟨⟨o0, o1, o2, o3⟩, ob⟩, hv⟩ : ∃ v, val (Rd.dec (half s 0)) (Rd.dec (half s 64)) = v := ⟨_, rfl⟩
  refine ⟨o0, o1, o2, o3, nxt (Rd.dec (half s 0)) (Rd.dec (half s 64)), ob, fun W g h => ?_, fun W g h => Wl.next h H.size hd, fun W => ?_, fun W => ?_, fun hb => ?_⟩
  · have := Wl.load h H.size hd
    rw [hv] at this
    exact this
  · have := Dl.load H.dbytes H.dlen W
    rw [H.half0, H.half1, val_doc, hv] at this
    exact this
  · have := Dl.nxt H.dbytes H.dlen W
    rw [H.half0, H.half1, nxt_doc] at this
    exact this
  · subst hb
    unfold val at hv
    split at hv
    · split at hv
      · cases hv
      · cases hv; exact ⟨rfl, rfl, rfl, rfl⟩
    · split at hv
      · cases hv
      · cases hv; exact ⟨rfl, rfl, rfl, rfl⟩
end Go.Proofs.Ytjldkgcabombhaa

/- law27's known and SlotsNone, walked by hand. -/
namespace Go.Proofs.Ytjldkgcabombhaa
open Go.RowKit Go.Proofs.Ytjldkgcabombhaa.Rec Go.Proofs.YtjldkgcabombhaaW.PrintWords Go.Proofs.YtjldkgcabombhaaW.PrintLast Go.Proofs.YtjldkgcabombhaaW.PrintMore
set_option linter.unusedVariables false
set_option linter.unusedSimpArgs false

theorem Kn.at_alloc {s : Fs} {w : World} {g : Nat} (h : s.At w g) (o : Obj) : s.At (w.alloc o) g := ⟨blk_alloc h.1 _, h.2⟩
theorem Kn.step {w W X : World} (h : Below w.heap.size w W) (hF : Fs.Fr w.heap.size W X) : Below w.heap.size w X := h.trans (Fs.fr_below hF (Nat.le_refl _) h.size)
theorem Kn.may2 : Kn.s2.may 0 0 = 0 := by decide +kernel
set_option maxHeartbeats 1000000 in
set_option maxRecDepth 100000 in
theorem Kn.known (w : World) : Calls Try.prog 44 #[] w fun e w' => e = .returned (.bool true) ∧ Below w.heap.size w w' := by
  have hu2 := Try.underlying24
  go_enter Try.func44, Try.ntmps44
  go_wp2_with (first
    | (go_at_call 30; (refine (Fs.new_calls 128 _ (by decide)).mono ?_)
       rintro e w1 ⟨rfl, hA, hb⟩
       have H0 := Aside0.mk (show Kn.s0.At w1 w.heap.size from hA)
       have B0 := Aside0.mk hb
       clear hA hb)
    | (go_at_call 45; (refine (Kn.save1 H0.out).mono ?_)
       rintro e w2 ⟨rfl, hA, hF⟩
       have H1 := Aside0.mk (Kn.at_alloc hA (.cells #[.int .u32 1, .int .i64 5, .int .i64 0, .int .i64 0] 24 (0, 0)))
       have B1 := Aside0.mk (below_alloc (Kn.step B0.out hF) (.cells #[.int .u32 1, .int .i64 5, .int .i64 0, .int .i64 0] 24 (0, 0)))
       clear hA hF H0 B0)
    | (go_at_call 45; (refine (Kn.save2 H1.out).mono ?_)
       rintro e w3 ⟨rfl, hA, hF⟩
       have H2 := Aside0.mk (Kn.at_alloc hA (.cells #[.int .u32 2, .int .i64 6, .int .i64 0, .int .i64 0] 24 (0, 0)))
       have B2 := Aside0.mk (below_alloc (Kn.step B1.out hF) (.cells #[.int .u32 2, .int .i64 6, .int .i64 0, .int .i64 0] 24 (0, 0)))
       clear hA hF H1 B1)
    | (go_at_call 36; (refine (Fs.crash_ok 10 H2.out Kn.may2 (by decide)).mono ?_)
       rintro e w4 ⟨rfl, hA, hF⟩
       have H3 := Aside0.mk (show Kn.s3.At w4 w.heap.size from hA)
       have B3 := Aside0.mk (Kn.step B2.out hF)
       clear hA hF H2 B2)
    | (go_at_call 45; (refine (Kn.save3 H3.out).mono ?_)
       rintro e w5 ⟨rfl, hA, hF⟩
       have H4 := Aside0.mk (Kn.at_alloc hA (.cells #[.int .u32 0, .int .i64 0, .int .i64 0, .int .i64 0] 24 (0, 0)))
       have B4 := Aside0.mk (below_alloc (Kn.step B3.out hF) (.cells #[.int .u32 0, .int .i64 0, .int .i64 0, .int .i64 0] 24 (0, 0)))
       clear hA hF H3 B3)
    | (go_at_call 38; (refine (Fs.up_calls H4.out).mono ?_)
       rintro e w6 ⟨rfl, he⟩
       have H5 := Aside0.mk (show Kn.s5.At w6 w.heap.size by rw [he]; exact Kn.up H4.out)
       have B5 := Aside0.mk (show Below w.heap.size w w6 by rw [he]; exact B4.out.setCell (p := ⟨w.heap.size, 4099, none⟩) (Nat.le_refl _) _)
       clear he H4 B4)
    | (go_at_call 47; (refine (Kn.load H5.out).mono ?_)
       rintro e w7 ⟨rfl, hb⟩
       have B6 := Aside0.mk (below_alloc (below_step B5.out hb) (.cells #[.int .u32 2, .int .i64 6, .int .i64 0, .int .i64 0] 24 (0, 0)))
       clear hb H5 B5))
  go_ret
  exact ⟨rfl, B6.out⟩

/-! ### SlotsNone -/
set_option maxHeartbeats 2000000 in
set_option maxRecDepth 100000 in
theorem Kn.bad (size r0 r1 r2 r3 : Int) (w : World) (h : size < 1 ∨ 4096 < size) : Calls Try.prog 11 #[.int .i64 size, .agg #[.int .u32 r0, .int .i64 r1, .int .i64 r2, .int .i64 r3]] w fun e w' => e = .returned (.bool true) ∧ Below w.heap.size w w' := by
  have hu2 := Try.underlying24
  have HH := Aside0.mk h
  clear h
  go_enter Try.func11, Try.ntmps11
  go_wp2_with (first
    | (go_at_call 47; (refine (Sq.nil _).mono ?_)
       rintro e w1 ⟨rfl, hb⟩
       have B0 := Aside0.mk (below_alloc (below_step (below_alloc (Below.refl w.heap.size w) (.cells #[.int .u32 r0, .int .i64 r1, .int .i64 r2, .int .i64 r3] 24 (0, 0))) hb) (.cells #[.int .u32 0, .int .i64 0, .int .i64 0, .int .i64 0] 24 (0, 0)))
       have HK := Aside0.mk (blk_alloc (blk_below (blk_new w (.cells #[.int .u32 r0, .int .i64 r1, .int .i64 r2, .int .i64 r3] 24 (0, 0))) hb) (.cells #[.int .u32 0, .int .i64 0, .int .i64 0, .int .i64 0] 24 (0, 0)))
       clear hb)
    | (go_at_call 48; (refine (Sn.nil _).mono ?_)
       rintro e w2 ⟨rfl, hb⟩
       have B1 := Aside0.mk (below_step B0.out hb)
       have HK1 := Aside0.mk (blk_below HK.out hb)
       have k0 := blk_cell HK1.out 0
       have k1 := blk_cell HK1.out 1
       have k2 := blk_cell HK1.out 2
       have k3 := blk_cell HK1.out 3
       clear hb B0 HK)
    | (go_at_call 45; (refine (Sv.nil _ r0 r1 r2 r3).mono ?_)
       rintro e w3 ⟨rfl, hb⟩
       have B2 := Aside0.mk (below_alloc (below_step B1.out hb) (.cells #[.int .u32 0, .int .i64 0, .int .i64 0, .int .i64 0] 24 (0, 0)))
       have HK2 := Aside0.mk (blk_alloc (blk_below HK1.out hb) (.cells #[.int .u32 0, .int .i64 0, .int .i64 0, .int .i64 0] 24 (0, 0)))
       clear hb B1 HK1 k0 k1 k2 k3)
    | (go_at_call 30; (refine (Fs.new_bad size _ HH.out).mono ?_)
       rintro e w4 ⟨rfl, rfl⟩
       have B3 := B2)
    | (go_at_call 44; (refine (Kn.known _).mono ?_)
       rintro e w9 ⟨rfl, hb⟩
       have B9 := Aside0.mk (below_step B3.out hb)
       clear hb))
  go_ret
  exact ⟨rfl, B9.out⟩
set_option maxHeartbeats 2000000 in
set_option maxRecDepth 100000 in
theorem Kn.same (size r0 r1 r2 r3 : Int) (w : World) (h : size = 128) : Calls Try.prog 11 #[.int .i64 size, .agg #[.int .u32 r0, .int .i64 r1, .int .i64 r2, .int .i64 r3]] w fun e w' => e = .returned (.bool true) ∧ Below w.heap.size w w' := by
  have hu2 := Try.underlying24
  subst h
  go_enter Try.func11, Try.ntmps11
  go_wp2_with (first
    | (go_at_call 47; (refine (Sq.nil _).mono ?_)
       rintro e w1 ⟨rfl, hb⟩
       have B0 := Aside0.mk (below_alloc (below_step (below_alloc (Below.refl w.heap.size w) (.cells #[.int .u32 r0, .int .i64 r1, .int .i64 r2, .int .i64 r3] 24 (0, 0))) hb) (.cells #[.int .u32 0, .int .i64 0, .int .i64 0, .int .i64 0] 24 (0, 0)))
       have HK := Aside0.mk (blk_alloc (blk_below (blk_new w (.cells #[.int .u32 r0, .int .i64 r1, .int .i64 r2, .int .i64 r3] 24 (0, 0))) hb) (.cells #[.int .u32 0, .int .i64 0, .int .i64 0, .int .i64 0] 24 (0, 0)))
       clear hb)
    | (go_at_call 48; (refine (Sn.nil _).mono ?_)
       rintro e w2 ⟨rfl, hb⟩
       have B1 := Aside0.mk (below_step B0.out hb)
       have HK1 := Aside0.mk (blk_below HK.out hb)
       have k0 := blk_cell HK1.out 0
       have k1 := blk_cell HK1.out 1
       have k2 := blk_cell HK1.out 2
       have k3 := blk_cell HK1.out 3
       clear hb B0 HK)
    | (go_at_call 45; (refine (Sv.nil _ r0 r1 r2 r3).mono ?_)
       rintro e w3 ⟨rfl, hb⟩
       have B2 := Aside0.mk (below_alloc (below_step B1.out hb) (.cells #[.int .u32 0, .int .i64 0, .int .i64 0, .int .i64 0] 24 (0, 0)))
       have HK2 := Aside0.mk (blk_alloc (blk_below HK1.out hb) (.cells #[.int .u32 0, .int .i64 0, .int .i64 0, .int .i64 0] 24 (0, 0)))
       clear hb B1 HK1 k0 k1 k2 k3)
    | (go_at_call 30; (refine (Fs.new_calls 128 _ (by decide)).mono ?_)
       rintro e w4 ⟨rfl, hA, hb⟩
       have B3 := Aside0.mk (below_step B2.out hb)
       clear hA hb)
    | (go_at_call 44; (refine (Kn.known _).mono ?_)
       rintro e w9 ⟨rfl, hb⟩
       have B9 := Aside0.mk (below_step B3.out hb)
       clear hb))
  go_ret
  exact ⟨rfl, B9.out⟩
end Go.Proofs.Ytjldkgcabombhaa

/- SlotsNone answers true. -/
namespace Go.Proofs.Ytjldkgcabombhaa
open Go.RowKit Go.Proofs.Ytjldkgcabombhaa.Rec Go.Proofs.YtjldkgcabombhaaW.PrintWords Go.Proofs.YtjldkgcabombhaaW.PrintLast Go.Proofs.YtjldkgcabombhaaW.PrintMore
set_option linter.unusedVariables false
set_option linter.unusedSimpArgs false

theorem Fs.new_ex (size : Int) (w : World) (h : 1 ≤ size ∧ size ≤ 4096) : Calls Try.prog 30 #[.int .i64 size] w fun e w' => ∃ g : Nat, e = .returned (.tuple #[.pointer (some ⟨g, 0, none⟩), .int .i64 0]) ∧ (Fs.new size).At w' g ∧ Below w.heap.size w w' :=
  (Fs.new_calls size w h).mono (fun _ _ ⟨he, hA, hb⟩ => ⟨_, he, hA, hb⟩)
set_option maxHeartbeats 2000000 in
set_option maxRecDepth 100000 in
theorem Kn.other (size r0 r1 r2 r3 : Int) (w : World) (h : 1 ≤ size ∧ size ≤ 4096) (hz : size ≠ 128) : Calls Try.prog 11 #[.int .i64 size, .agg #[.int .u32 r0, .int .i64 r1, .int .i64 r2, .int .i64 r3]] w fun e w' => e = .returned (.bool true) ∧ Below w.heap.size w w' := by
  have hu2 := Try.underlying24
  have HST := Aside0.mk (trivial : True)
  have HH := Aside0.mk h
  have HZ := Aside0.mk hz
  have d1 : (size == 128) = false := beq_eq_false_iff_ne.mpr hz
  clear h hz
  go_enter Try.func11, Try.ntmps11
  go_wp2_with (first
    | (have mk_ := HST; clear mk_; go_at_call 47; (refine (Sq.nil _).mono ?_)
       rintro e w1 ⟨rfl, hb⟩
       have B0 := Aside0.mk (below_alloc (below_step (below_alloc (Below.refl w.heap.size w) (.cells #[.int .u32 r0, .int .i64 r1, .int .i64 r2, .int .i64 r3] 24 (0, 0))) hb) (.cells #[.int .u32 0, .int .i64 0, .int .i64 0, .int .i64 0] 24 (0, 0)))
       have HK := Aside0.mk (blk_alloc (blk_below (blk_new w (.cells #[.int .u32 r0, .int .i64 r1, .int .i64 r2, .int .i64 r3] 24 (0, 0))) hb) (.cells #[.int .u32 0, .int .i64 0, .int .i64 0, .int .i64 0] 24 (0, 0)))
       clear hb HST)
    | (have mk_ := B0; clear mk_; go_at_call 48; (refine (Sn.nil _).mono ?_)
       rintro e w2 ⟨rfl, hb⟩
       have B1 := Aside0.mk (below_step B0.out hb)
       have HK1 := Aside0.mk (blk_below HK.out hb)
       have k0 := blk_cell HK1.out 0
       have k1 := blk_cell HK1.out 1
       have k2 := blk_cell HK1.out 2
       have k3 := blk_cell HK1.out 3
       clear hb B0 HK)
    | (have mk_ := B1; clear mk_; go_at_call 45; (refine (Sv.nil _ r0 r1 r2 r3).mono ?_)
       rintro e w3 ⟨rfl, hb⟩
       have B2 := Aside0.mk (below_alloc (below_step B1.out hb) (.cells #[.int .u32 0, .int .i64 0, .int .i64 0, .int .i64 0] 24 (0, 0)))
       have HK2 := Aside0.mk (blk_alloc (blk_below HK1.out hb) (.cells #[.int .u32 0, .int .i64 0, .int .i64 0, .int .i64 0] 24 (0, 0)))
       clear hb B1 HK1 k0 k1 k2 k3)
    | (go_at_call 30; (refine (Fs.new_ex size _ HH.out).mono ?_)
       rintro e w4 ⟨g, rfl, hA, hb⟩
       have HA := Aside0.mk hA
       have B3 := Aside0.mk (below_step B2.out hb)
       have HK3 := Aside0.mk (blk_below HK2.out hb)
       clear hA hb B2 HK2)
    | (go_at_call 47; (refine (Sq.other HA.out HZ.out).mono ?_)
       rintro e w5 ⟨rfl, hb⟩
       have HA5 := Aside0.mk (Fs.below HA.out hb)
       have B5 := Aside0.mk (below_step B3.out hb)
       have HK5 := Aside0.mk (blk_below HK3.out hb)
       clear hb HA B3 HK3)
    | (go_at_call 48; (refine (Sn.other HA5.out HZ.out).mono ?_)
       rintro e w6 ⟨rfl, hb⟩
       have HA6 := Aside0.mk (Fs.below HA5.out hb)
       have B6 := Aside0.mk (below_step B5.out hb)
       have HK6 := Aside0.mk (blk_below HK5.out hb)
       have k0 := blk_cell HK6.out 0
       have k1 := blk_cell HK6.out 1
       have k2 := blk_cell HK6.out 2
       have k3 := blk_cell HK6.out 3
       clear hb HA5 B5 HK5)
    | (go_at_call 45; (refine (Sv.other HA6.out HZ.out r0 r1 r2 r3).mono ?_)
       rintro e w7 ⟨rfl, hb⟩
       have B7 := Aside0.mk (below_step B6.out hb)
       clear hb HA6 B6)
    | (go_at_call 44; (refine (Kn.known _).mono ?_)
       rintro e w9 ⟨rfl, hb⟩
       have B9 := Aside0.mk (below_step B7.out hb)
       clear hb))
  go_ret
  exact ⟨rfl, B9.out⟩
theorem Kn.slotsNone_walk (size r0 r1 r2 r3 : Int) (W : World) (w0 : (Lit.int .i64 size).wf = true) (w1 : (Lit.int .u32 r0).wf = true) (w2 : (Lit.int .i64 r1).wf = true) (w3 : (Lit.int .i64 r2).wf = true) (w4 : (Lit.int .i64 r3).wf = true) :
    Calls Try.prog 11 #[.int .i64 size, .agg #[.int .u32 r0, .int .i64 r1, .int .i64 r2, .int .i64 r3]] W fun e W' => e = .returned (.bool true) ∧ Below W.heap.size W W' := by
  by_cases c : size < 1 ∨ 4096 < size
  · exact Kn.bad size r0 r1 r2 r3 W c
  · by_cases d : size = 128
    · exact Kn.same size r0 r1 r2 r3 W d
    · exact Kn.other size r0 r1 r2 r3 W (by omega) d
end Go.Proofs.Ytjldkgcabombhaa

/- The contract of the document's New, walked by hand; what SlotsPlay and BlockPlays keep from round to round. -/
namespace Go.Proofs.Ytjldkgcabombhaa
open Go.RowKit Go.Proofs.Ytjldkgcabombhaa.Rec Go.Proofs.Ytjldkgcabombhaa.Wh Go.Proofs.Ytjldkgcabombhaa.Pl Go.Proofs.YtjldkgcabombhaaW.PrintWords Go.Proofs.YtjldkgcabombhaaW.PrintLast Go.Proofs.YtjldkgcabombhaaW.PrintMore
set_option linter.unusedVariables false
set_option linter.unusedSimpArgs false

set_option maxHeartbeats 1000000 in
set_option maxRecDepth 100000 in
theorem Pn.doc (m : Nat) (w : World) (hm : m ≤ 4096) : Calls Try.prog 31 #[.int .i64 (m : Int)] w fun e w' => ∃ g : Nat, e = .returned (.pointer (some ⟨g, 0, none⟩)) ∧ w.heap.size ≤ g ∧ (Pl.Dz.new m).At w' g ∧ Below w.heap.size w w' := by
  have hu := Try.underlying67
  have hmk : ∀ W : World, (Instr.makeSlice 25 (.int .i64 (m : Int)) (.int .i64 (m : Int))).run Try.prog W = .ok (.slice (some ⟨W.heap.size, 0, none⟩) m m) (W.alloc (.cells (madeCells #[.int .u8 0] m) 5)) := print_make (P := Try.prog) 25 5 .u8 1 Try.underlying25 Rc.info5 (by decide) m (by omega)
  obtain ⟨Z, hZ⟩ : ∃ Z, madeCells #[.int .u8 0] m = Z := ⟨_, rfl⟩
  have cv1 : (convert 25 9 (.slice (some ⟨w.heap.size, 0, none⟩) m m)).run Try.prog (w.alloc (.cells Z 5)) = .ok (.string (strOfNums (List.replicate m 0))) (w.alloc (.cells Z 5)) := by
    rw [← hZ]
    exact own_string Try.underlying25 Try.underlying5 Try.underlying9 (own_made w 0 5 .u8 m (Nat.zero_le _) (by omega))
  rw [hZ] at hmk
  clear hZ hm
  go_enter Try.func31, Try.ntmps31
  go_wp2
  go_ret
  have hx := blk_new (w.alloc (.cells Z 5)) (.cells #[.string (strOfNums (List.replicate m 0)), .bool false, .int .i64 0, .bool false, .int .i64 0] 67 (0, 0))
  rw [World.size_alloc] at hx
  exact ⟨w.heap.size + 1, rfl, Nat.le_succ _, hx, below_alloc (below_alloc (Below.refl _ _) _) _⟩
theorem Pn.prog (size : Int) (w : World) (h : 1 ≤ size ∧ size ≤ 4096) : Calls Try.prog 30 #[.int .i64 size] w fun e w' => ∃ g : Nat, e = .returned (.tuple #[.pointer (some ⟨g, 0, none⟩), .int .i64 0]) ∧ w.heap.size ≤ g ∧ (Fs.new size).At w' g ∧ Below w.heap.size w w' :=
  (Fs.new_calls size w h).mono (fun _ _ ⟨he, hA, hb⟩ => ⟨_, he, Nat.le_refl _, hA, hb⟩)

/-! ### the two files, and some boxes -/
structure Pw.T (w W : World) (g gd : Nat) (s : Fs) (d : Dz) (bs : List (Nat × Array Value × TypeId)) : Prop where
  f : s.At W g
  c : d.At W gd
  box : ∀ x ∈ bs, W.heap[x.1]? = some (.cells x.2.1 x.2.2 (0, 0)) ∧ x.2.2 ≠ 101 ∧ x.2.2 ≠ 67
  below : Below w.heap.size w W
  le : w.heap.size ≤ g ∧ w.heap.size ≤ gd
theorem Pw.far {W : World} {b g : Nat} {cs cs' : Array Value} {t t' : TypeId} (h : W.heap[b]? = some (.cells cs t (0, 0))) (hA : W.heap[g]? = some (.cells cs' t' (0, 0))) (ht : t ≠ t') : b ≠ g := by
  rintro rfl
  have := h.symm.trans hA
  simp at this
  exact ht this.2
theorem Pw.ne {w W : World} {g gd : Nat} {s : Fs} {d : Dz} {bs : List (Nat × Array Value × TypeId)} (h : Pw.T w W g gd s d bs) : gd ≠ g := Pw.far h.c h.f.1 (by decide)
theorem Pw.t_below {w W W' : World} {g gd : Nat} {s : Fs} {d : Dz} {bs : List (Nat × Array Value × TypeId)} (h : Pw.T w W g gd s d bs) (hb : Below W.heap.size W W') : Pw.T w W' g gd s d bs :=
  ⟨Fs.below h.f hb, Dz.below h.c hb, fun x hx => ⟨blk_below (h.box x hx).1 hb, (h.box x hx).2⟩, below_step h.below hb, h.le⟩
theorem Pw.t_alloc {w W : World} {g gd : Nat} {s : Fs} {d : Dz} {bs : List (Nat × Array Value × TypeId)} (h : Pw.T w W g gd s d bs) (o : Obj) : Pw.T w (W.alloc o) g gd s d bs :=
  Pw.t_below h (below_alloc (Below.refl _ _) _)
theorem Pw.t_new {w W : World} {g gd : Nat} {s : Fs} {d : Dz} {bs : List (Nat × Array Value × TypeId)} (h : Pw.T w W g gd s d bs) (cs : Array Value) (t : TypeId) (ht : t ≠ 101 ∧ t ≠ 67) : Pw.T w (W.alloc (.cells cs t (0, 0))) g gd s d ((W.heap.size, cs, t) :: bs) := by
  have h' := Pw.t_alloc h (.cells cs t (0, 0))
  refine ⟨h'.f, h'.c, fun x hx => ?_, h'.below, h'.le⟩
  rcases List.mem_cons.mp hx with rfl | hx
  · exact ⟨blk_new W _, ht⟩
  · exact h'.box x hx
theorem Pw.t_frF {w W W' : World} {g gd : Nat} {s s' : Fs} {d : Dz} {bs : List (Nat × Array Value × TypeId)} (h : Pw.T w W g gd s d bs) (hA : s'.At W' g) (hF : Fs.Fr g W W') : Pw.T w W' g gd s' d bs :=
  ⟨hA, (hF.2 gd (blk_lt h.c) (Pw.ne h)).trans h.c, fun x hx => ⟨(hF.2 x.1 (blk_lt (h.box x hx).1) (Pw.far (h.box x hx).1 h.f.1 (h.box x hx).2.1)).trans (h.box x hx).1, (h.box x hx).2⟩, h.below.trans (Fs.fr_below hF h.le.1 h.below.size), h.le⟩
theorem Pw.t_frD {w W W' : World} {g gd : Nat} {s : Fs} {d d' : Dz} {bs : List (Nat × Array Value × TypeId)} (h : Pw.T w W g gd s d bs) (hA : d'.At W' gd) (hF : Fs.Fr gd W W') : Pw.T w W' g gd s d' bs :=
  ⟨⟨(hF.2 g (blk_lt h.f.1) (Pw.ne h).symm).trans h.f.1, h.f.2⟩, hA, fun x hx => ⟨(hF.2 x.1 (blk_lt (h.box x hx).1) (Pw.far (h.box x hx).1 h.c (h.box x hx).2.2)).trans (h.box x hx).1, (h.box x hx).2⟩, h.below.trans (Fs.fr_below hF h.le.2 h.below.size), h.le⟩
theorem Pw.t_drop {w W : World} {g gd : Nat} {s : Fs} {d : Dz} {bs : List (Nat × Array Value × TypeId)} (h : Pw.T w W g gd s d bs) : Pw.T w W g gd s d [] := ⟨h.f, h.c, fun x hx => absurd hx List.not_mem_nil, h.below, h.le⟩
theorem Pw.t_top {w W : World} {g gd : Nat} {s : Fs} {d : Dz} {x : Nat × Array Value × TypeId} {bs : List (Nat × Array Value × TypeId)} (h : Pw.T w W g gd s d (x :: bs)) : W.heap[x.1]? = some (.cells x.2.1 x.2.2 (0, 0)) := (h.box x List.mem_cons_self).1
theorem Pw.t_start {w W W' : World} {g gd : Nat} {s : Fs} {d : Dz} (hA : s.At W g) (hg : w.heap.size ≤ g) (hb : Below w.heap.size w W) (hD : d.At W' gd) (hgd : W.heap.size ≤ gd) (hb' : Below W.heap.size W W') : Pw.T w W' g gd s d [] :=
  ⟨Fs.below hA hb', hD, fun x hx => absurd hx List.not_mem_nil, below_step hb hb', ⟨hg, by have := hb.size; omega⟩⟩

/-! ### the calls that SlotsPlay is given -/
structure Op7 where
  k : Int
  n : Int
  r0 : Int
  r1 : Int
  r2 : Int
  r3 : Int
  A : Option Addr
  c : Nat
  bs : List Int
def Op7.cells (o : Op7) : List Value := [.int .i64 o.k, .int .i64 o.n, .int .u32 o.r0, .int .i64 o.r1, .int .i64 o.r2, .int .i64 o.r3, .slice o.A o.bs.length o.c]
structure Op7.Good (w : World) (o : Op7) : Prop where
  n : -9223372036854775808 ≤ o.n ∧ o.n ≤ 9223372036854775807
  rd : Kd.C (Kd.int .u8) w o.A o.bs.length o.bs
  le : o.bs.length ≤ o.c
  bytes : Bytes o.bs
def Op7.All (w : World) (A : Option Addr) (l : List Op7) : Prop := (0 < l.length → ∃ ad, A = some ad ∧ ∀ (i : Nat) o, l[i]? = some o → ∀ (j : Nat) u, o.cells[j]? = some u → w.cell? (ad.add (i * 7 + j)) = some u) ∧ ∀ o ∈ l, Op7.Good w o
theorem Op7.good_below {w W : World} {o : Op7} (h : Op7.Good w o) (hb : Below w.heap.size w W) : Op7.Good W o := ⟨h.n, Kd.C_below h.rd hb, h.le, h.bytes⟩
theorem Op7.get {w W : World} {A : Option Addr} {l : List Op7} (h : Op7.All w A l) (hb : Below w.heap.size w W) (i : Nat) (hi : i < l.length) : ∃ ad, ∃ o : Op7, A = some ad ∧ Op7.Good w o ∧
    W.cell? (ad.add (i * 7)) = some (.int .i64 o.k) ∧ W.cell? ⟨(ad.add (i * 7)).block, (ad.add (i * 7)).off + 1, none⟩ = some (.int .i64 o.n) ∧ W.cell? ⟨(ad.add (i * 7)).block, (ad.add (i * 7)).off + 2, none⟩ = some (.int .u32 o.r0) ∧
    W.cell? ⟨(ad.add (i * 7)).block, (ad.add (i * 7)).off + 3, none⟩ = some (.int .i64 o.r1) ∧ W.cell? ⟨(ad.add (i * 7)).block, (ad.add (i * 7)).off + 4, none⟩ = some (.int .i64 o.r2) ∧ W.cell? ⟨(ad.add (i * 7)).block, (ad.add (i * 7)).off + 5, none⟩ = some (.int .i64 o.r3) ∧
    W.cell? ⟨(ad.add (i * 7)).block, (ad.add (i * 7)).off + 6, none⟩ = some (.slice o.A o.bs.length o.c) := by
  obtain ⟨ad, e, hc⟩ := h.1 (by omega)
  have ho := List.getElem?_eq_getElem hi
  have hg := h.2 _ (List.getElem_mem hi)
  have hx : ∀ (j : Nat) u, (l[i]).cells[j]? = some u → W.cell? (ad.add (i * 7 + j)) = some u := fun j u hu => by
    have := hc i _ ho j u hu
    exact (hb.cell (World.block_lt_of_cell? w _ this)).trans this
  exact ⟨ad, l[i], e, hg, hx 0 _ rfl, by rw [← add_field _ _ 1 (by omega)]; exact hx 1 _ rfl, by rw [← add_field _ _ 2 (by omega)]; exact hx 2 _ rfl, by rw [← add_field _ _ 3 (by omega)]; exact hx 3 _ rfl,
    by rw [← add_field _ _ 4 (by omega)]; exact hx 4 _ rfl, by rw [← add_field _ _ 5 (by omega)]; exact hx 5 _ rfl, by rw [← add_field _ _ 6 (by omega)]; exact hx 6 _ rfl⟩
end Go.Proofs.Ytjldkgcabombhaa

/- What BlockPlays is given, law25's great, and both files' Read beside each other. -/
namespace Go.Proofs.Ytjldkgcabombhaa
open Go.RowKit Go.Proofs.Ytjldkgcabombhaa.Rec Go.Proofs.Ytjldkgcabombhaa.Wh Go.Proofs.Ytjldkgcabombhaa.Pl Go.Proofs.YtjldkgcabombhaaW.PrintWords Go.Proofs.YtjldkgcabombhaaW.PrintLast Go.Proofs.YtjldkgcabombhaaW.PrintMore
set_option linter.unusedVariables false
set_option linter.unusedSimpArgs false

/-! ### the calls that BlockPlays is given -/
structure Op4 where
  k : Int
  at' : Int
  n : Int
  A : Option Addr
  c : Nat
  bs : List Int
def Op4.cells (o : Op4) : List Value := [.int .i64 o.k, .int .i64 o.at', .int .i64 o.n, .slice o.A o.bs.length o.c]
structure Op4.Good (w : World) (o : Op4) : Prop where
  at' : -9223372036854775808 ≤ o.at' ∧ o.at' ≤ 9223372036854775807
  n : -9223372036854775808 ≤ o.n ∧ o.n ≤ 9223372036854775807
  rd : Kd.C (Kd.int .u8) w o.A o.bs.length o.bs
  le : o.bs.length ≤ o.c
  bytes : Bytes o.bs
def Op4.All (w : World) (A : Option Addr) (l : List Op4) : Prop := (0 < l.length → ∃ ad, A = some ad ∧ ∀ (i : Nat) o, l[i]? = some o → ∀ (j : Nat) u, o.cells[j]? = some u → w.cell? (ad.add (i * 4 + j)) = some u) ∧ ∀ o ∈ l, Op4.Good w o
theorem Op4.get {w W : World} {A : Option Addr} {l : List Op4} (h : Op4.All w A l) (hb : Below w.heap.size w W) (i : Nat) (hi : i < l.length) : ∃ ad, ∃ o : Op4, A = some ad ∧ l[i]? = some o ∧ Op4.Good w o ∧
    W.cell? (ad.add (i * 4)) = some (.int .i64 o.k) ∧ W.cell? ⟨(ad.add (i * 4)).block, (ad.add (i * 4)).off + 1, none⟩ = some (.int .i64 o.at') ∧ W.cell? ⟨(ad.add (i * 4)).block, (ad.add (i * 4)).off + 2, none⟩ = some (.int .i64 o.n) ∧
    W.cell? ⟨(ad.add (i * 4)).block, (ad.add (i * 4)).off + 3, none⟩ = some (.slice o.A o.bs.length o.c) := by
  obtain ⟨ad, e, hc⟩ := h.1 (by omega)
  have ho := List.getElem?_eq_getElem hi
  have hg := h.2 _ (List.getElem_mem hi)
  have hx : ∀ (j : Nat) u, (l[i]).cells[j]? = some u → W.cell? (ad.add (i * 4 + j)) = some u := fun j u hu => by
    have := hc i _ ho j u hu
    exact (hb.cell (World.block_lt_of_cell? w _ this)).trans this
  exact ⟨ad, l[i], e, ho, hg, hx 0 _ rfl, by rw [← add_field _ _ 1 (by omega)]; exact hx 1 _ rfl, by rw [← add_field _ _ 2 (by omega)]; exact hx 2 _ rfl, by rw [← add_field _ _ 3 (by omega)]; exact hx 3 _ rfl⟩

/-! ### great -/
def Op4.Small (l : List Op4) : Prop := (∀ (i : Nat) o, l[i]? = some o → o.bs.length ≤ 5000) ∧ l.length ≤ 60
def Bg.big (l : List Op4) : Bool := l.any (fun o => decide (5000 < o.bs.length)) || decide (60 < l.length)
theorem Bg.small {l : List Op4} (h : Bg.big l = false) : Op4.Small l := by
  unfold Bg.big at h
  rw [Bool.or_eq_false_iff, List.any_eq_false] at h
  refine ⟨fun i o ho => ?_, ?_⟩
  · have := h.1 o (List.mem_of_getElem? ho)
    simp at this
    exact this
  · have := of_decide_eq_false h.2
    omega
theorem Bg.hit {l : List Op4} {i : Nat} {o : Op4} (ho : l[i]? = some o) (hb : (5000 : Int) < (o.bs.length : Int)) : Bg.big l = true := by
  unfold Bg.big
  rw [Bool.or_eq_true, List.any_eq_true]
  exact .inl ⟨o, List.mem_of_getElem? ho, decide_eq_true (by omega)⟩
theorem Bg.miss {l : List Op4} {i : Nat} (h : ∀ (j : Nat) o, j < i → l[j]? = some o → o.bs.length ≤ 5000) (hi : i = l.length) : Bg.big l = decide (60 < (l.length : Int)) := by
  unfold Bg.big
  have : l.any (fun o => decide (5000 < o.bs.length)) = false := by
    rw [List.any_eq_false]
    intro o ho
    obtain ⟨j, hj, rfl⟩ := List.getElem_of_mem ho
    have := h j _ (by omega) (List.getElem?_eq_getElem hj)
    simp
    exact this
  rw [this, Bool.false_or]
  by_cases c : 60 < l.length
  · rw [decide_eq_true c, decide_eq_true (by omega)]
  · rw [decide_eq_false c, decide_eq_false (by omega)]
set_option maxHeartbeats 1000000 in
set_option maxRecDepth 100000 in
theorem Bg.great (A : Option Addr) (c : Nat) (l : List Op4) (w : World) (hC : Op4.All w A l) (hl : l.length ≤ 9223372036854775807) : Calls Try.prog 28 #[.slice A l.length c] w fun e w' => e = .returned (.bool (Bg.big l)) ∧ Below w.heap.size w w' := by
  have hu3 := Try.underlying59
  have HC := Aside0.mk hC
  have HL := Aside0.mk hl
  clear hC hl
  go_enter Try.func28, Try.ntmps28
  go_wp2
  go_loopw [6] (fun v6 wr => ∃ i : Nat, v6 = .int .i64 i ∧ Aside0 (i ≤ l.length) ∧ Aside0 (∀ (j : Nat) o, j < i → l[j]? = some o → o.bs.length ≤ 5000) ∧ Aside0 (Below w.heap.size w wr)) (fun v6 _ => l.length - (intOf v6).toNat)
  case atStart => exact ⟨0, rfl, ⟨Nat.zero_le _⟩, ⟨fun j o hj => absurd hj (Nat.not_lt_zero _)⟩, ⟨Below.refl _ _⟩⟩
  case round =>
    obtain ⟨i, rfl, HI, HF, HB⟩ := hrel
    by_cases hlt : i < l.length
    · have p0 : 0 ≤ ((i : Nat) : Int) := Int.natCast_nonneg _
      have q0 : ((i : Nat) : Int) < (l.length : Int) := by omega
      obtain ⟨ad, o, e, ho, hg, hx0, hx1, hx2, hx3⟩ := Op4.get HC.out HB.out i hlt
      cases e
      have HO := Aside0.mk ho
      have HLT := Aside0.mk hlt
      have hi1 : ((i : Nat) : Int) < 9223372036854775807 := by have := HL.out; omega
      clear hlt hg ho
      by_cases hb : (5000 : Int) < (o.bs.length : Int)
      · go_wp2
        go_ret
        exact ⟨by rw [Bg.hit HO.out hb]; rfl, HB.out⟩
      · have HN := Aside0.mk hb
        go_wp2
        go_roundw
        case rel => exact ⟨i + 1, by go_num, ⟨HLT.out⟩, ⟨fun j o' hj hj' => by
          rcases Nat.lt_or_ge j i with h | h
          · exact HF.out j o' h hj'
          · obtain rfl : j = i := by omega
            obtain rfl := Option.some.inj (HO.out.symm.trans hj')
            have := HN.out
            omega⟩, HB⟩
        case measure => have := HLT.out; simp [intOf]; omega
    · have q0 : ¬ ((i : Nat) : Int) < (l.length : Int) := by omega
      have HE := Aside0.mk (show i = l.length by have := HI.out; omega)
      clear hlt
      go_wp2
      go_ret
      exact ⟨by rw [Bg.miss HF.out HE.out]; rfl, HB.out⟩
end Go.Proofs.Ytjldkgcabombhaa

/- Rows that are counted up, both files' Read beside each other, and law25's known. -/
namespace Go.Proofs.Ytjldkgcabombhaa
open Go.RowKit Go.Proofs.Ytjldkgcabombhaa.Rec Go.Proofs.Ytjldkgcabombhaa.Wh Go.Proofs.Ytjldkgcabombhaa.Pl Go.Proofs.YtjldkgcabombhaaW.PrintWords Go.Proofs.YtjldkgcabombhaaW.PrintLast Go.Proofs.YtjldkgcabombhaaW.PrintMore
set_option linter.unusedVariables false
set_option linter.unusedSimpArgs false

/-! ### a row of bytes that is counted up -/
/-- From W0 on one row alone is written: that of A, from lo on. -/
def Bp.L (W0 : World) (lo : Nat) (A : Option Addr) (n : Nat) (wr : World) : Prop := ∃ b : Nat, lo ≤ b ∧ Fs.Fr b W0 wr ∧ (W0.heap.size ≤ b ∨ ∃ cs, W0.heap[b]? = some (.cells cs 5 (0, 0))) ∧
  (0 < n → A = some ⟨b, 0, none⟩ ∧ ∃ cs, wr.heap[b]? = some (.cells cs 5 (0, 0)) ∧ ∀ j, j < n → ∃ x : Int, cs[j]? = some (.int .u8 x))
theorem Bp.l_step {W0 wr : World} {lo n : Nat} {A : Option Addr} (h : Bp.L W0 lo A n wr) (i : Nat) (hi : i < n) : ∃ (b : Nat) (x : Int), A = some ⟨b, 0, none⟩ ∧ wr.cell? ⟨b, i, none⟩ = some (.int .u8 x) ∧ wr.frozen? ⟨b, i, none⟩ = false ∧ ∀ y : Int, Bp.L W0 lo A n (wr.setCell ⟨b, i, none⟩ (.int .u8 y)) := by
  obtain ⟨b, hlo, hF, ht, hc⟩ := h
  obtain ⟨hA, cs, hk, hx⟩ := hc (by omega)
  obtain ⟨x, hx0⟩ := hx i hi
  refine ⟨b, x, hA, (blk_cell hk i).trans hx0, blk_frozen hk i, fun y => ⟨b, hlo, Fs.fr_set hF i _, ht, fun _ => ⟨hA, cs.setIfInBounds i (.int .u8 y), blk_put hk i _ rfl, fun j hj => ?_⟩⟩⟩
  by_cases e : i = j
  · subst e
    have hs : i < cs.size := (Array.getElem?_eq_some_iff.1 hx0).1
    exact ⟨y, by rw [Array.getElem?_setIfInBounds_self_of_lt hs]⟩
  · obtain ⟨z, hz⟩ := hx j hj
    exact ⟨z, by rw [Array.getElem?_setIfInBounds_ne e]; exact hz⟩
theorem Bp.l_below {W W' : World} {lo n : Nat} {A : Option Addr} (h : Bp.L W lo A n W) (hb : Below W.heap.size W W') : Bp.L W' lo A n W' := by
  obtain ⟨b, hlo, _, ht, hc⟩ := h
  by_cases hn : 0 < n
  · obtain ⟨hA, cs, hk, hx⟩ := hc hn
    have hk' := blk_below hk hb
    exact ⟨b, hlo, Fs.fr_refl _ _, .inr ⟨cs, hk'⟩, fun _ => ⟨hA, cs, hk', hx⟩⟩
  · rcases ht with ht | ⟨cs, ht⟩
    · exact ⟨max b W'.heap.size, Nat.le_trans hlo (Nat.le_max_left _ _), Fs.fr_refl _ _, .inl (Nat.le_max_right _ _), fun h => absurd h hn⟩
    · exact ⟨b, hlo, Fs.fr_refl _ _, .inr ⟨cs, blk_below ht hb⟩, fun h => absurd h hn⟩
theorem Bp.l_t {w W0 wr : World} {g gd lo n : Nat} {A : Option Addr} {s : Fs} {d : Dz} {rs : List (Nat × Array Value × TypeId)} (hT : Pw.T w W0 g gd s d rs) (h : Bp.L W0 lo A n wr) (hw : w.heap.size ≤ lo) (hr : ∀ x ∈ rs, x.1 < lo) : Pw.T w wr g gd s d rs := by
  obtain ⟨b, hlo, hF, ht, _⟩ := h
  have far : ∀ {k : Nat} {cs : Array Value} {t : TypeId}, W0.heap[k]? = some (.cells cs t (0, 0)) → t ≠ 5 → k ≠ b := by
    intro k cs t hk hne
    rcases ht with ht | ⟨cs0, ht⟩
    · have := blk_lt hk
      omega
    · exact Pw.far hk ht hne
  exact ⟨⟨(hF.2 g (blk_lt hT.f.1) (far hT.f.1 (by decide))).trans hT.f.1, hT.f.2⟩, (hF.2 gd (blk_lt hT.c) (far hT.c (by decide))).trans hT.c,
    fun x hx => ⟨(hF.2 x.1 (blk_lt (hT.box x hx).1) (by have := hr x hx; omega)).trans (hT.box x hx).1, (hT.box x hx).2⟩, hT.below.trans (Fs.fr_below hF (by omega) hT.below.size), hT.le⟩
/-- A row that has just been made. -/
def Bp.In (w : World) (A : Option Addr) (n : Nat) (rs : List (Nat × Array Value × TypeId)) : Prop := 0 < n → ∃ b cs, A = some ⟨b, 0, none⟩ ∧ w.heap.size ≤ b ∧ (b, cs, 5) ∈ rs ∧ ∀ j, j < n → ∃ x : Int, cs[j]? = some (.int .u8 x)
theorem Bp.r_cells {W : World} {base b c : Nat} {xs : List Int} {cs : Array Value} (h : Kd.R (Kd.int .u8) 5 W base (fun _ => True) (.slice (some ⟨b, 0, none⟩) xs.length c) xs) (hk : W.heap[b]? = some (.cells cs 5 (0, 0))) : ∀ j, j < xs.length → ∃ x : Int, cs[j]? = some (.int .u8 x) := by
  intro j hj
  obtain ⟨hx, _⟩ := Kd.R_celln 0 h (j : Int) (by omega) (by omega)
  rw [Int.toNat_natCast, blk_cell hk j] at hx
  exact ⟨_, hx⟩
theorem Bp.in_new {w W : World} {g gd c : Nat} {A : Option Addr} {s : Fs} {d : Dz} {xs : List Int} {bs : List (Nat × Array Value × TypeId)} (hT : Pw.T w W g gd s d bs) (hR : Kd.R (Kd.int .u8) 5 W w.heap.size (fun _ => True) (.slice A xs.length c) xs) : ∃ rs, Pw.T w W g gd s d (bs ++ rs) ∧ Bp.In w A xs.length rs := by
  by_cases hn : 0 < xs.length
  · obtain ⟨b, cap, he, hb, hlt, cs, hk⟩ := Kd.R_form hR hn
    injection he with hA _ hc
    subst hA hc
    refine ⟨[(b, cs, 5)], ⟨hT.f, hT.c, fun x hx => ?_, hT.below, hT.le⟩, fun _ => ⟨b, cs, rfl, hb, List.mem_singleton.mpr rfl, Bp.r_cells hR hk⟩⟩
    rcases List.mem_append.mp hx with hx | hx
    · exact hT.box x hx
    · obtain rfl := List.mem_singleton.mp hx
      exact ⟨hk, by show (5 : Nat) ≠ 101; decide, by show (5 : Nat) ≠ 67; decide⟩
  · exact ⟨[], by rw [List.append_nil]; exact hT, fun h => absurd h hn⟩
/-- The rows that are asked for are some of those that are kept. -/
theorem Pw.t_sub {w W : World} {g gd : Nat} {s : Fs} {d : Dz} {bs cs : List (Nat × Array Value × TypeId)} (h : Pw.T w W g gd s d bs) (hs : ∀ x ∈ cs, x ∈ bs) : Pw.T w W g gd s d cs := ⟨h.f, h.c, fun x hx => h.box x (hs x hx), h.below, h.le⟩
theorem Pw.t_tail {w W : World} {g gd : Nat} {s : Fs} {d : Dz} {x : Nat × Array Value × TypeId} {bs : List (Nat × Array Value × TypeId)} (h : Pw.T w W g gd s d (x :: bs)) : Pw.T w W g gd s d bs := Pw.t_sub h (fun y hy => List.mem_cons_of_mem _ hy)
theorem Bp.in_l {w W : World} {g gd n : Nat} {A : Option Addr} {s : Fs} {d : Dz} {rs : List (Nat × Array Value × TypeId)} (hT : Pw.T w W g gd s d rs) (h : Bp.In w A n rs) : Bp.L W w.heap.size A n W := by
  by_cases hn : 0 < n
  · obtain ⟨b, cs, hA, hb, hm, hx⟩ := h hn
    have hk := (hT.box _ hm).1
    exact ⟨b, hb, Fs.fr_refl _ _, .inr ⟨cs, hk⟩, fun _ => ⟨hA, cs, hk, hx⟩⟩
  · exact ⟨W.heap.size, hT.below.size, Fs.fr_refl _ _, .inl (Nat.le_refl _), fun h => absurd h hn⟩
theorem Bp.r_l {W : World} {lo c : Nat} {A : Option Addr} {xs : List Int} (hlo : lo ≤ W.heap.size) (hR : Kd.R (Kd.int .u8) 5 W lo (fun _ => True) (.slice A xs.length c) xs) : Bp.L W lo A xs.length W := by
  by_cases hn : 0 < xs.length
  · obtain ⟨b, cap, he, hb, hlt, cs, hk⟩ := Kd.R_form hR hn
    injection he with hA _ hc
    subst hA hc
    exact ⟨b, hb, Fs.fr_refl _ _, .inr ⟨cs, hk⟩, fun _ => ⟨rfl, cs, hk, Bp.r_cells hR hk⟩⟩
  · exact ⟨W.heap.size, hlo, Fs.fr_refl _ _, .inl (Nat.le_refl _), fun h => absurd h hn⟩

/-! ### other files -/
/-- Another block is written. -/
theorem Bp.t_other {w W W' : World} {g gd b : Nat} {s : Fs} {d : Dz} {rs : List (Nat × Array Value × TypeId)} (hT : Pw.T w W g gd s d rs) (hF : Fs.Fr b W W') (hg : g ≠ b) (hd : gd ≠ b) (hr : ∀ x ∈ rs, x.1 ≠ b) (hw : w.heap.size ≤ b) : Pw.T w W' g gd s d rs :=
  ⟨⟨(hF.2 g (blk_lt hT.f.1) hg).trans hT.f.1, hT.f.2⟩, (hF.2 gd (blk_lt hT.c) hd).trans hT.c, fun x hx => ⟨(hF.2 x.1 (blk_lt (hT.box x hx).1) (hr x hx)).trans (hT.box x hx).1, (hT.box x hx).2⟩, hT.below.trans (Fs.fr_below hF hw hT.below.size), hT.le⟩
/-- A block that was not there when the two files were. -/
theorem Bp.t_later {w W W1 W2 : World} {g gd b : Nat} {s : Fs} {d : Dz} {rs : List (Nat × Array Value × TypeId)} (hT0 : Pw.T w W g gd s d rs) (hb : W.heap.size ≤ b) (hT : Pw.T w W1 g gd s d rs) (hF : Fs.Fr b W1 W2) : Pw.T w W2 g gd s d rs :=
  Bp.t_other hT hF (by have := blk_lt hT0.f.1; omega) (by have := blk_lt hT0.c; omega) (fun x hx => by have := blk_lt (hT0.box x hx).1; omega) (by have := hT0.below.size; omega)
/-- The copy takes the file's place. -/
theorem Bp.t_copy {w W W' : World} {g gd c : Nat} {s : Fs} {d : Dz} {rs : List (Nat × Array Value × TypeId)} (hT : Pw.T w W g gd s d rs) (hb : Below W.heap.size W W') (hc : W.heap.size ≤ c) (hA : s.At W' c) : Pw.T w W' c gd s d rs := by
  have h := Pw.t_below hT hb
  exact ⟨hA, h.c, h.box, h.below, ⟨by have := hT.below.size; omega, h.le.2⟩⟩
theorem Bp.t_doc {w W W' : World} {g gd c : Nat} {s : Fs} {d : Dz} {rs : List (Nat × Array Value × TypeId)} (hT : Pw.T w W g gd s d rs) (hb : Below W.heap.size W W') (hc : W.heap.size ≤ c) (hA : d.At W' c) : Pw.T w W' g c s d rs := by
  have h := Pw.t_below hT hb
  exact ⟨h.f, hA, h.box, h.below, ⟨h.le.1, by have := hT.below.size; omega⟩⟩
theorem Bp.copy {s : Fs} {w : World} {g : Nat} (h : s.At w g) : Calls Try.prog 39 #[.pointer (some ⟨g, 0, none⟩)] w fun e w' => ∃ c : Nat, e = .returned (.pointer (some ⟨c, 0, none⟩)) ∧ w.heap.size ≤ c ∧ s.At w' c ∧ Below w.heap.size w w' :=
  (Fs.copy_calls h).mono (fun _ _ ⟨c, he, hc, hA, hb⟩ => ⟨c, he, Nat.le_of_eq hc.symm, hA, hb⟩)

/-! ### Read -/
theorem Bp.read {m : Nat} {s : Fs} {d : Dz} (H : Sim m s d) (at' n : Int) (hi : -9223372036854775808 ≤ at' ∧ at' ≤ 9223372036854775807) : ∃ (e : Int) (xs : List Int),
    (∀ w g, s.At w g → Calls Try.prog 34 #[.pointer (some ⟨g, 0, none⟩), .int .i64 at', .int .i64 n] w fun x w' => ∃ A c, x = .returned (.tuple #[.slice A xs.length c, .int .i64 e]) ∧ Kd.C (Kd.int .u8) w' A xs.length xs ∧ Bp.L w' w.heap.size A xs.length w' ∧ Below w.heap.size w w') ∧
    (∀ w g, d.At w g → Calls Try.prog 35 #[.pointer (some ⟨g, 0, none⟩), .int .i64 at', .int .i64 n] w fun x w' => x = .returned (.tuple #[.string (strOfNums xs), .int .i64 e]) ∧ Below w.heap.size w w') ∧ xs.length ≤ 4096 := by
  have hm := H.may at' n hi
  have hdl : d.b.length ≤ 4096 := by rw [H.dlen]; exact H.le
  by_cases h0 : s.may at' n = 0
  · obtain ⟨z0, z1, z2, z3, z4⟩ := Fs.may_zero H.ok h0
    have e : (d.b.drop at'.toNat).take n.toNat = (s.b.drop at'.toNat).take n.toNat := by
      rw [H.b, List.drop_take, List.take_take, Nat.min_eq_left (by rw [H.size] at z3; omega)]
    refine ⟨0, (s.b.drop at'.toNat).take n.toNat, fun w g h => ?_, fun w g h => ?_, by rw [List.length_take, List.length_drop, H.len]; omega⟩
    · refine (Fs.read_ok at' n h H.ok h0).mono ?_
      rintro x w' ⟨v, rfl, hR, hb⟩
      obtain ⟨A, c, rfl⟩ := Kd.R_slice hR
      exact ⟨A, c, rfl, (Kd.R_reads' hR).2.2, Bp.r_l hb.size hR, hb⟩
    · have := Dz.read_ok at' n h hdl (by rw [← hm]; exact h0)
      rw [e] at this
      exact this
  · refine ⟨s.may at' n, [], fun w g h => ?_, fun w g h => ?_, by decide⟩
    · refine (Fs.read_bad at' n h h0).mono ?_
      rintro x w' ⟨rfl, hb⟩
      exact ⟨none, 0, rfl, ⟨rfl, by decide, fun h => absurd h (by decide)⟩, ⟨w'.heap.size, hb.size, Fs.fr_refl _ _, .inl (Nat.le_refl _), fun h => absurd h (by decide)⟩, hb⟩
    · refine (Dz.read_bad at' n h (by rw [← hm]; exact h0)).mono ?_
      rintro x w' ⟨rfl, rfl⟩
      exact ⟨by rw [hm]; rfl, Below.refl _ _⟩
/-- All bytes of a copy that was brought up. -/
theorem Bp.all {m : Nat} {s : Fs} {d : Dz} (H : Sim m s d) {w : World} {g : Nat} (h : Fs.At {s with down := false} w g) : Calls Try.prog 34 #[.pointer (some ⟨g, 0, none⟩), .int .i64 0, .int .i64 (m : Int)] w fun x w' => ∃ A c, x = .returned (.tuple #[.slice A d.b.length c, .int .i64 0]) ∧ Kd.C (Kd.int .u8) w' A d.b.length d.b ∧ Below w.heap.size w w' := by
  have hle := H.le
  have h0 : Fs.may {s with down := false} 0 m = 0 := by
    have e0 : Fs.inn {s with down := false} 0 = true := by simp [Fs.inn, H.size]
    have e1 : Fs.inn {s with down := false} m = true := by simp [Fs.inn, H.size]
    unfold Fs.may
    rw [if_neg Bool.false_ne_true, e0, e1, Int.zero_add, Rc.w64 _ (by omega), e1]
    rfl
  have e : (s.b.drop (0 : Int).toNat).take (m : Int).toNat = d.b := by rw [H.b]; rfl
  refine (Fs.read_ok (s := {s with down := false}) 0 m h ⟨by show 0 ≤ s.size; rw [H.size]; omega, by show s.size ≤ 4096; rw [H.size]; omega⟩ h0).mono ?_
  rintro x w' ⟨v, rfl, hR, hb⟩
  rw [show (Fs.b {s with down := false}).drop (0 : Int).toNat = s.b.drop (0 : Int).toNat from rfl, e] at hR
  obtain ⟨A, c, rfl⟩ := Kd.R_slice hR
  exact ⟨A, c, rfl, (Kd.R_reads' hR).2.2, hb⟩
end Go.Proofs.Ytjldkgcabombhaa

/- law25's known, walked by hand. -/
namespace Go.Proofs.Ytjldkgcabombhaa
open Go.RowKit Go.Proofs.Ytjldkgcabombhaa.Rec Go.Proofs.Ytjldkgcabombhaa.Wh Go.Proofs.Ytjldkgcabombhaa.Pl Go.Proofs.YtjldkgcabombhaaW.PrintWords Go.Proofs.YtjldkgcabombhaaW.PrintLast Go.Proofs.YtjldkgcabombhaaW.PrintMore
set_option linter.unusedVariables false
set_option linter.unusedSimpArgs false

def Bk.k0 : Fs := Fs.new 8
def Bk.k1 : Fs := Bk.k0.wrote 0 [1, 2, 3, 4]
def Bk.k2 : Fs := Bk.k1.crash 2
def Bk.k3 : Fs := Bk.k2.torn 0 [9, 9]
def Bk.k4 : Fs := {Bk.k3 with down := false}
theorem Bk.part : (Bk.k4.b.drop (0 : Int).toNat).take (4 : Int).toNat = [9, 9, 3, 4] := by decide +kernel
theorem Bk.m0 : Bk.k0.may 0 (([1, 2, 3, 4] : List Int).length : Nat) = 0 := by decide +kernel
theorem Bk.m1 : Bk.k1.may 0 0 = 0 := by decide +kernel
theorem Bk.m2 : Bk.k2.may 0 (([9, 9, 9, 9] : List Int).length : Nat) = 0 := by decide +kernel
theorem Bk.m4 : Bk.k4.may 0 4 = 0 := by decide +kernel
theorem Bk.cut : ([9, 9, 9, 9] : List Int).take (Fs.cut Bk.k2 4).toNat = [9, 9] := by decide +kernel
theorem Bk.lit (W : World) (a b c d : Int) : Kd.C (Kd.int .u8) (W.alloc (.cells #[.int .u8 a, .int .u8 b, .int .u8 c, .int .u8 d] 5 (0, 0))) (some ⟨W.heap.size, 0, none⟩) 4 [a, b, c, d] := by
  refine Kd.C_of_reads (enc := Value.int .u8) (d := (0 : Int)) (h1 := fun _ => rfl) ⟨rfl, by decide, fun _ => ⟨_, rfl, fun j hj => ?_⟩⟩
  have hk := blk_new W (.cells #[.int .u8 a, .int .u8 b, .int .u8 c, .int .u8 d] 5 (0, 0))
  match j, hj with
  | 0, _ => exact blk_cell hk 0
  | 1, _ => exact blk_cell hk 1
  | 2, _ => exact blk_cell hk 2
  | 3, _ => exact blk_cell hk 3
theorem Bk.write1 {w : World} {g : Nat} (h : Bk.k0.At w g) : Calls Try.prog 32 #[.pointer (some ⟨g, 0, none⟩), .int .i64 0, .slice (some ⟨w.heap.size, 0, none⟩) 4 4] (w.alloc (.cells #[.int .u8 1, .int .u8 2, .int .u8 3, .int .u8 4] 5 (0, 0))) fun e w' => e = .returned (.int .i64 0) ∧ Bk.k1.At w' g ∧ Fs.Fr g (w.alloc (.cells #[.int .u8 1, .int .u8 2, .int .u8 3, .int .u8 4] 5 (0, 0))) w' :=
  Fs.write_ok (s := Bk.k0) 0 (some ⟨w.heap.size, 0, none⟩) 4 4 [1, 2, 3, 4] ⟨blk_alloc h.1 _, h.2⟩ ⟨by decide, by decide⟩ Bk.m0 rfl (Bk.lit w 1 2 3 4)
theorem Bk.write2 {w : World} {g : Nat} (h : Bk.k2.At w g) : Calls Try.prog 32 #[.pointer (some ⟨g, 0, none⟩), .int .i64 0, .slice (some ⟨w.heap.size, 0, none⟩) 4 4] (w.alloc (.cells #[.int .u8 9, .int .u8 9, .int .u8 9, .int .u8 9] 5 (0, 0))) fun e w' => e = .returned (.int .i64 10) ∧ Bk.k3.At w' g ∧ Fs.Fr g (w.alloc (.cells #[.int .u8 9, .int .u8 9, .int .u8 9, .int .u8 9] 5 (0, 0))) w' := by
  have := Fs.write_torn (s := Bk.k2) 0 (some ⟨w.heap.size, 0, none⟩) 4 [9, 9, 9, 9] ⟨blk_alloc h.1 _, h.2⟩ ⟨by decide, by decide⟩ Bk.m2 rfl (by decide) (Bk.lit w 9 9 9 9) (Nat.le_refl _)
  rw [show ([9, 9, 9, 9] : List Int).take (Fs.cut Bk.k2 ([9, 9, 9, 9] : List Int).length).toNat = [9, 9] from Bk.cut] at this
  exact this
theorem Bk.up {w : World} {g : Nat} (h : Bk.k3.At w g) : Bk.k4.At (w.setCell ⟨g, 4099, none⟩ (.bool false)) g := Fs.put_tail (s := Bk.k3) (s' := Bk.k4) h 3 (.bool false) rfl rfl
theorem Bk.read {w : World} {g : Nat} (h : Bk.k4.At w g) : Calls Try.prog 34 #[.pointer (some ⟨g, 0, none⟩), .int .i64 0, .int .i64 4] w fun x w' => ∃ A c, x = .returned (.tuple #[.slice A 4 c, .int .i64 0]) ∧ Kd.C (Kd.int .u8) w' A 4 [9, 9, 3, 4] ∧ Below w.heap.size w w' := by
  refine (Fs.read_ok (s := Bk.k4) 0 4 h ⟨by decide, by decide⟩ Bk.m4).mono ?_
  rintro x w' ⟨v, rfl, hR, hb⟩
  rw [Bk.part] at hR
  obtain ⟨A, c, rfl⟩ := Kd.R_slice hR
  exact ⟨A, c, rfl, (Kd.R_reads' hR).2.2, hb⟩
theorem Bk.step {w W X : World} {g : Nat} (h : Below w.heap.size w W) (hg : w.heap.size ≤ g) (hF : Fs.Fr g W X) : Below w.heap.size w X := h.trans (Fs.fr_below hF hg h.size)
set_option maxHeartbeats 1000000 in
set_option maxRecDepth 100000 in
theorem Bk.known (w : World) : Calls Try.prog 29 #[] w fun e w' => e = .returned (.bool true) ∧ Below w.heap.size w w' := by
  go_enter Try.func29, Try.ntmps29
  go_wp2_with (first
    | (go_at_call 30; (refine (Pn.prog 8 _ (by decide)).mono ?_)
       rintro e w1 ⟨g, rfl, hg, hA, hb⟩
       have A0 := Aside0.mk (show Bk.k0.At w1 g from hA)
       have G := Aside0.mk hg
       have B0 := Aside0.mk hb
       clear hA hb hg)
    | (have mk_ := A0; clear mk_; go_at_call 32; (refine (Bk.write1 A0.out).mono ?_)
       rintro e w2 ⟨rfl, hA, hF⟩
       have A1 := Aside0.mk hA
       have B1 := Aside0.mk (Bk.step (below_alloc B0.out _) G.out hF)
       clear hA hF A0 B0)
    | (go_at_call 36; (refine (Fs.crash_ok 2 A1.out Bk.m1 (by decide)).mono ?_)
       rintro e w3 ⟨rfl, hA, hF⟩
       have A2 := Aside0.mk (show Bk.k2.At w3 g from hA)
       have B2 := Aside0.mk (Bk.step B1.out G.out hF)
       clear hA hF A1 B1)
    | (have mk_ := A2; clear mk_; go_at_call 32; (refine (Bk.write2 A2.out).mono ?_)
       rintro e w4 ⟨rfl, hA, hF⟩
       have A3 := Aside0.mk hA
       have B3 := Aside0.mk (Bk.step (below_alloc B2.out _) G.out hF)
       clear hA hF A2 B2)
    | (go_at_call 38; (refine (Fs.up_calls A3.out).mono ?_)
       rintro e w5 ⟨rfl, he⟩
       have A4 := Aside0.mk (show Bk.k4.At w5 g by rw [he]; exact Bk.up A3.out)
       have B4 := Aside0.mk (show Below w.heap.size w w5 by rw [he]; exact B3.out.setCell (p := ⟨g, 4099, none⟩) G.out _)
       clear he A3 B3)
    | (go_at_call 34; (refine (Bk.read A4.out).mono ?_)
       rintro e w6 ⟨A, c, rfl, hC, hb⟩
       have B5 := Aside0.mk (below_step B4.out hb)
       have cv1 := Kd.C_string (P := Try.prog) (A := A) (c := c) Try.underlying25 Try.underlying5 Try.underlying9 hC
       have cv2 := Kd.C_string (P := Try.prog) (A := A) (c := c) Try.underlying25 Try.underlying5 Try.underlying9 (Kd.C_drew hC)
       clear hC hb A4 B4))
  go_ret
  have hs : ((strOfNums [9, 9, 3, 4]).toList == [9, 9, 3, 4]) = true := by rw [Lib.strOfNums_toList]; decide
  exact ⟨by show Ending.returned (.bool ((strOfNums [9, 9, 3, 4]).toList == [9, 9, 3, 4])) = _; rw [hs], B5.out⟩
end Go.Proofs.Ytjldkgcabombhaa

/- BlockPlays, walked by hand. -/
namespace Go.Proofs.Ytjldkgcabombhaa
open Go.RowKit Go.Proofs.Ytjldkgcabombhaa.Rec Go.Proofs.Ytjldkgcabombhaa.Wh Go.Proofs.Ytjldkgcabombhaa.Pl Go.Proofs.YtjldkgcabombhaaW.PrintWords Go.Proofs.YtjldkgcabombhaaW.PrintLast Go.Proofs.YtjldkgcabombhaaW.PrintMore
set_option linter.unusedVariables false
set_option linter.unusedSimpArgs false

set_option maxHeartbeats 16000000 in
set_option maxRecDepth 100000 in
theorem Bw.walk (m : Nat) (A : Option Addr) (c : Nat) (l : List Op4) (w : World) (hC : Op4.All w A l) (hn : l.length ≤ 9223372036854775807) (h1 : 1 ≤ m) (h2 : m ≤ 4096) (hb : Bg.big l = false) : Calls Try.prog 9 #[.int .i64 (m : Int), .slice A l.length c] w fun e w' => e = .returned (.bool true) ∧ Below w.heap.size w w' := by
  have hu := Try.underlying67
  have hu3 := Try.underlying59
  have d1 : decide ((m : Int) < 1) = false := decide_eq_false (by omega)
  have d2 : decide (4096 < (m : Int)) = false := decide_eq_false (by omega)
  have HC := Aside0.mk hC
  have HN := Aside0.mk hn
  have HM := Aside0.mk (show 1 ≤ m ∧ m ≤ 4096 from ⟨h1, h2⟩)
  have HGR := Aside0.mk (Bg.great A c l w hC hn)
  rw [hb] at HGR
  have HSM := Aside0.mk (Bg.small hb)
  clear hC hn h1 h2 hb
  go_enter Try.func9, Try.ntmps9
  go_wp2_with (first
    | (go_at_call 28; (refine HGR.out.mono ?_)
       rintro e w1 ⟨rfl, hb⟩
       have HB := Aside0.mk hb
       clear hb)
    | (go_at_call 30; (refine (Pn.prog (m : Int) _ (by have := HM.out; omega)).mono ?_)
       rintro e w2 ⟨g, rfl, hg, hA, hb⟩
       have HA := Aside0.mk hA
       have HB2 := Aside0.mk (below_step HB.out hb)
       have HG := Aside0.mk (show w.heap.size ≤ g from Nat.le_trans HB.out.size hg)
       clear hA hb hg HB)
    | (go_at_call 31; (refine (Pn.doc m _ HM.out.2).mono ?_)
       rintro e w3 ⟨gd, rfl, hg, hA, hb⟩
       have HT := Aside0.mk (Pw.t_start HA.out HG.out HB2.out hA hg hb)
       clear hA hb hg HA HB2 HG))
  go_loopw [5, 7, 55] (fun v5 v7 v55 wr => ∃ (i g gd : Nat) (s : Fs) (d : Dz), v5 = .pointer (some ⟨g, 0, none⟩) ∧ v7 = .pointer (some ⟨gd, 0, none⟩) ∧ v55 = .int .i64 i ∧ Aside0 (i ≤ l.length) ∧ Aside0 (Sim m s d) ∧ Aside0 (Pw.T w wr g gd s d [])) (fun _ _ v55 _ => l.length - (intOf v55).toNat)
  case atStart => exact ⟨0, g, gd, Fs.new m, Pl.Dz.new m, rfl, rfl, rfl, ⟨Nat.zero_le _⟩, ⟨Sim.start HM.out.2⟩, HT⟩
  case round =>
    clear HT
    obtain ⟨i, g, gd, s, d, rfl, rfl, rfl, HI, HS, HT⟩ := hrel
    by_cases hlt : i < l.length
    · have p0 : 0 ≤ ((i : Nat) : Int) := Int.natCast_nonneg _
      have q0 : ((i : Nat) : Int) < (l.length : Int) := by omega
      obtain ⟨ad, o, e, ho, hg, hx0, hx1, hx2, hx3⟩ := Op4.get HC.out HT.out.below i hlt
      cases e
      have HO := Aside0.mk hg
      have HLT := Aside0.mk hlt
      have HBS := Aside0.mk (HSM.out.1 i o ho)
      have hi1 : ((i : Nat) : Int) < 9223372036854775807 := by have := HN.out; omega
      have T0 := Aside0.mk (Pw.t_new HT.out #[.int .i64 o.k, .int .i64 o.at', .int .i64 o.n, .slice o.A o.bs.length o.c] 59 (by decide))
      clear hlt hg ho HT
      go_upto_region 12 with (fail)
      generalize (wr.alloc (.cells #[.int .i64 o.k, .int .i64 o.at', .int .i64 o.n, .slice o.A o.bs.length o.c] 59 (0, 0))) = w3 at T0 ⊢
      clear hx0 hx1 hx2 hx3
      have HR0 := Aside0.mk (Fs.row0 w3)
      have HCB := Aside0.mk (Kd.C_below HO.out.rd T0.out.below)
      have HB0 := Aside0.mk (below_alloc (Below.refl w3.heap.size w3) (.cells #[] 5 (0, 0)))
      have HZ := Aside0.mk (show w3.heap.size ≤ (w3.alloc (.cells #[] 5 (0, 0))).heap.size by simp)
      have HW := Aside0.mk (T0.out.below.size)
      have b3 := blk_cell (Pw.t_top T0.out) 3
      have b3' := blk_cell (blk_alloc (Pw.t_top T0.out) (.cells #[] 5 (0, 0))) 3
      go_upto_region 13 with (first
        | (at_builtin; refine Kd.R_append_rows (Kd.int .u8) (w0 := w3) w3.heap.size rfl (.tmp 59) (.tmp 61) 25 5 (.int .u8 0) 1 rfl Try.underlying25 Rc.info5 rfl (by decide) (by omega) _ [] o.bs _ _ _ (fun _ => True) (fun _ => False) rfl rfl HR0.out (Kd.C_alloc HCB.out _) (fun _ _ h => h) (fun _ h => h.elim) (fun _ _ => trivial) HB0.out HZ.out (by have := HBS.out; simp; omega) ?_
           intro v1 w4 h1 h2 h3 h4
           obtain ⟨A1, c1, rfl⟩ := Kd.R_slice h1
           have HTI := Aside0.mk (Bp.in_new (Pw.t_below T0.out h2) (Kd.R_lower h1 HW.out))
           have HCI := Aside0.mk (Kd.R_reads' h1).2
           clear h1 h2 h3 h4))
      obtain ⟨rs, HT1, HIN⟩ := HTI.out
      have T1 := Aside0.mk (show Pw.T w w4 g gd s d ((wr.heap.size, #[.int .i64 o.k, .int .i64 o.at', .int .i64 o.n, .slice o.A o.bs.length o.c], 59) :: rs) from HT1)
      have HIN := Aside0.mk HIN
      have HCI := Aside0.mk (show o.bs.length ≤ c1 ∧ Kd.C (Kd.int .u8) w4 A1 o.bs.length o.bs from HCI.out)
      clear HTI HR0 HCB HB0 HZ HW b3 b3' T0 HT1
      have b0 := blk_cell (Pw.t_top T1.out) 0
      go_upto_block 2 with (fail)
      go_cut [5, 7] (fun v5 v7 wx => ∃ (g' gd' : Nat) (s' : Fs) (d' : Dz), v5 = .pointer (some ⟨g', 0, none⟩) ∧ v7 = .pointer (some ⟨gd', 0, none⟩) ∧ Aside0 (Sim m s' d') ∧ Aside0 (Pw.T w wx g' gd' s' d' rs))
      case first =>
        have b0 := blk_cell (Pw.t_top T1.out) 0
        have b1 := blk_cell (Pw.t_top T1.out) 1
        have b2 := blk_cell (Pw.t_top T1.out) 2
        have b3 := blk_cell (Pw.t_top T1.out) 3
        by_cases k1 : o.k = 1
        · have e1 : (o.k == 1) = true := beq_iff_eq.mpr k1
          obtain ⟨e, s', d', H', hF, hD⟩ := Pv.write HS.out o.at' o.bs HO.out.at' HO.out.bytes
          have HF := Aside0.mk hF
          have HD := Aside0.mk hD
          have HS' := Aside0.mk H'
          clear k1 hF hD H'
          have T1d := Aside0.mk (Pw.t_below T1.out (below_drew1 (Below.refl _ _)))
          go_upto_region 15 with (fail)
          go_cut [78] (fun s78 wx => s78 = .bool false ∧ Aside0 (Pw.T w wx g gd s' d' ((wr.heap.size, #[.int .i64 o.k, .int .i64 o.at', .int .i64 o.n, .slice o.A o.bs.length o.c], 59) :: rs)))
          case first =>
            as_aux_lemma =>
              go_region_with (first
                | (go_at_call 32; (refine Calls.mono (HF.out _ _ A1 c1 T1d.out.f (Kd.C_drew HCI.out.2) HCI.out.1) ?_)
                   rintro e w5 ⟨rfl, hA, hF⟩
                   have T2 := Aside0.mk (Pw.t_frF T1d.out hA hF)
                   have j1 := blk_cell (Pw.t_top T2.out) 1
                   have j3 := blk_cell (Pw.t_top T2.out) 3
                   clear hA hF)
                | (go_at_call 33; (refine Calls.mono (HD.out _ _ o.A o.c T2.out.c (Kd.C_below HO.out.rd T2.out.below) HO.out.le) ?_)
                   rintro e w6 ⟨rfl, hA, hF⟩
                   have T3 := Aside0.mk (Pw.t_frD T2.out hA hF)
                   clear hA hF))
              all_goals (go_wp2_with fail; go_meet)
              all_goals exact ⟨by first | rfl | simp, T3⟩
          case rest =>
            obtain ⟨rfl, T3⟩ := hcut
            go_wp2
            go_meet
            exact ⟨g, gd, s', d', rfl, rfl, HS', ⟨Pw.t_tail T3.out⟩⟩
        have e1 : (o.k == 1) = false := beq_eq_false_iff_ne.mpr k1
        by_cases k2 : o.k = 2
        · have e2 : (o.k == 2) = true := beq_iff_eq.mpr k2
          as_aux_lemma =>
            obtain ⟨e, xs, hF, hD, hxl⟩ := Bp.read HS.out o.at' o.n HO.out.at'
            have HF := Aside0.mk hF
            have HD := Aside0.mk hD
            have HXL := Aside0.mk hxl
            clear k1 k2 hF hD hxl
            go_upto_region 20 with (first
              | (go_at_call 34; (refine (HF.out _ _ T1.out.f).mono ?_)
                 rintro e w5 ⟨A2, c2, rfl, hC, hL, hb⟩
                 have T2 := Aside0.mk (Pw.t_below T1.out hb)
                 have HC2 := Aside0.mk hC
                 have HL2 := Aside0.mk hL
                 have b1 := blk_cell (Pw.t_top T2.out) 1
                 have b2 := blk_cell (Pw.t_top T2.out) 2
                 clear hb hC hL)
              | (go_at_call 35; (refine (HD.out _ _ T2.out.c).mono ?_)
                 rintro e w6 ⟨rfl, hb⟩
                 have T3 := Aside0.mk (Pw.t_below T2.out hb)
                 have HC3 := Aside0.mk (Kd.C_below HC2.out hb)
                 have HL3 := Aside0.mk (Bp.l_below HL2.out hb)
                 clear hb))
            have cv0 := Kd.C_string (P := Try.prog) (A := A2) (c := c2) Try.underlying25 Try.underlying5 Try.underlying9 HC3.out
            have HRL := Aside0.mk (show ∀ x ∈ ((wr.heap.size, #[.int .i64 o.k, .int .i64 o.at', .int .i64 o.n, .slice o.A o.bs.length o.c], 59) :: rs : List (Nat × Array Value × TypeId)), x.1 < w4.heap.size from fun x hx => blk_lt (T1.out.box x hx).1)
            have HWL := Aside0.mk (T1.out.below.size)
            clear HF HD T1 T2 HC2 HL2 HC3 b0 b1 b2 b3
            go_wp2
            go_loopw [110] (fun v110 wr => ∃ i2 : Nat, v110 = .int .i64 i2 ∧ Aside0 (i2 ≤ xs.length) ∧ Aside0 (Bp.L w6 w4.heap.size A2 xs.length wr)) (fun v110 _ => xs.length - (intOf v110).toNat)
            case atStart => exact ⟨0, rfl, ⟨Nat.zero_le _⟩, HL3⟩
            case round =>
              clear HL3 cv0
              obtain ⟨i2, rfl, HI2, HL4⟩ := hrel
              rename World => wq
              by_cases hlt2 : i2 < xs.length
              · have p2 : 0 ≤ ((i2 : Nat) : Int) := Int.natCast_nonneg _
                have q2 : ((i2 : Nat) : Int) < (xs.length : Int) := by omega
                have hi2 : ((i2 : Nat) : Int) < 4096 := by have := HXL.out; omega
                obtain ⟨b, x, rfl, hx, hf, hnext⟩ := Bp.l_step HL4.out i2 hlt2
                have HNX := Aside0.mk hnext
                have HLT2 := Aside0.mk hlt2
                clear hlt2 hnext HL4
                go_wp2
                go_roundw
                case rel => exact ⟨i2 + 1, by go_num, ⟨HLT2.out⟩, ⟨HNX.out _⟩⟩
                case measure => have := HLT2.out; simp [intOf]; omega
              · have q2 : ¬ ((i2 : Nat) : Int) < (xs.length : Int) := by omega
                clear hlt2
                go_wp2
                go_meet
                exact ⟨g, gd, s, d, rfl, rfl, HS, ⟨Pw.t_tail (Bp.l_t T3.out HL4.out HWL.out HRL.out)⟩⟩
        have e2 : (o.k == 2) = false := beq_eq_false_iff_ne.mpr k2
        by_cases k3 : o.k = 3
        · have e3 : (o.k == 3) = true := beq_iff_eq.mpr k3
          obtain ⟨e, s', d', H', hF, hD⟩ := Pv.crash HS.out o.n
          have HF := Aside0.mk hF
          have HD := Aside0.mk hD
          have HS' := Aside0.mk H'
          clear k1 k2 k3 hF hD H'
          have T1d := Aside0.mk (Pw.t_below T1.out (below_drew1 (Below.refl _ _)))
          go_upto_region 28 with (fail)
          go_cut [130] (fun s130 wx => s130 = .bool false ∧ Aside0 (Pw.T w wx g gd s' d' ((wr.heap.size, #[.int .i64 o.k, .int .i64 o.at', .int .i64 o.n, .slice o.A o.bs.length o.c], 59) :: rs)))
          case first =>
            as_aux_lemma =>
              go_region_with (first
                | (go_at_call 36; (refine Calls.mono (HF.out _ _ T1d.out.f) ?_)
                   rintro e w5 ⟨rfl, hA, hF⟩
                   have T2 := Aside0.mk (Pw.t_frF T1d.out hA hF)
                   have j2 := blk_cell (Pw.t_top T2.out) 2
                   clear hA hF)
                | (go_at_call 37; (refine Calls.mono (HD.out _ _ T2.out.c) ?_)
                   rintro e w6 ⟨rfl, hA, hF⟩
                   have T3 := Aside0.mk (Pw.t_frD T2.out hA hF)
                   clear hA hF))
              all_goals (go_wp2_with fail; go_meet)
              all_goals exact ⟨by first | rfl | simp, T3⟩
          case rest =>
            obtain ⟨rfl, T3⟩ := hcut
            go_wp2
            go_meet
            exact ⟨g, gd, s', d', rfl, rfl, HS', ⟨Pw.t_tail T3.out⟩⟩
        have e3 : (o.k == 3) = false := beq_eq_false_iff_ne.mpr k3
        by_cases k4 : o.k = 4
        · have e4 : (o.k == 4) = true := beq_iff_eq.mpr k4
          clear k1 k2 k3 k4
          go_wp2_with (first
            | (go_at_call 38; (refine (Fs.up_calls T1.out.f).mono ?_)
               rintro e w5 ⟨rfl, he⟩
               have T2 := Aside0.mk (Pw.t_frF (W' := w5) T1.out (s' := {s with down := false}) (by rw [he]; exact Fs.put_tail (s := s) (s' := {s with down := false}) T1.out.f 3 (.bool false) rfl rfl) (by rw [he]; exact Fs.fr_set (Fs.fr_refl _ _) _ _))
               have c3 := Dz.c_down T2.out.c
               have f3 := blk_frozen T2.out.c 3
               clear he))
          go_meet
          exact ⟨g, gd, _, _, rfl, rfl, ⟨Sim.up HS.out⟩, ⟨Pw.t_tail (Pw.t_frD (d' := {d with down := false}) T2.out (Dz.put (d := d) (d' := {d with down := false}) T2.out.c 3 (.bool false) rfl) (Fs.fr_set (Fs.fr_refl _ _) _ _))⟩⟩
        have e4 : (o.k == 4) = false := beq_eq_false_iff_ne.mpr k4
        by_cases k5 : o.k = 5
        · have e5 : (o.k == 5) = true := beq_iff_eq.mpr k5
          obtain ⟨e, s', d', H', hF, hD⟩ := Pv.write HS.out o.at' o.bs HO.out.at' HO.out.bytes
          have HF := Aside0.mk hF
          clear k1 k2 k3 k4 k5 hF hD H'
          go_wp2_with (first
            | (go_at_call 39; (refine (Bp.copy T1.out.f).mono ?_)
               rintro e w5 ⟨cc, rfl, hc, hA, hb⟩
               have T2 := Aside0.mk (Pw.t_below T1.out hb)
               have T2c := Aside0.mk (Bp.t_copy T1.out hb hc hA)
               have NE := Aside0.mk (show cc ≠ g by have := blk_lt T1.out.f.1; omega)
               have HC5 := Aside0.mk (Kd.C_below HCI.out.2 hb)
               have b1 := blk_cell (Pw.t_top T2.out) 1
               clear hA hb hc)
            | (go_at_call 32; (refine Calls.mono (HF.out _ _ A1 c1 T2.out.f HC5.out HCI.out.1) ?_)
               rintro e w6 ⟨rfl, hA, hF⟩
               have T3 := Aside0.mk (Bp.t_other T2c.out hF NE.out (Pw.ne T2.out) (fun x hx => Pw.far (T2.out.box x hx).1 T2.out.f.1 (T2.out.box x hx).2.1) T2.out.le.1)
               have y0 := Dz.c_b T3.out.c
               clear hA hF)
            | (go_at_call 40; (refine (Dz.copy_calls T3.out.c).mono ?_)
               rintro e w7 ⟨cd, rfl, hA, hb, hc⟩
               have T4 := Aside0.mk (Bp.t_doc T3.out hb hc hA)
               clear hA hb hc))
          go_meet
          exact ⟨cc, cd, s, d, rfl, rfl, HS, ⟨Pw.t_tail T4.out⟩⟩
        have e5 : (o.k == 5) = false := beq_eq_false_iff_ne.mpr k5
        by_cases k6 : o.k = 6
        · have e6 : (o.k == 6) = true := beq_iff_eq.mpr k6
          obtain ⟨e, s', d', H', hF, hD⟩ := Pv.write HS.out o.at' o.bs HO.out.at' HO.out.bytes
          have HF := Aside0.mk hF
          clear k1 k2 k3 k4 k5 k6 hF hD H'
          go_wp2_with (first
            | (go_at_call 39; (refine (Bp.copy T1.out.f).mono ?_)
               rintro e w5 ⟨cc, rfl, hc, hA, hb⟩
               have T2 := Aside0.mk (Pw.t_below T1.out hb)
               have A2 := Aside0.mk hA
               have GE := Aside0.mk hc
               have HC5 := Aside0.mk (Kd.C_below HCI.out.2 hb)
               have b1 := blk_cell (Pw.t_top T2.out) 1
               clear hA hb hc)
            | (go_at_call 32; (refine Calls.mono (HF.out _ _ A1 c1 A2.out HC5.out HCI.out.1) ?_)
               rintro e w6 ⟨rfl, hA, hF⟩
               have T3 := Aside0.mk (Bp.t_later T1.out GE.out T2.out hF)
               have A3 := Aside0.mk hA
               clear hA hF)
            | (go_at_call 38; (refine (Fs.up_calls A3.out).mono ?_)
               rintro e w7 ⟨rfl, he⟩
               have T4 := Aside0.mk (Bp.t_later (W2 := w7) T1.out GE.out T3.out (by rw [he]; exact Fs.fr_set (Fs.fr_refl _ _) _ _))
               clear he))
          go_meet
          exact ⟨g, gd, s, d, rfl, rfl, HS, ⟨Pw.t_tail T4.out⟩⟩
        have e6 : (o.k == 6) = false := beq_eq_false_iff_ne.mpr k6
        clear k1 k2 k3 k4 k5 k6
        go_wp2
        go_meet
        exact ⟨g, gd, s, d, rfl, rfl, HS, ⟨Pw.t_tail T1.out⟩⟩
      case rest =>
        obtain ⟨g1, gd1, s1, d1', rfl, rfl, HS1, T5⟩ := hcut
        clear T1
        rename World => w5
        have HL0 := Aside0.mk (Bp.in_l T5.out HIN.out)
        have T5d := Aside0.mk (Pw.t_drop T5.out)
        clear T5 HIN HCI
        go_wp2
        go_loopw [163] (fun v163 wr => ∃ i2 : Nat, v163 = .int .i64 i2 ∧ Aside0 (i2 ≤ o.bs.length) ∧ Aside0 (Bp.L w5 w.heap.size A1 o.bs.length wr)) (fun v163 _ => o.bs.length - (intOf v163).toNat)
        case atStart => exact ⟨0, rfl, ⟨Nat.zero_le _⟩, HL0⟩
        case round =>
          clear HL0
          obtain ⟨i2, rfl, HI2, HL4⟩ := hrel
          rename World => wq
          by_cases hlt2 : i2 < o.bs.length
          · have p2 : 0 ≤ ((i2 : Nat) : Int) := Int.natCast_nonneg _
            have q2 : ((i2 : Nat) : Int) < (o.bs.length : Int) := by omega
            have hi2 : ((i2 : Nat) : Int) < 5000 := by have := HBS.out; omega
            obtain ⟨b, x, rfl, hx, hf, hnext⟩ := Bp.l_step HL4.out i2 hlt2
            have HNX := Aside0.mk hnext
            have HLT2 := Aside0.mk hlt2
            clear hlt2 hnext HL4
            go_wp2
            go_roundw
            case rel => exact ⟨i2 + 1, by go_num, ⟨HLT2.out⟩, ⟨HNX.out _⟩⟩
            case measure => have := HLT2.out; simp [intOf]; omega
          · have q2 : ¬ ((i2 : Nat) : Int) < (o.bs.length : Int) := by omega
            clear hlt2
            have T6 := Aside0.mk (Bp.l_t T5d.out HL4.out (Nat.le_refl _) (fun x hx => absurd hx List.not_mem_nil))
            clear HL4 T5d
            go_upto_region 49 with (first
              | (go_at_call 39; (refine (Bp.copy T6.out.f).mono ?_)
                 rintro e w7 ⟨cc, rfl, hc, hA, hb⟩
                 have T7 := Aside0.mk (Pw.t_below T6.out hb)
                 have A7 := Aside0.mk hA
                 have GE := Aside0.mk hc
                 clear hA hb hc)
              | (go_at_call 38; (refine (Fs.up_calls A7.out).mono ?_)
                 rintro e w8 ⟨rfl, he⟩
                 have T8 := Aside0.mk (Bp.t_later (W2 := w8) T6.out GE.out T7.out (by rw [he]; exact Fs.fr_set (Fs.fr_refl _ _) _ _))
                 have A8 := Aside0.mk (show Fs.At {s1 with down := false} w8 cc by rw [he]; exact Fs.put_tail (s := s1) (s' := {s1 with down := false}) A7.out 3 (.bool false) rfl rfl)
                 clear he A7 T7)
              | (go_at_call 34; (refine (Bp.all HS1.out A8.out).mono ?_)
                 rintro e w9 ⟨A3, ca3, rfl, hC, hb⟩
                 have T9 := Aside0.mk (Pw.t_below T8.out hb)
                 have HC9 := Aside0.mk hC
                 clear hb hC T8 A8))
            have c0 := Dz.c_b T9.out.c
            have c3 := Dz.c_down T9.out.c
            have c4 := Dz.c_wr T9.out.c
            rw [HS1.out.down] at c3
            rw [HS1.out.wr] at c4
            have cv : ∀ k : Nat, (convert 25 9 (.slice A3 d1'.b.length ca3)).run Try.prog (w9.drewN k) = .ok (.string (strOfNums d1'.b)) (w9.drewN k) := fun k => Kd.C_string (P := Try.prog) (A := A3) (c := ca3) Try.underlying25 Try.underlying5 Try.underlying9 (Kd.C_below HC9.out (pw_below_drewN (Below.refl _ _) k))
            have HQ := Aside0.mk (show ∀ k, s1.At (w9.drewN k) g1 from fun k => ⟨blk_drewN T9.out.f.1 k, T9.out.f.2⟩)
            have hsz : s1.size = (m : Int) := HS1.out.size
            have HFS := Aside0.mk (fun k => Fs.size_calls (HQ.out k))
            rw [hsz] at HFS
            clear HC9 hsz
            go_wp2_with fail
            go_big_quiet (first
              | (go_at_call 41; refine Calls.quiet_of_same (Fs.down_calls (HQ.out _)))
              | (go_at_call 42; refine Calls.quiet_of_same (Fs.written_calls (HQ.out _)))
              | (go_at_call 43; refine Calls.quiet_of_same (HFS.out _)))
            have T10 := Aside0.mk (Pw.t_below T9.out (pw_below_drewN (Below.refl _ _) nq))
            clear c0 c3 c4 cv HQ HFS
            go_wp2
            go_roundw
            case rel => exact ⟨i + 1, g1, gd1, s1, d1', rfl, rfl, by go_num, ⟨HLT.out⟩, HS1, T10⟩
            case measure => have := HLT.out; simp [intOf]; omega
    · have q0 : ¬ ((i : Nat) : Int) < (l.length : Int) := by omega
      clear hlt
      go_wp2_with (first
        | (go_at_call 29; (refine (Bk.known _).mono ?_)
           rintro e w9 ⟨rfl, hb⟩
           have B9 := Aside0.mk (below_step HT.out.below hb)
           clear hb))
      go_ret
      exact ⟨rfl, B9.out⟩
end Go.Proofs.Ytjldkgcabombhaa

/- BlockPlays, its ways joined. -/
namespace Go.Proofs.Ytjldkgcabombhaa
open Go.RowKit Go.Proofs.Ytjldkgcabombhaa.Rec Go.Proofs.Ytjldkgcabombhaa.Wh Go.Proofs.Ytjldkgcabombhaa.Pl Go.Proofs.YtjldkgcabombhaaW.PrintWords Go.Proofs.YtjldkgcabombhaaW.PrintLast Go.Proofs.YtjldkgcabombhaaW.PrintMore
set_option linter.unusedVariables false
set_option linter.unusedSimpArgs false

set_option maxHeartbeats 1000000 in
set_option maxRecDepth 100000 in
theorem Bw.big (size : Int) (A : Option Addr) (c : Nat) (l : List Op4) (w : World) (hC : Op4.All w A l) (hn : l.length ≤ 9223372036854775807) (hb : Bg.big l = true) : Calls Try.prog 9 #[.int .i64 size, .slice A l.length c] w fun e w' => e = .returned (.bool true) ∧ Below w.heap.size w w' := by
  have HGR := Aside0.mk (Bg.great A c l w hC hn)
  rw [hb] at HGR
  clear hC hn hb
  go_enter Try.func9, Try.ntmps9
  go_wp2_with (first
    | (go_at_call 28; (refine HGR.out.mono ?_)
       rintro e w1 ⟨rfl, hb⟩
       have HB := Aside0.mk hb
       clear hb)
    | (go_at_call 29; (refine (Bk.known _).mono ?_)
       rintro e w9 ⟨rfl, hb⟩
       have B9 := Aside0.mk (below_step HB.out hb)
       clear hb))
  go_ret
  exact ⟨rfl, B9.out⟩
set_option maxHeartbeats 1000000 in
set_option maxRecDepth 100000 in
theorem Bw.low (size : Int) (A : Option Addr) (c : Nat) (l : List Op4) (w : World) (hC : Op4.All w A l) (hn : l.length ≤ 9223372036854775807) (hb : Bg.big l = false) (h1 : size < 1) : Calls Try.prog 9 #[.int .i64 size, .slice A l.length c] w fun e w' => e = .returned (.bool true) ∧ Below w.heap.size w w' := by
  have d1 : decide (size < 1) = true := decide_eq_true h1
  have HGR := Aside0.mk (Bg.great A c l w hC hn)
  rw [hb] at HGR
  have HBD := Aside0.mk (fun W => Fs.new_bad size W (by omega))
  clear hC hn hb h1
  go_enter Try.func9, Try.ntmps9
  go_wp2_with (first
    | (go_at_call 28; (refine HGR.out.mono ?_)
       rintro e w1 ⟨rfl, hb⟩
       have HB := Aside0.mk hb
       clear hb)
    | (go_at_call 30; (refine (HBD.out _).mono ?_)
       rintro e w2 ⟨rfl, rfl⟩)
    | (go_at_call 29; (refine (Bk.known _).mono ?_)
       rintro e w9 ⟨rfl, hb⟩
       have B9 := Aside0.mk (below_step HB.out hb)
       clear hb))
  go_ret
  exact ⟨rfl, B9.out⟩
set_option maxHeartbeats 1000000 in
set_option maxRecDepth 100000 in
theorem Bw.high (size : Int) (A : Option Addr) (c : Nat) (l : List Op4) (w : World) (hC : Op4.All w A l) (hn : l.length ≤ 9223372036854775807) (hb : Bg.big l = false) (h1 : ¬ size < 1) (h2 : 4096 < size) : Calls Try.prog 9 #[.int .i64 size, .slice A l.length c] w fun e w' => e = .returned (.bool true) ∧ Below w.heap.size w w' := by
  have d1 : decide (size < 1) = false := decide_eq_false h1
  have d2 : decide (4096 < size) = true := decide_eq_true h2
  have HGR := Aside0.mk (Bg.great A c l w hC hn)
  rw [hb] at HGR
  have HBD := Aside0.mk (fun W => Fs.new_bad size W (by omega))
  clear hC hn hb h1 h2
  go_enter Try.func9, Try.ntmps9
  go_wp2_with (first
    | (go_at_call 28; (refine HGR.out.mono ?_)
       rintro e w1 ⟨rfl, hb⟩
       have HB := Aside0.mk hb
       clear hb)
    | (go_at_call 30; (refine (HBD.out _).mono ?_)
       rintro e w2 ⟨rfl, rfl⟩)
    | (go_at_call 29; (refine (Bk.known _).mono ?_)
       rintro e w9 ⟨rfl, hb⟩
       have B9 := Aside0.mk (below_step HB.out hb)
       clear hb))
  go_ret
  exact ⟨rfl, B9.out⟩
theorem Bw.blockPlays_walk (size : Int) (A : Option Addr) (c : Nat) (l : List Op4) (w : World) (w0 : (Lit.int .i64 size).wf = true) (hC : Op4.All w A l) (hn : l.length ≤ 9223372036854775807) : Calls Try.prog 9 #[.int .i64 size, .slice A l.length c] w fun e w' => e = .returned (.bool true) ∧ Below w.heap.size w w' := by
  cases hb : Bg.big l with
  | true => exact Bw.big size A c l w hC hn hb
  | false =>
    by_cases c1 : size < 1
    · exact Bw.low size A c l w hC hn hb c1
    · by_cases c2 : 4096 < size
      · exact Bw.high size A c l w hC hn hb c1 c2
      · have e : size = ((size.toNat : Nat) : Int) := by omega
        rw [e]
        exact Bw.walk size.toNat A c l w hC hn (by omega) (by omega) hb
end Go.Proofs.Ytjldkgcabombhaa

/- Opening of an argument that is a slice of BlockPlays's calls: what it reads as, element by element (no condition but those that stand in the statements). -/
namespace Go.Proofs.Ytjldkgcabombhaa.Open
open Go.Joins Go.ChangeShapes Go.WideShapes Go.ChangeAt Go.RowKit Go.Deep Go.Proofs.Ytjldkgcabombhaa.Rec Go.Proofs.YtjldkgcabombhaaW.PrintWords Go.Proofs.YtjldkgcabombhaaW.PrintLast Go.Proofs.YtjldkgcabombhaaW.PrintMore
variable {H : Type} {enc : TypeId × Value → H} {w : World} {base : Nat} {spare : Nat → Bool} {held : Bool}

/-- A struct of one-cell fields, out of its cells. -/
theorem flat_row {P : Program} {t : TypeId} {fs : Array Field} {n : Nat} {cs : List Value} {y : DataW H × List MemPlace}
    (hs : P.underlying t = some (.struct fs)) (hone : oneCellFields P fs = true) (_hC : P.cellsOf t = fs.size) (hl : cs.length = fs.size)
    (h : DataW.trod enc P w base spare held n t cs = some y) :
    ∀ (j : Nat) (f : Field), fs[j]? = some f → ∃ (c : Value) (n : Nat) (y : DataW H × List MemPlace), cs[j]? = some c ∧ DataW.trod enc P w base spare held n f.type [c] = some y := by
  obtain ⟨xs, n, _, _, _, hlen, hg⟩ := DataW.trod_struct hs h
  intro j f hj
  obtain ⟨ho, hk⟩ := hone_of hone j f hj
  have hjl : j < fs.size := (Array.getElem?_eq_some_iff.1 hj).1
  have h1 := hg j f hj
  rw [ho, hk] at h1
  have h2 : (cs.drop j).take 1 = [cs[j]] := by
    rw [List.drop_eq_getElem_cons (by omega)]; rfl
  rw [h2, List.getElem?_eq_getElem (by omega)] at h1
  exact ⟨cs[j], n, _, List.getElem?_eq_getElem (by omega), h1⟩
/-- A record, out of its four cells. -/
theorem rec_row {n : Nat} {cs : List Value} {y : DataW H × List MemPlace} (hl : cs.length = 4) (h : DataW.trod enc Try.prog w base spare held n 24 cs = some y) :
    ∃ x0 x1 x2 x3 : Int, cs = [.int .u32 x0, .int .i64 x1, .int .i64 x2, .int .i64 x3] := by
  have hf := flat_row Try.underlying24 (by kernel_rfl) (by kernel_rfl) hl h
  obtain ⟨c0, n0, y0, e0, t0⟩ := hf 0 _ rfl
  obtain ⟨a0, rfl, w0⟩ := int_cell Try.underlying22 t0
  obtain ⟨c1, n1, y1, e1, t1⟩ := hf 1 _ rfl
  obtain ⟨a1, rfl, w1⟩ := int_cell Try.underlying2 t1
  obtain ⟨c2, n2, y2, e2, t2⟩ := hf 2 _ rfl
  obtain ⟨a2, rfl, w2⟩ := int_cell Try.underlying2 t2
  obtain ⟨c3, n3, y3, e3, t3⟩ := hf 3 _ rfl
  obtain ⟨a3, rfl, w3⟩ := int_cell Try.underlying2 t3
  exact ⟨a0, a1, a2, a3, list_four hl e0 e1 e2 e3⟩
/-- A slice of bytes, out of its cell. -/
theorem bytes_cell {n : Nat} {c : Value} {y : DataW H × List MemPlace} (h : DataW.trod enc Try.prog w base spare held n 25 [c] = some y) :
    ∃ (A : Option Addr) (cap : Nat) (bs : List Int), c = .slice A bs.length cap ∧ Kd.C (Kd.int .u8) w A bs.length bs ∧ bs.length ≤ cap ∧ Bytes bs := by
  rcases open_slice Try.underlying25 h with ⟨hcs, _⟩ | ⟨a, len, cap, m, n, D, Pl, hcs, hb, hl, hm, hmm, _, hel⟩
  · obtain rfl : c = .slice none 0 0 := by simpa using hcs
    exact ⟨none, 0, [], rfl, ⟨rfl, by decide, fun h => absurd h (by decide)⟩, Nat.le_refl _, fun x hx => by cases hx⟩
  · obtain rfl : c = .slice (some a) len cap := by simpa using hcs
    have hc1 : Try.prog.cellsOf 5 = 1 := by kernel_rfl
    have hlm : len ≤ m := by rw [hmm]; split <;> omega
    have hall : ∀ i, i < len → ∃ x : Int, w.cell? (a.add i) = some (.int .u8 x) ∧ (0 ≤ x ∧ x < 256) := by
      intro i hi
      obtain ⟨cs', h1, h2⟩ := hel i (by omega)
      rw [hc1, Nat.mul_one] at h1
      obtain ⟨_, hlen, hce⟩ := World.cells?_some h1
      match cs', hlen with
      | [v], _ =>
        obtain ⟨x, rfl, hw⟩ := int_cell Try.underlying5 h2
        have := hce 0 (by decide)
        have hbd := bounds_u8 hw
        exact ⟨x, by simpa [Addr.add] using this, ⟨hbd.1, by have := hbd.2; omega⟩⟩
    obtain ⟨f, hf⟩ := choose_lt hall
    refine ⟨some a, cap, (List.range len).map f, by simp, ?_, by simpa using hl, fun x hx => ?_⟩
    · refine Kd.C_of_reads (enc := Value.int .u8) (d := (0 : Int)) (h1 := fun _ => rfl) ⟨rfl, by simp; unfold maxLen at hm; omega, fun hn => ⟨_, rfl, fun j hj => ?_⟩⟩
      have hj : j < len := by simpa using hj
      rw [(hf j hj).1]
      simp [List.getD_eq_getElem?_getD, hj]
    · obtain ⟨j, hj, rfl⟩ := List.mem_map.mp hx
      exact (hf j (List.mem_range.mp hj)).2
theorem op4_cells {n : Nat} {cs : List Value} {y : DataW H × List MemPlace} (hl : cs.length = 4) (h : DataW.trod enc Try.prog w base spare held n 59 cs = some y) :
    ∃ o : Op4, cs = o.cells ∧ Op4.Good w o := by
  have hf := flat_row Try.underlying59 (by kernel_rfl) (by kernel_rfl) hl h
  obtain ⟨c0, n0, y0, e0, t0⟩ := hf 0 _ rfl
  obtain ⟨a0, rfl, w0⟩ := int_cell Try.underlying3 t0
  obtain ⟨c1, n1, y1, e1, t1⟩ := hf 1 _ rfl
  obtain ⟨a1, rfl, w1⟩ := int_cell Try.underlying3 t1
  obtain ⟨c2, n2, y2, e2, t2⟩ := hf 2 _ rfl
  obtain ⟨a2, rfl, w2⟩ := int_cell Try.underlying3 t2
  obtain ⟨c3, n3, y3, e3, t3⟩ := hf 3 _ rfl
  obtain ⟨A, cap, bs, rfl, hC, hc, hb⟩ := bytes_cell t3
  have h1 := bounds_i64 w1
  have h2 := bounds_i64 w2
  exact ⟨⟨a0, a1, a2, A, cap, bs⟩, list_four hl e0 e1 e2 e3, ⟨⟨h1.1, h1.2⟩, ⟨h2.1, h2.2⟩, hC, hc, hb⟩⟩
theorem open_ops4 {t : TypeId} {A : Option Addr} {len cap : Nat} {d : DataW H} {p : List MemPlace} (ht : Try.prog.underlying t = some (.slice 59)) (h : DataW.Trod enc Try.prog w base spare held t (.slice A len cap) d p) :
    ∃ l : List Op4, l.length = len ∧ Op4.All w A l ∧ l.length ≤ 9223372036854775807 := by
  obtain ⟨fuel, hf⟩ := h
  rcases open_slice ht hf with ⟨hcs, _⟩ | ⟨a, l, c, m, n, D, Pl, hcs, hb, hl, hm, hmm, _, hel⟩
  · simp [Value.cells] at hcs
    obtain ⟨rfl, rfl, rfl⟩ := hcs
    exact ⟨[], rfl, ⟨fun h => absurd h (by decide), fun o ho => by cases ho⟩, by decide⟩
  · simp [Value.cells] at hcs
    obtain ⟨rfl, rfl, rfl⟩ := hcs
    have hc4 : Try.prog.cellsOf 59 = 4 := by kernel_rfl
    have hlm : len ≤ m := by rw [hmm]; split <;> omega
    have hall : ∀ i, i < len → ∃ o : Op4, (∀ (j : Nat) u, o.cells[j]? = some u → w.cell? (a.add (i * 4 + j)) = some u) ∧ Op4.Good w o := by
      intro i hi
      obtain ⟨cs', h1, h2⟩ := hel i (by omega)
      rw [hc4] at h1
      obtain ⟨_, hlen, hce⟩ := World.cells?_some h1
      obtain ⟨o, rfl, hgd⟩ := op4_cells hlen h2
      refine ⟨o, fun j u hu => ?_, hgd⟩
      have hj : j < 4 := (List.getElem?_eq_some_iff.1 hu).1
      rw [← Go.Deep.add_add, hce j hj, hu]
    haveI : Inhabited Op4 := ⟨⟨0, 0, 0, none, 0, []⟩⟩
    obtain ⟨f, hfx⟩ := choose_lt hall
    refine ⟨(List.range len).map f, by simp, ⟨fun _ => ⟨a, rfl, fun j o ho => ?_⟩, fun o ho => ?_⟩, by simp; unfold maxLen at hm; omega⟩
    · rw [List.getElem?_map] at ho
      have hj : j < len := by
        rcases Nat.lt_or_ge j len with h | h
        · exact h
        · rw [List.getElem?_eq_none (by simpa using h)] at ho; cases ho
      rw [List.getElem?_range hj] at ho
      obtain rfl : f j = o := by simpa using ho
      exact (hfx j hj).1
    · obtain ⟨j, hj, rfl⟩ := List.mem_map.mp ho
      exact (hfx j (List.mem_range.mp hj)).2
end Go.Proofs.Ytjldkgcabombhaa.Open
