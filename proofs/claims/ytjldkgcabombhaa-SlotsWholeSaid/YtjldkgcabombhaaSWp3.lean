/- The contracts of the document's Load and Next (ref27), walked by hand. -/
import Derived.Test.YtjldkgcabombhaaProg
import Derived.Below
import Derived.Deep.Draws
import Derived.OwnWalk
import Derived.Tactics
import Derived.WalkKit
import Derived.WalkSpells
import Derived.WalkLawsBesides
import Derived.KernelRfl
import Derived.RowKit3
import Derived.Deep.LoopGhost
import Derived.Deep.QuietTactic
import Derived.BigQuiet
import Derived.WideLaws
import Derived.Deep.DeepCutAuto
import Derived.Deep.CutBlock
import Derived.Deep.RegionHeld3
import Derived.Lib.Hide
import Derived.IntWalk
import Derived.Outline
import Derived.Test.YtjldkgcabombhaaWWords
import Derived.Test.YtjldkgcabombhaaWLast
import Derived.Test.YtjldkgcabombhaaWMore
import Derived.Deep.RegionWith
import Derived.Test.YtjldkgcabombhaaSWp1
import Derived.Test.YtjldkgcabombhaaSWp2
import Derived.Test.YtjldkgcabombhaaSWp0
import Derived.OpenShut
import Derived.Test.YtjldkgcabombhaaWEqStruct
import Derived.Deep.Slices
namespace Go.Proofs.Ytjldkgcabombhaa
open Go.RowKit Go.Proofs.Ytjldkgcabombhaa.Rec Go.Proofs.Ytjldkgcabombhaa.QJ Go.Proofs.Ytjldkgcabombhaa.QK Go.Proofs.YtjldkgcabombhaaW.PrintWords Go.Proofs.YtjldkgcabombhaaW.PrintLast Go.Proofs.YtjldkgcabombhaaW.PrintMore
set_option linter.unusedVariables false
set_option linter.unusedSimpArgs false

theorem Dl.bytesOf {xs : List Int} (h : Bytes xs) : Go.Proofs.YtjldkgcabombhaaW.PrintWords.bytesOf (strOfNums xs) = xs := by
  unfold Go.Proofs.YtjldkgcabombhaaW.PrintWords.bytesOf
  rw [strOfNums_data, List.map_map]
  refine (List.map_congr_left (fun x hx => ?_)).trans (List.map_id xs)
  have := h x hx
  show ((UInt8.ofNat x.toNat).toNat : Int) = x
  rw [UInt8.toNat_ofNat']
  omega
/-- The world behind []byte(s). -/
def Dl.W (w : World) (xs : List Int) : World := Lib.bytesWorld w 5 (strOfNums xs)
def Dl.cap (w : World) (xs : List Int) : Nat := grownCap w xs.length 0 5
theorem Dl.conv (xs : List Int) (W : World) : (convert 9 25 (.string (strOfNums xs))).run Try.prog W = .ok (.slice (some ⟨W.heap.size, 0, none⟩) xs.length (Dl.cap W xs)) (Dl.W W xs) := by
  have := print_bytes (P := Try.prog) 9 25 5 Try.underlying9 Try.underlying25 Try.underlying5 (strOfNums xs) W
  rw [strOfNums_size] at this
  exact this
theorem Dl.reads {xs : List Int} (h : Bytes xs) (hl : xs.length ≤ 4096) (W : World) : Kd.C (Kd.int .u8) (Dl.W W xs) (some ⟨W.heap.size, 0, none⟩) xs.length xs := by
  have := bytes_reads W 5 (strOfNums xs) (by rw [strOfNums_size]; omega)
  rw [Dl.bytesOf h, strOfNums_size] at this
  exact Kd.C_of_reads (enc := Value.int .u8) (d := (0 : Int)) (h1 := fun _ => rfl) this
theorem Dl.below (xs : List Int) (W : World) : Below W.heap.size W (Dl.W W xs) := bytes_below (Below.refl _ _) (Nat.le_refl _) _ _
theorem Dl.size (xs : List Int) (W : World) : (Dl.W W xs).heap.size = W.heap.size + 1 := Lib.bytesWorld_size _ _ _
theorem Dl.cap_ge (xs : List Int) (W : World) : xs.length ≤ Dl.cap W xs := grownCap_ge _ _ _ _
theorem Dl.dec {xs : List Int} {p0 p1 p2 p3 p4 : Int} (h : Bytes xs) (hp : Rd.dec xs = (p0, p1, p2, p3, p4)) (A : Option Addr) (c : Nat) (W : World) (hC : Kd.C (Kd.int .u8) W A xs.length xs) (hc : xs.length ≤ c) :
    Calls Try.prog 17 #[.slice A xs.length c] W fun e w' => e = .returned (.tuple #[.agg #[.int .u32 p0, .int .i64 p1, .int .i64 p2, .int .i64 p3], .int .i64 p4]) ∧ Below W.heap.size W w' := by
  have he := rdec_tells xs h
  rw [hp] at he
  obtain ⟨k, hk⟩ := Ev.rounds he
  exact remontoireref26_Decode.calls k A c xs p0 p1 p2 p3 p4 W hC hc hk
/-- The result's own box. -/
def Dl.Z (w W : World) : Prop := W.heap[w.heap.size]? = some (.cells #[.int .u32 0, .int .i64 0, .int .i64 0, .int .i64 0] 24 (0, 0)) ∧ Below w.heap.size w W
theorem Dl.z_start (w : World) : Dl.Z w (w.alloc (.cells #[.int .u32 0, .int .i64 0, .int .i64 0, .int .i64 0] 24 (0, 0))) := ⟨blk_new w _, below_alloc (Below.refl _ _) _⟩
theorem Dl.z_below {w W W1 : World} (h : Dl.Z w W) (hb : Below W.heap.size W W1) : Dl.Z w W1 := ⟨blk_below h.1 hb, below_step h.2 hb⟩
theorem Dl.z_alloc {w W : World} (h : Dl.Z w W) (o : Obj) : Dl.Z w (W.alloc o) := ⟨blk_alloc h.1 _, below_alloc h.2 _⟩
def Dl.first (p0 p4 q0 q4 : Int) : Bool := (p4 == 0) && (!(q4 == 0) || decide (q0 ≤ p0))
def Dl.next (p0 p4 q0 q4 : Int) : Int := if ((p4 == 0) && (!(q4 == 0) || decide (q0 < p0))) = true then 1 else 0
set_option maxHeartbeats 400000 in
set_option maxRecDepth 100000 in
theorem Dl.load_x1 {xs ys b : List Int} {p0 p1 p2 p3 p4 q0 q1 q2 q3 q4 : Int} (hx : Bytes xs) (hy : Bytes ys) (hxl : xs.length ≤ 4096) (hyl : ys.length ≤ 4096) (hbx : b.take 64 = xs) (hby : b.drop 64 = ys) (hl : b.length = 128) (hp : Rd.dec xs = (p0, p1, p2, p3, p4)) (hq : Rd.dec ys = (q0, q1, q2, q3, q4)) (w : World) (e4 : (p4 == 0) = true) (g4 : (q4 == 0) = false) :
    Calls Try.prog 49 #[.string (strOfNums b)] w fun e w' => e = .returned (.tuple #[.agg #[.int .u32 p0, .int .i64 p1, .int .i64 p2, .int .i64 p3], .bool true]) ∧ Below w.heap.size w w' := by
  have hu := Try.underlying24
  have g5 : (q4 != 0) = true := by unfold bne; rw [g4]; rfl
  have HP := Aside0.mk (fun A c W => Dl.dec hx hp A c W)
  have HQ := Aside0.mk (fun A c W => Dl.dec hy hq A c W)
  have sl0 : ∀ W, (Instr.slice 9 (.string (strOfNums b)) none (some (.int .i64 64)) none).run Try.prog W = .ok (.string (strOfNums xs)) W := fun W => by
    rw [Dz.to ⟨b, false, 0, false, 0⟩ 64 (by decide) (by show (64 : Int) ≤ b.length; omega)]
    show _ = Result.ok (Value.string (strOfNums xs)) W
    rw [← hbx]
    rfl
  have sl1 : ∀ W, (Instr.slice 9 (.string (strOfNums b)) (some (.int .i64 64)) none none).run Try.prog W = .ok (.string (strOfNums ys)) W := fun W => by
    rw [Dz.from ⟨b, false, 0, false, 0⟩ 64 (by decide) (by show (64 : Int) ≤ b.length; omega)]
    show _ = Result.ok (Value.string (strOfNums ys)) W
    rw [← hby]
    rfl
  have cv0 := Dl.conv xs
  have cv1 := Dl.conv ys
  have HX := Aside0.mk (fun W => Dl.reads hx hxl W)
  have HY := Aside0.mk (fun W => Dl.reads hy hyl W)
  have Z0 := Aside0.mk (Dl.z_below (Dl.z_start w) (Dl.below xs (w.alloc (.cells #[.int .u32 0, .int .i64 0, .int .i64 0, .int .i64 0] 24 (0, 0)))))
  have H0 := Aside0.mk (HX.out (w.alloc (.cells #[.int .u32 0, .int .i64 0, .int .i64 0, .int .i64 0] 24 (0, 0))))
  rw [World.size_alloc] at H0
  clear hx hy hxl hyl hbx hby hl hp hq
  go_enter Try.func49, Try.ntmps49
  go_wp2_with (first
    | (have mk_ := H0; clear mk_; go_at_call 17; (refine (HP.out (some ⟨w.heap.size + 1, 0, none⟩) (Dl.cap _ xs) _ H0.out (Dl.cap_ge _ _)).mono ?_)
       rintro e w1 ⟨rfl, hb⟩
       have Z1 := Aside0.mk (Dl.z_alloc (Dl.z_below Z0.out hb) (.cells #[.int .u32 p0, .int .i64 p1, .int .i64 p2, .int .i64 p3] 24))
       have X1 := Aside0.mk (blk_new w1 (.cells #[.int .u32 p0, .int .i64 p1, .int .i64 p2, .int .i64 p3] 24 (0, 0)))
       have H1 := Aside0.mk (HY.out (w1.alloc (.cells #[.int .u32 p0, .int .i64 p1, .int .i64 p2, .int .i64 p3] 24 (0, 0))))
       rw [World.size_alloc] at H1
       clear hb H0 Z0)
    | (have mk_ := H1; clear mk_; go_at_call 17; (refine (HQ.out (some ⟨w1.heap.size + 1, 0, none⟩) (Dl.cap _ ys) _ H1.out (Dl.cap_ge _ _)).mono ?_)
       rintro e w2 ⟨rfl, hb⟩
       have hb' := Below.refl w1.heap.size w1
       have hW := Dl.below ys (w1.alloc (.cells #[.int .u32 p0, .int .i64 p1, .int .i64 p2, .int .i64 p3] 24 (0, 0)))
       have Z2 := Aside0.mk (Dl.z_alloc (Dl.z_below (Dl.z_below Z1.out hW) hb) (.cells #[.int .u32 q0, .int .i64 q1, .int .i64 q2, .int .i64 q3] 24))
       have X2 := Aside0.mk (blk_alloc (blk_below (blk_below X1.out hW) hb) (.cells #[.int .u32 q0, .int .i64 q1, .int .i64 q2, .int .i64 q3] 24 (0, 0)))
       have k0 := blk_cell Z2.out.1 0
       have k1 := blk_cell Z2.out.1 1
       have k2 := blk_cell Z2.out.1 2
       have k3 := blk_cell Z2.out.1 3
       have f0 := blk_frozen Z2.out.1 0
       have f1 := blk_frozen Z2.out.1 1
       have f2 := blk_frozen Z2.out.1 2
       have f3 := blk_frozen Z2.out.1 3
       have x0 := blk_cell X2.out 0
       have x1 := blk_cell X2.out 1
       have x2 := blk_cell X2.out 2
       have x3 := blk_cell X2.out 3
       clear hb hb' hW H1 Z1 X1))
  obtain ⟨hy, hz⟩ := Sq.set4 (y0 := .int .u32 p0) (y1 := .int .i64 p1) (y2 := .int .i64 p2) (y3 := .int .i64 p3) (Nat.le_refl w.heap.size) Z2.out.1 Z2.out.2
  generalize (((((w2.alloc (.cells #[.int .u32 q0, .int .i64 q1, .int .i64 q2, .int .i64 q3] 24 (0, 0))).setCell ⟨w.heap.size, 0, none⟩ (.int .u32 p0)).setCell ⟨w.heap.size, 1, none⟩ (.int .i64 p1)).setCell ⟨w.heap.size, 2, none⟩ (.int .i64 p2)).setCell ⟨w.heap.size, 3, none⟩ (.int .i64 p3)) = w9 at hy hz ⊢
  refine bodyPost_ret (results_ct rfl _ _ w.heap.size 24 #[.int .u32 p0, .int .i64 p1, .int .i64 p2, .int .i64 p3] (0, 0) _ rfl hy Try.underlying24 rfl (by kernel_rfl)) rfl ?_
  exact ⟨rfl, hz⟩
set_option maxHeartbeats 400000 in
set_option maxRecDepth 100000 in
theorem Dl.load_x2 {xs ys b : List Int} {p0 p1 p2 p3 p4 q0 q1 q2 q3 q4 : Int} (hx : Bytes xs) (hy : Bytes ys) (hxl : xs.length ≤ 4096) (hyl : ys.length ≤ 4096) (hbx : b.take 64 = xs) (hby : b.drop 64 = ys) (hl : b.length = 128) (hp : Rd.dec xs = (p0, p1, p2, p3, p4)) (hq : Rd.dec ys = (q0, q1, q2, q3, q4)) (w : World) (e4 : (p4 == 0) = true) (g4 : (q4 == 0) = true) (d : decide (q0 ≤ p0) = true) :
    Calls Try.prog 49 #[.string (strOfNums b)] w fun e w' => e = .returned (.tuple #[.agg #[.int .u32 p0, .int .i64 p1, .int .i64 p2, .int .i64 p3], .bool true]) ∧ Below w.heap.size w w' := by
  have hu := Try.underlying24
  have g5 : (q4 != 0) = false := by unfold bne; rw [g4]; rfl
  have HP := Aside0.mk (fun A c W => Dl.dec hx hp A c W)
  have HQ := Aside0.mk (fun A c W => Dl.dec hy hq A c W)
  have sl0 : ∀ W, (Instr.slice 9 (.string (strOfNums b)) none (some (.int .i64 64)) none).run Try.prog W = .ok (.string (strOfNums xs)) W := fun W => by
    rw [Dz.to ⟨b, false, 0, false, 0⟩ 64 (by decide) (by show (64 : Int) ≤ b.length; omega)]
    show _ = Result.ok (Value.string (strOfNums xs)) W
    rw [← hbx]
    rfl
  have sl1 : ∀ W, (Instr.slice 9 (.string (strOfNums b)) (some (.int .i64 64)) none none).run Try.prog W = .ok (.string (strOfNums ys)) W := fun W => by
    rw [Dz.from ⟨b, false, 0, false, 0⟩ 64 (by decide) (by show (64 : Int) ≤ b.length; omega)]
    show _ = Result.ok (Value.string (strOfNums ys)) W
    rw [← hby]
    rfl
  have cv0 := Dl.conv xs
  have cv1 := Dl.conv ys
  have HX := Aside0.mk (fun W => Dl.reads hx hxl W)
  have HY := Aside0.mk (fun W => Dl.reads hy hyl W)
  have Z0 := Aside0.mk (Dl.z_below (Dl.z_start w) (Dl.below xs (w.alloc (.cells #[.int .u32 0, .int .i64 0, .int .i64 0, .int .i64 0] 24 (0, 0)))))
  have H0 := Aside0.mk (HX.out (w.alloc (.cells #[.int .u32 0, .int .i64 0, .int .i64 0, .int .i64 0] 24 (0, 0))))
  rw [World.size_alloc] at H0
  clear hx hy hxl hyl hbx hby hl hp hq
  go_enter Try.func49, Try.ntmps49
  go_wp2_with (first
    | (have mk_ := H0; clear mk_; go_at_call 17; (refine (HP.out (some ⟨w.heap.size + 1, 0, none⟩) (Dl.cap _ xs) _ H0.out (Dl.cap_ge _ _)).mono ?_)
       rintro e w1 ⟨rfl, hb⟩
       have Z1 := Aside0.mk (Dl.z_alloc (Dl.z_below Z0.out hb) (.cells #[.int .u32 p0, .int .i64 p1, .int .i64 p2, .int .i64 p3] 24))
       have X1 := Aside0.mk (blk_new w1 (.cells #[.int .u32 p0, .int .i64 p1, .int .i64 p2, .int .i64 p3] 24 (0, 0)))
       have H1 := Aside0.mk (HY.out (w1.alloc (.cells #[.int .u32 p0, .int .i64 p1, .int .i64 p2, .int .i64 p3] 24 (0, 0))))
       rw [World.size_alloc] at H1
       clear hb H0 Z0)
    | (have mk_ := H1; clear mk_; go_at_call 17; (refine (HQ.out (some ⟨w1.heap.size + 1, 0, none⟩) (Dl.cap _ ys) _ H1.out (Dl.cap_ge _ _)).mono ?_)
       rintro e w2 ⟨rfl, hb⟩
       have hb' := Below.refl w1.heap.size w1
       have hW := Dl.below ys (w1.alloc (.cells #[.int .u32 p0, .int .i64 p1, .int .i64 p2, .int .i64 p3] 24 (0, 0)))
       have Z2 := Aside0.mk (Dl.z_alloc (Dl.z_below (Dl.z_below Z1.out hW) hb) (.cells #[.int .u32 q0, .int .i64 q1, .int .i64 q2, .int .i64 q3] 24))
       have X2 := Aside0.mk (blk_alloc (blk_below (blk_below X1.out hW) hb) (.cells #[.int .u32 q0, .int .i64 q1, .int .i64 q2, .int .i64 q3] 24 (0, 0)))
       have k0 := blk_cell Z2.out.1 0
       have k1 := blk_cell Z2.out.1 1
       have k2 := blk_cell Z2.out.1 2
       have k3 := blk_cell Z2.out.1 3
       have f0 := blk_frozen Z2.out.1 0
       have f1 := blk_frozen Z2.out.1 1
       have f2 := blk_frozen Z2.out.1 2
       have f3 := blk_frozen Z2.out.1 3
       have x0 := blk_cell X2.out 0
       have x1 := blk_cell X2.out 1
       have x2 := blk_cell X2.out 2
       have x3 := blk_cell X2.out 3
       clear hb hb' hW H1 Z1 X1))
  obtain ⟨hy, hz⟩ := Sq.set4 (y0 := .int .u32 p0) (y1 := .int .i64 p1) (y2 := .int .i64 p2) (y3 := .int .i64 p3) (Nat.le_refl w.heap.size) Z2.out.1 Z2.out.2
  generalize (((((w2.alloc (.cells #[.int .u32 q0, .int .i64 q1, .int .i64 q2, .int .i64 q3] 24 (0, 0))).setCell ⟨w.heap.size, 0, none⟩ (.int .u32 p0)).setCell ⟨w.heap.size, 1, none⟩ (.int .i64 p1)).setCell ⟨w.heap.size, 2, none⟩ (.int .i64 p2)).setCell ⟨w.heap.size, 3, none⟩ (.int .i64 p3)) = w9 at hy hz ⊢
  refine bodyPost_ret (results_ct rfl _ _ w.heap.size 24 #[.int .u32 p0, .int .i64 p1, .int .i64 p2, .int .i64 p3] (0, 0) _ rfl hy Try.underlying24 rfl (by kernel_rfl)) rfl ?_
  exact ⟨rfl, hz⟩
set_option maxHeartbeats 400000 in
set_option maxRecDepth 100000 in
theorem Dl.load_y1 {xs ys b : List Int} {p0 p1 p2 p3 p4 q0 q1 q2 q3 q4 : Int} (hx : Bytes xs) (hy : Bytes ys) (hxl : xs.length ≤ 4096) (hyl : ys.length ≤ 4096) (hbx : b.take 64 = xs) (hby : b.drop 64 = ys) (hl : b.length = 128) (hp : Rd.dec xs = (p0, p1, p2, p3, p4)) (hq : Rd.dec ys = (q0, q1, q2, q3, q4)) (w : World) (e4 : (p4 == 0) = true) (g4 : (q4 == 0) = true) (d : decide (q0 ≤ p0) = false) :
    Calls Try.prog 49 #[.string (strOfNums b)] w fun e w' => e = .returned (.tuple #[.agg #[.int .u32 q0, .int .i64 q1, .int .i64 q2, .int .i64 q3], .bool true]) ∧ Below w.heap.size w w' := by
  have hu := Try.underlying24
  have g5 : (q4 != 0) = false := by unfold bne; rw [g4]; rfl
  have HP := Aside0.mk (fun A c W => Dl.dec hx hp A c W)
  have HQ := Aside0.mk (fun A c W => Dl.dec hy hq A c W)
  have sl0 : ∀ W, (Instr.slice 9 (.string (strOfNums b)) none (some (.int .i64 64)) none).run Try.prog W = .ok (.string (strOfNums xs)) W := fun W => by
    rw [Dz.to ⟨b, false, 0, false, 0⟩ 64 (by decide) (by show (64 : Int) ≤ b.length; omega)]
    show _ = Result.ok (Value.string (strOfNums xs)) W
    rw [← hbx]
    rfl
  have sl1 : ∀ W, (Instr.slice 9 (.string (strOfNums b)) (some (.int .i64 64)) none none).run Try.prog W = .ok (.string (strOfNums ys)) W := fun W => by
    rw [Dz.from ⟨b, false, 0, false, 0⟩ 64 (by decide) (by show (64 : Int) ≤ b.length; omega)]
    show _ = Result.ok (Value.string (strOfNums ys)) W
    rw [← hby]
    rfl
  have cv0 := Dl.conv xs
  have cv1 := Dl.conv ys
  have HX := Aside0.mk (fun W => Dl.reads hx hxl W)
  have HY := Aside0.mk (fun W => Dl.reads hy hyl W)
  have Z0 := Aside0.mk (Dl.z_below (Dl.z_start w) (Dl.below xs (w.alloc (.cells #[.int .u32 0, .int .i64 0, .int .i64 0, .int .i64 0] 24 (0, 0)))))
  have H0 := Aside0.mk (HX.out (w.alloc (.cells #[.int .u32 0, .int .i64 0, .int .i64 0, .int .i64 0] 24 (0, 0))))
  rw [World.size_alloc] at H0
  clear hx hy hxl hyl hbx hby hl hp hq
  go_enter Try.func49, Try.ntmps49
  go_wp2_with (first
    | (have mk_ := H0; clear mk_; go_at_call 17; (refine (HP.out (some ⟨w.heap.size + 1, 0, none⟩) (Dl.cap _ xs) _ H0.out (Dl.cap_ge _ _)).mono ?_)
       rintro e w1 ⟨rfl, hb⟩
       have Z1 := Aside0.mk (Dl.z_alloc (Dl.z_below Z0.out hb) (.cells #[.int .u32 p0, .int .i64 p1, .int .i64 p2, .int .i64 p3] 24))
       have X1 := Aside0.mk (blk_new w1 (.cells #[.int .u32 p0, .int .i64 p1, .int .i64 p2, .int .i64 p3] 24 (0, 0)))
       have H1 := Aside0.mk (HY.out (w1.alloc (.cells #[.int .u32 p0, .int .i64 p1, .int .i64 p2, .int .i64 p3] 24 (0, 0))))
       rw [World.size_alloc] at H1
       clear hb H0 Z0)
    | (have mk_ := H1; clear mk_; go_at_call 17; (refine (HQ.out (some ⟨w1.heap.size + 1, 0, none⟩) (Dl.cap _ ys) _ H1.out (Dl.cap_ge _ _)).mono ?_)
       rintro e w2 ⟨rfl, hb⟩
       have hb' := Below.refl w1.heap.size w1
       have hW := Dl.below ys (w1.alloc (.cells #[.int .u32 p0, .int .i64 p1, .int .i64 p2, .int .i64 p3] 24 (0, 0)))
       have Z2 := Aside0.mk (Dl.z_alloc (Dl.z_below (Dl.z_below Z1.out hW) hb) (.cells #[.int .u32 q0, .int .i64 q1, .int .i64 q2, .int .i64 q3] 24))
       have X2 := Aside0.mk (blk_alloc (blk_below (blk_below X1.out hW) hb) (.cells #[.int .u32 q0, .int .i64 q1, .int .i64 q2, .int .i64 q3] 24 (0, 0)))
       have k0 := blk_cell Z2.out.1 0
       have k1 := blk_cell Z2.out.1 1
       have k2 := blk_cell Z2.out.1 2
       have k3 := blk_cell Z2.out.1 3
       have f0 := blk_frozen Z2.out.1 0
       have f1 := blk_frozen Z2.out.1 1
       have f2 := blk_frozen Z2.out.1 2
       have f3 := blk_frozen Z2.out.1 3
       have x0 := blk_cell X2.out 0
       have x1 := blk_cell X2.out 1
       have x2 := blk_cell X2.out 2
       have x3 := blk_cell X2.out 3
       clear hb hb' hW H1 Z1 X1))
  obtain ⟨hy, hz⟩ := Sq.set4 (y0 := .int .u32 q0) (y1 := .int .i64 q1) (y2 := .int .i64 q2) (y3 := .int .i64 q3) (Nat.le_refl w.heap.size) Z2.out.1 Z2.out.2
  generalize (((((w2.alloc (.cells #[.int .u32 q0, .int .i64 q1, .int .i64 q2, .int .i64 q3] 24 (0, 0))).setCell ⟨w.heap.size, 0, none⟩ (.int .u32 q0)).setCell ⟨w.heap.size, 1, none⟩ (.int .i64 q1)).setCell ⟨w.heap.size, 2, none⟩ (.int .i64 q2)).setCell ⟨w.heap.size, 3, none⟩ (.int .i64 q3)) = w9 at hy hz ⊢
  refine bodyPost_ret (results_ct rfl _ _ w.heap.size 24 #[.int .u32 q0, .int .i64 q1, .int .i64 q2, .int .i64 q3] (0, 0) _ rfl hy Try.underlying24 rfl (by kernel_rfl)) rfl ?_
  exact ⟨rfl, hz⟩
set_option maxHeartbeats 400000 in
set_option maxRecDepth 100000 in
theorem Dl.load_y2 {xs ys b : List Int} {p0 p1 p2 p3 p4 q0 q1 q2 q3 q4 : Int} (hx : Bytes xs) (hy : Bytes ys) (hxl : xs.length ≤ 4096) (hyl : ys.length ≤ 4096) (hbx : b.take 64 = xs) (hby : b.drop 64 = ys) (hl : b.length = 128) (hp : Rd.dec xs = (p0, p1, p2, p3, p4)) (hq : Rd.dec ys = (q0, q1, q2, q3, q4)) (w : World) (e4 : (p4 == 0) = false) (g4 : (q4 == 0) = true) :
    Calls Try.prog 49 #[.string (strOfNums b)] w fun e w' => e = .returned (.tuple #[.agg #[.int .u32 q0, .int .i64 q1, .int .i64 q2, .int .i64 q3], .bool true]) ∧ Below w.heap.size w w' := by
  have hu := Try.underlying24
  have g5 : (q4 != 0) = false := by unfold bne; rw [g4]; rfl
  have HP := Aside0.mk (fun A c W => Dl.dec hx hp A c W)
  have HQ := Aside0.mk (fun A c W => Dl.dec hy hq A c W)
  have sl0 : ∀ W, (Instr.slice 9 (.string (strOfNums b)) none (some (.int .i64 64)) none).run Try.prog W = .ok (.string (strOfNums xs)) W := fun W => by
    rw [Dz.to ⟨b, false, 0, false, 0⟩ 64 (by decide) (by show (64 : Int) ≤ b.length; omega)]
    show _ = Result.ok (Value.string (strOfNums xs)) W
    rw [← hbx]
    rfl
  have sl1 : ∀ W, (Instr.slice 9 (.string (strOfNums b)) (some (.int .i64 64)) none none).run Try.prog W = .ok (.string (strOfNums ys)) W := fun W => by
    rw [Dz.from ⟨b, false, 0, false, 0⟩ 64 (by decide) (by show (64 : Int) ≤ b.length; omega)]
    show _ = Result.ok (Value.string (strOfNums ys)) W
    rw [← hby]
    rfl
  have cv0 := Dl.conv xs
  have cv1 := Dl.conv ys
  have HX := Aside0.mk (fun W => Dl.reads hx hxl W)
  have HY := Aside0.mk (fun W => Dl.reads hy hyl W)
  have Z0 := Aside0.mk (Dl.z_below (Dl.z_start w) (Dl.below xs (w.alloc (.cells #[.int .u32 0, .int .i64 0, .int .i64 0, .int .i64 0] 24 (0, 0)))))
  have H0 := Aside0.mk (HX.out (w.alloc (.cells #[.int .u32 0, .int .i64 0, .int .i64 0, .int .i64 0] 24 (0, 0))))
  rw [World.size_alloc] at H0
  clear hx hy hxl hyl hbx hby hl hp hq
  go_enter Try.func49, Try.ntmps49
  go_wp2_with (first
    | (have mk_ := H0; clear mk_; go_at_call 17; (refine (HP.out (some ⟨w.heap.size + 1, 0, none⟩) (Dl.cap _ xs) _ H0.out (Dl.cap_ge _ _)).mono ?_)
       rintro e w1 ⟨rfl, hb⟩
       have Z1 := Aside0.mk (Dl.z_alloc (Dl.z_below Z0.out hb) (.cells #[.int .u32 p0, .int .i64 p1, .int .i64 p2, .int .i64 p3] 24))
       have X1 := Aside0.mk (blk_new w1 (.cells #[.int .u32 p0, .int .i64 p1, .int .i64 p2, .int .i64 p3] 24 (0, 0)))
       have H1 := Aside0.mk (HY.out (w1.alloc (.cells #[.int .u32 p0, .int .i64 p1, .int .i64 p2, .int .i64 p3] 24 (0, 0))))
       rw [World.size_alloc] at H1
       clear hb H0 Z0)
    | (have mk_ := H1; clear mk_; go_at_call 17; (refine (HQ.out (some ⟨w1.heap.size + 1, 0, none⟩) (Dl.cap _ ys) _ H1.out (Dl.cap_ge _ _)).mono ?_)
       rintro e w2 ⟨rfl, hb⟩
       have hb' := Below.refl w1.heap.size w1
       have hW := Dl.below ys (w1.alloc (.cells #[.int .u32 p0, .int .i64 p1, .int .i64 p2, .int .i64 p3] 24 (0, 0)))
       have Z2 := Aside0.mk (Dl.z_alloc (Dl.z_below (Dl.z_below Z1.out hW) hb) (.cells #[.int .u32 q0, .int .i64 q1, .int .i64 q2, .int .i64 q3] 24))
       have X2 := Aside0.mk (blk_alloc (blk_below (blk_below X1.out hW) hb) (.cells #[.int .u32 q0, .int .i64 q1, .int .i64 q2, .int .i64 q3] 24 (0, 0)))
       have k0 := blk_cell Z2.out.1 0
       have k1 := blk_cell Z2.out.1 1
       have k2 := blk_cell Z2.out.1 2
       have k3 := blk_cell Z2.out.1 3
       have f0 := blk_frozen Z2.out.1 0
       have f1 := blk_frozen Z2.out.1 1
       have f2 := blk_frozen Z2.out.1 2
       have f3 := blk_frozen Z2.out.1 3
       have x0 := blk_cell X2.out 0
       have x1 := blk_cell X2.out 1
       have x2 := blk_cell X2.out 2
       have x3 := blk_cell X2.out 3
       clear hb hb' hW H1 Z1 X1))
  obtain ⟨hy, hz⟩ := Sq.set4 (y0 := .int .u32 q0) (y1 := .int .i64 q1) (y2 := .int .i64 q2) (y3 := .int .i64 q3) (Nat.le_refl w.heap.size) Z2.out.1 Z2.out.2
  generalize (((((w2.alloc (.cells #[.int .u32 q0, .int .i64 q1, .int .i64 q2, .int .i64 q3] 24 (0, 0))).setCell ⟨w.heap.size, 0, none⟩ (.int .u32 q0)).setCell ⟨w.heap.size, 1, none⟩ (.int .i64 q1)).setCell ⟨w.heap.size, 2, none⟩ (.int .i64 q2)).setCell ⟨w.heap.size, 3, none⟩ (.int .i64 q3)) = w9 at hy hz ⊢
  refine bodyPost_ret (results_ct rfl _ _ w.heap.size 24 #[.int .u32 q0, .int .i64 q1, .int .i64 q2, .int .i64 q3] (0, 0) _ rfl hy Try.underlying24 rfl (by kernel_rfl)) rfl ?_
  exact ⟨rfl, hz⟩
set_option maxHeartbeats 400000 in
set_option maxRecDepth 100000 in
theorem Dl.load_y3 {xs ys b : List Int} {p0 p1 p2 p3 p4 q0 q1 q2 q3 q4 : Int} (hx : Bytes xs) (hy : Bytes ys) (hxl : xs.length ≤ 4096) (hyl : ys.length ≤ 4096) (hbx : b.take 64 = xs) (hby : b.drop 64 = ys) (hl : b.length = 128) (hp : Rd.dec xs = (p0, p1, p2, p3, p4)) (hq : Rd.dec ys = (q0, q1, q2, q3, q4)) (w : World) (e4 : (p4 == 0) = false) (g4 : (q4 == 0) = false) :
    Calls Try.prog 49 #[.string (strOfNums b)] w fun e w' => e = .returned (.tuple #[.agg #[.int .u32 q0, .int .i64 q1, .int .i64 q2, .int .i64 q3], .bool false]) ∧ Below w.heap.size w w' := by
  have hu := Try.underlying24
  have g5 : (q4 != 0) = true := by unfold bne; rw [g4]; rfl
  have HP := Aside0.mk (fun A c W => Dl.dec hx hp A c W)
  have HQ := Aside0.mk (fun A c W => Dl.dec hy hq A c W)
  have sl0 : ∀ W, (Instr.slice 9 (.string (strOfNums b)) none (some (.int .i64 64)) none).run Try.prog W = .ok (.string (strOfNums xs)) W := fun W => by
    rw [Dz.to ⟨b, false, 0, false, 0⟩ 64 (by decide) (by show (64 : Int) ≤ b.length; omega)]
    show _ = Result.ok (Value.string (strOfNums xs)) W
    rw [← hbx]
    rfl
  have sl1 : ∀ W, (Instr.slice 9 (.string (strOfNums b)) (some (.int .i64 64)) none none).run Try.prog W = .ok (.string (strOfNums ys)) W := fun W => by
    rw [Dz.from ⟨b, false, 0, false, 0⟩ 64 (by decide) (by show (64 : Int) ≤ b.length; omega)]
    show _ = Result.ok (Value.string (strOfNums ys)) W
    rw [← hby]
    rfl
  have cv0 := Dl.conv xs
  have cv1 := Dl.conv ys
  have HX := Aside0.mk (fun W => Dl.reads hx hxl W)
  have HY := Aside0.mk (fun W => Dl.reads hy hyl W)
  have Z0 := Aside0.mk (Dl.z_below (Dl.z_start w) (Dl.below xs (w.alloc (.cells #[.int .u32 0, .int .i64 0, .int .i64 0, .int .i64 0] 24 (0, 0)))))
  have H0 := Aside0.mk (HX.out (w.alloc (.cells #[.int .u32 0, .int .i64 0, .int .i64 0, .int .i64 0] 24 (0, 0))))
  rw [World.size_alloc] at H0
  clear hx hy hxl hyl hbx hby hl hp hq
  go_enter Try.func49, Try.ntmps49
  go_wp2_with (first
    | (have mk_ := H0; clear mk_; go_at_call 17; (refine (HP.out (some ⟨w.heap.size + 1, 0, none⟩) (Dl.cap _ xs) _ H0.out (Dl.cap_ge _ _)).mono ?_)
       rintro e w1 ⟨rfl, hb⟩
       have Z1 := Aside0.mk (Dl.z_alloc (Dl.z_below Z0.out hb) (.cells #[.int .u32 p0, .int .i64 p1, .int .i64 p2, .int .i64 p3] 24))
       have X1 := Aside0.mk (blk_new w1 (.cells #[.int .u32 p0, .int .i64 p1, .int .i64 p2, .int .i64 p3] 24 (0, 0)))
       have H1 := Aside0.mk (HY.out (w1.alloc (.cells #[.int .u32 p0, .int .i64 p1, .int .i64 p2, .int .i64 p3] 24 (0, 0))))
       rw [World.size_alloc] at H1
       clear hb H0 Z0)
    | (have mk_ := H1; clear mk_; go_at_call 17; (refine (HQ.out (some ⟨w1.heap.size + 1, 0, none⟩) (Dl.cap _ ys) _ H1.out (Dl.cap_ge _ _)).mono ?_)
       rintro e w2 ⟨rfl, hb⟩
       have hb' := Below.refl w1.heap.size w1
       have hW := Dl.below ys (w1.alloc (.cells #[.int .u32 p0, .int .i64 p1, .int .i64 p2, .int .i64 p3] 24 (0, 0)))
       have Z2 := Aside0.mk (Dl.z_alloc (Dl.z_below (Dl.z_below Z1.out hW) hb) (.cells #[.int .u32 q0, .int .i64 q1, .int .i64 q2, .int .i64 q3] 24))
       have X2 := Aside0.mk (blk_alloc (blk_below (blk_below X1.out hW) hb) (.cells #[.int .u32 q0, .int .i64 q1, .int .i64 q2, .int .i64 q3] 24 (0, 0)))
       have k0 := blk_cell Z2.out.1 0
       have k1 := blk_cell Z2.out.1 1
       have k2 := blk_cell Z2.out.1 2
       have k3 := blk_cell Z2.out.1 3
       have f0 := blk_frozen Z2.out.1 0
       have f1 := blk_frozen Z2.out.1 1
       have f2 := blk_frozen Z2.out.1 2
       have f3 := blk_frozen Z2.out.1 3
       have x0 := blk_cell X2.out 0
       have x1 := blk_cell X2.out 1
       have x2 := blk_cell X2.out 2
       have x3 := blk_cell X2.out 3
       clear hb hb' hW H1 Z1 X1))
  obtain ⟨hy, hz⟩ := Sq.set4 (y0 := .int .u32 q0) (y1 := .int .i64 q1) (y2 := .int .i64 q2) (y3 := .int .i64 q3) (Nat.le_refl w.heap.size) Z2.out.1 Z2.out.2
  generalize (((((w2.alloc (.cells #[.int .u32 q0, .int .i64 q1, .int .i64 q2, .int .i64 q3] 24 (0, 0))).setCell ⟨w.heap.size, 0, none⟩ (.int .u32 q0)).setCell ⟨w.heap.size, 1, none⟩ (.int .i64 q1)).setCell ⟨w.heap.size, 2, none⟩ (.int .i64 q2)).setCell ⟨w.heap.size, 3, none⟩ (.int .i64 q3)) = w9 at hy hz ⊢
  refine bodyPost_ret (results_ct rfl _ _ w.heap.size 24 #[.int .u32 q0, .int .i64 q1, .int .i64 q2, .int .i64 q3] (0, 0) _ rfl hy Try.underlying24 rfl (by kernel_rfl)) rfl ?_
  exact ⟨rfl, hz⟩
set_option maxHeartbeats 400000 in
set_option maxRecDepth 100000 in
theorem Dl.next_x1 {xs ys b : List Int} {p0 p1 p2 p3 p4 q0 q1 q2 q3 q4 : Int} (hx : Bytes xs) (hy : Bytes ys) (hxl : xs.length ≤ 4096) (hyl : ys.length ≤ 4096) (hbx : b.take 64 = xs) (hby : b.drop 64 = ys) (hl : b.length = 128) (hp : Rd.dec xs = (p0, p1, p2, p3, p4)) (hq : Rd.dec ys = (q0, q1, q2, q3, q4)) (w : World) (e4 : (p4 == 0) = true) (g4 : (q4 == 0) = false) :
    Calls Try.prog 50 #[.string (strOfNums b)] w fun e w' => e = .returned (.int .i64 1) ∧ Below w.heap.size w w' := by
  have hu := Try.underlying24
  have g5 : (q4 != 0) = true := by unfold bne; rw [g4]; rfl
  have HP := Aside0.mk (fun A c W => Dl.dec hx hp A c W)
  have HQ := Aside0.mk (fun A c W => Dl.dec hy hq A c W)
  have sl0 : ∀ W, (Instr.slice 9 (.string (strOfNums b)) none (some (.int .i64 64)) none).run Try.prog W = .ok (.string (strOfNums xs)) W := fun W => by
    rw [Dz.to ⟨b, false, 0, false, 0⟩ 64 (by decide) (by show (64 : Int) ≤ b.length; omega)]
    show _ = Result.ok (Value.string (strOfNums xs)) W
    rw [← hbx]
    rfl
  have sl1 : ∀ W, (Instr.slice 9 (.string (strOfNums b)) (some (.int .i64 64)) none none).run Try.prog W = .ok (.string (strOfNums ys)) W := fun W => by
    rw [Dz.from ⟨b, false, 0, false, 0⟩ 64 (by decide) (by show (64 : Int) ≤ b.length; omega)]
    show _ = Result.ok (Value.string (strOfNums ys)) W
    rw [← hby]
    rfl
  have cv0 := Dl.conv xs
  have cv1 := Dl.conv ys
  have HX := Aside0.mk (fun W => Dl.reads hx hxl W)
  have HY := Aside0.mk (fun W => Dl.reads hy hyl W)
  have H0 := Aside0.mk (HX.out w)
  have Z0 := Aside0.mk (Dl.below xs w)
  clear hx hy hxl hyl hbx hby hl hp hq
  go_enter Try.func50, Try.ntmps50
  go_wp2_with (first
    | (have mk_ := H0; clear mk_; go_at_call 17; (refine (HP.out (some ⟨w.heap.size, 0, none⟩) (Dl.cap _ xs) _ H0.out (Dl.cap_ge _ _)).mono ?_)
       rintro e w1 ⟨rfl, hb⟩
       have Z1 := Aside0.mk (below_alloc (below_step Z0.out hb) (.cells #[.int .u32 p0, .int .i64 p1, .int .i64 p2, .int .i64 p3] 24))
       have X1 := Aside0.mk (blk_new w1 (.cells #[.int .u32 p0, .int .i64 p1, .int .i64 p2, .int .i64 p3] 24 (0, 0)))
       have H1 := Aside0.mk (HY.out (w1.alloc (.cells #[.int .u32 p0, .int .i64 p1, .int .i64 p2, .int .i64 p3] 24 (0, 0))))
       rw [World.size_alloc] at H1
       clear hb H0 Z0)
    | (have mk_ := H1; clear mk_; go_at_call 17; (refine (HQ.out (some ⟨w1.heap.size + 1, 0, none⟩) (Dl.cap _ ys) _ H1.out (Dl.cap_ge _ _)).mono ?_)
       rintro e w2 ⟨rfl, hb⟩
       have hW := Dl.below ys (w1.alloc (.cells #[.int .u32 p0, .int .i64 p1, .int .i64 p2, .int .i64 p3] 24 (0, 0)))
       have Z2 := Aside0.mk (below_alloc (below_step (below_step Z1.out hW) hb) (.cells #[.int .u32 q0, .int .i64 q1, .int .i64 q2, .int .i64 q3] 24))
       have X2 := Aside0.mk (blk_alloc (blk_below (blk_below X1.out hW) hb) (.cells #[.int .u32 q0, .int .i64 q1, .int .i64 q2, .int .i64 q3] 24 (0, 0)))
       have x0 := blk_cell X2.out 0
       clear hb hW H1 Z1 X1))
  go_ret
  exact ⟨rfl, Z2.out⟩
set_option maxHeartbeats 400000 in
set_option maxRecDepth 100000 in
theorem Dl.next_x2 {xs ys b : List Int} {p0 p1 p2 p3 p4 q0 q1 q2 q3 q4 : Int} (hx : Bytes xs) (hy : Bytes ys) (hxl : xs.length ≤ 4096) (hyl : ys.length ≤ 4096) (hbx : b.take 64 = xs) (hby : b.drop 64 = ys) (hl : b.length = 128) (hp : Rd.dec xs = (p0, p1, p2, p3, p4)) (hq : Rd.dec ys = (q0, q1, q2, q3, q4)) (w : World) (e4 : (p4 == 0) = true) (g4 : (q4 == 0) = true) (d : decide (q0 < p0) = true) :
    Calls Try.prog 50 #[.string (strOfNums b)] w fun e w' => e = .returned (.int .i64 1) ∧ Below w.heap.size w w' := by
  have hu := Try.underlying24
  have g5 : (q4 != 0) = false := by unfold bne; rw [g4]; rfl
  have HP := Aside0.mk (fun A c W => Dl.dec hx hp A c W)
  have HQ := Aside0.mk (fun A c W => Dl.dec hy hq A c W)
  have sl0 : ∀ W, (Instr.slice 9 (.string (strOfNums b)) none (some (.int .i64 64)) none).run Try.prog W = .ok (.string (strOfNums xs)) W := fun W => by
    rw [Dz.to ⟨b, false, 0, false, 0⟩ 64 (by decide) (by show (64 : Int) ≤ b.length; omega)]
    show _ = Result.ok (Value.string (strOfNums xs)) W
    rw [← hbx]
    rfl
  have sl1 : ∀ W, (Instr.slice 9 (.string (strOfNums b)) (some (.int .i64 64)) none none).run Try.prog W = .ok (.string (strOfNums ys)) W := fun W => by
    rw [Dz.from ⟨b, false, 0, false, 0⟩ 64 (by decide) (by show (64 : Int) ≤ b.length; omega)]
    show _ = Result.ok (Value.string (strOfNums ys)) W
    rw [← hby]
    rfl
  have cv0 := Dl.conv xs
  have cv1 := Dl.conv ys
  have HX := Aside0.mk (fun W => Dl.reads hx hxl W)
  have HY := Aside0.mk (fun W => Dl.reads hy hyl W)
  have H0 := Aside0.mk (HX.out w)
  have Z0 := Aside0.mk (Dl.below xs w)
  clear hx hy hxl hyl hbx hby hl hp hq
  go_enter Try.func50, Try.ntmps50
  go_wp2_with (first
    | (have mk_ := H0; clear mk_; go_at_call 17; (refine (HP.out (some ⟨w.heap.size, 0, none⟩) (Dl.cap _ xs) _ H0.out (Dl.cap_ge _ _)).mono ?_)
       rintro e w1 ⟨rfl, hb⟩
       have Z1 := Aside0.mk (below_alloc (below_step Z0.out hb) (.cells #[.int .u32 p0, .int .i64 p1, .int .i64 p2, .int .i64 p3] 24))
       have X1 := Aside0.mk (blk_new w1 (.cells #[.int .u32 p0, .int .i64 p1, .int .i64 p2, .int .i64 p3] 24 (0, 0)))
       have H1 := Aside0.mk (HY.out (w1.alloc (.cells #[.int .u32 p0, .int .i64 p1, .int .i64 p2, .int .i64 p3] 24 (0, 0))))
       rw [World.size_alloc] at H1
       clear hb H0 Z0)
    | (have mk_ := H1; clear mk_; go_at_call 17; (refine (HQ.out (some ⟨w1.heap.size + 1, 0, none⟩) (Dl.cap _ ys) _ H1.out (Dl.cap_ge _ _)).mono ?_)
       rintro e w2 ⟨rfl, hb⟩
       have hW := Dl.below ys (w1.alloc (.cells #[.int .u32 p0, .int .i64 p1, .int .i64 p2, .int .i64 p3] 24 (0, 0)))
       have Z2 := Aside0.mk (below_alloc (below_step (below_step Z1.out hW) hb) (.cells #[.int .u32 q0, .int .i64 q1, .int .i64 q2, .int .i64 q3] 24))
       have X2 := Aside0.mk (blk_alloc (blk_below (blk_below X1.out hW) hb) (.cells #[.int .u32 q0, .int .i64 q1, .int .i64 q2, .int .i64 q3] 24 (0, 0)))
       have x0 := blk_cell X2.out 0
       clear hb hW H1 Z1 X1))
  go_ret
  exact ⟨rfl, Z2.out⟩
set_option maxHeartbeats 400000 in
set_option maxRecDepth 100000 in
theorem Dl.next_y1 {xs ys b : List Int} {p0 p1 p2 p3 p4 q0 q1 q2 q3 q4 : Int} (hx : Bytes xs) (hy : Bytes ys) (hxl : xs.length ≤ 4096) (hyl : ys.length ≤ 4096) (hbx : b.take 64 = xs) (hby : b.drop 64 = ys) (hl : b.length = 128) (hp : Rd.dec xs = (p0, p1, p2, p3, p4)) (hq : Rd.dec ys = (q0, q1, q2, q3, q4)) (w : World) (e4 : (p4 == 0) = true) (g4 : (q4 == 0) = true) (d : decide (q0 < p0) = false) :
    Calls Try.prog 50 #[.string (strOfNums b)] w fun e w' => e = .returned (.int .i64 0) ∧ Below w.heap.size w w' := by
  have hu := Try.underlying24
  have g5 : (q4 != 0) = false := by unfold bne; rw [g4]; rfl
  have HP := Aside0.mk (fun A c W => Dl.dec hx hp A c W)
  have HQ := Aside0.mk (fun A c W => Dl.dec hy hq A c W)
  have sl0 : ∀ W, (Instr.slice 9 (.string (strOfNums b)) none (some (.int .i64 64)) none).run Try.prog W = .ok (.string (strOfNums xs)) W := fun W => by
    rw [Dz.to ⟨b, false, 0, false, 0⟩ 64 (by decide) (by show (64 : Int) ≤ b.length; omega)]
    show _ = Result.ok (Value.string (strOfNums xs)) W
    rw [← hbx]
    rfl
  have sl1 : ∀ W, (Instr.slice 9 (.string (strOfNums b)) (some (.int .i64 64)) none none).run Try.prog W = .ok (.string (strOfNums ys)) W := fun W => by
    rw [Dz.from ⟨b, false, 0, false, 0⟩ 64 (by decide) (by show (64 : Int) ≤ b.length; omega)]
    show _ = Result.ok (Value.string (strOfNums ys)) W
    rw [← hby]
    rfl
  have cv0 := Dl.conv xs
  have cv1 := Dl.conv ys
  have HX := Aside0.mk (fun W => Dl.reads hx hxl W)
  have HY := Aside0.mk (fun W => Dl.reads hy hyl W)
  have H0 := Aside0.mk (HX.out w)
  have Z0 := Aside0.mk (Dl.below xs w)
  clear hx hy hxl hyl hbx hby hl hp hq
  go_enter Try.func50, Try.ntmps50
  go_wp2_with (first
    | (have mk_ := H0; clear mk_; go_at_call 17; (refine (HP.out (some ⟨w.heap.size, 0, none⟩) (Dl.cap _ xs) _ H0.out (Dl.cap_ge _ _)).mono ?_)
       rintro e w1 ⟨rfl, hb⟩
       have Z1 := Aside0.mk (below_alloc (below_step Z0.out hb) (.cells #[.int .u32 p0, .int .i64 p1, .int .i64 p2, .int .i64 p3] 24))
       have X1 := Aside0.mk (blk_new w1 (.cells #[.int .u32 p0, .int .i64 p1, .int .i64 p2, .int .i64 p3] 24 (0, 0)))
       have H1 := Aside0.mk (HY.out (w1.alloc (.cells #[.int .u32 p0, .int .i64 p1, .int .i64 p2, .int .i64 p3] 24 (0, 0))))
       rw [World.size_alloc] at H1
       clear hb H0 Z0)
    | (have mk_ := H1; clear mk_; go_at_call 17; (refine (HQ.out (some ⟨w1.heap.size + 1, 0, none⟩) (Dl.cap _ ys) _ H1.out (Dl.cap_ge _ _)).mono ?_)
       rintro e w2 ⟨rfl, hb⟩
       have hW := Dl.below ys (w1.alloc (.cells #[.int .u32 p0, .int .i64 p1, .int .i64 p2, .int .i64 p3] 24 (0, 0)))
       have Z2 := Aside0.mk (below_alloc (below_step (below_step Z1.out hW) hb) (.cells #[.int .u32 q0, .int .i64 q1, .int .i64 q2, .int .i64 q3] 24))
       have X2 := Aside0.mk (blk_alloc (blk_below (blk_below X1.out hW) hb) (.cells #[.int .u32 q0, .int .i64 q1, .int .i64 q2, .int .i64 q3] 24 (0, 0)))
       have x0 := blk_cell X2.out 0
       clear hb hW H1 Z1 X1))
  go_ret
  exact ⟨rfl, Z2.out⟩
set_option maxHeartbeats 400000 in
set_option maxRecDepth 100000 in
theorem Dl.next_y2 {xs ys b : List Int} {p0 p1 p2 p3 p4 q0 q1 q2 q3 q4 : Int} (hx : Bytes xs) (hy : Bytes ys) (hxl : xs.length ≤ 4096) (hyl : ys.length ≤ 4096) (hbx : b.take 64 = xs) (hby : b.drop 64 = ys) (hl : b.length = 128) (hp : Rd.dec xs = (p0, p1, p2, p3, p4)) (hq : Rd.dec ys = (q0, q1, q2, q3, q4)) (w : World) (e4 : (p4 == 0) = false) (g4 : (q4 == 0) = true) :
    Calls Try.prog 50 #[.string (strOfNums b)] w fun e w' => e = .returned (.int .i64 0) ∧ Below w.heap.size w w' := by
  have hu := Try.underlying24
  have g5 : (q4 != 0) = false := by unfold bne; rw [g4]; rfl
  have HP := Aside0.mk (fun A c W => Dl.dec hx hp A c W)
  have HQ := Aside0.mk (fun A c W => Dl.dec hy hq A c W)
  have sl0 : ∀ W, (Instr.slice 9 (.string (strOfNums b)) none (some (.int .i64 64)) none).run Try.prog W = .ok (.string (strOfNums xs)) W := fun W => by
    rw [Dz.to ⟨b, false, 0, false, 0⟩ 64 (by decide) (by show (64 : Int) ≤ b.length; omega)]
    show _ = Result.ok (Value.string (strOfNums xs)) W
    rw [← hbx]
    rfl
  have sl1 : ∀ W, (Instr.slice 9 (.string (strOfNums b)) (some (.int .i64 64)) none none).run Try.prog W = .ok (.string (strOfNums ys)) W := fun W => by
    rw [Dz.from ⟨b, false, 0, false, 0⟩ 64 (by decide) (by show (64 : Int) ≤ b.length; omega)]
    show _ = Result.ok (Value.string (strOfNums ys)) W
    rw [← hby]
    rfl
  have cv0 := Dl.conv xs
  have cv1 := Dl.conv ys
  have HX := Aside0.mk (fun W => Dl.reads hx hxl W)
  have HY := Aside0.mk (fun W => Dl.reads hy hyl W)
  have H0 := Aside0.mk (HX.out w)
  have Z0 := Aside0.mk (Dl.below xs w)
  clear hx hy hxl hyl hbx hby hl hp hq
  go_enter Try.func50, Try.ntmps50
  go_wp2_with (first
    | (have mk_ := H0; clear mk_; go_at_call 17; (refine (HP.out (some ⟨w.heap.size, 0, none⟩) (Dl.cap _ xs) _ H0.out (Dl.cap_ge _ _)).mono ?_)
       rintro e w1 ⟨rfl, hb⟩
       have Z1 := Aside0.mk (below_alloc (below_step Z0.out hb) (.cells #[.int .u32 p0, .int .i64 p1, .int .i64 p2, .int .i64 p3] 24))
       have X1 := Aside0.mk (blk_new w1 (.cells #[.int .u32 p0, .int .i64 p1, .int .i64 p2, .int .i64 p3] 24 (0, 0)))
       have H1 := Aside0.mk (HY.out (w1.alloc (.cells #[.int .u32 p0, .int .i64 p1, .int .i64 p2, .int .i64 p3] 24 (0, 0))))
       rw [World.size_alloc] at H1
       clear hb H0 Z0)
    | (have mk_ := H1; clear mk_; go_at_call 17; (refine (HQ.out (some ⟨w1.heap.size + 1, 0, none⟩) (Dl.cap _ ys) _ H1.out (Dl.cap_ge _ _)).mono ?_)
       rintro e w2 ⟨rfl, hb⟩
       have hW := Dl.below ys (w1.alloc (.cells #[.int .u32 p0, .int .i64 p1, .int .i64 p2, .int .i64 p3] 24 (0, 0)))
       have Z2 := Aside0.mk (below_alloc (below_step (below_step Z1.out hW) hb) (.cells #[.int .u32 q0, .int .i64 q1, .int .i64 q2, .int .i64 q3] 24))
       have X2 := Aside0.mk (blk_alloc (blk_below (blk_below X1.out hW) hb) (.cells #[.int .u32 q0, .int .i64 q1, .int .i64 q2, .int .i64 q3] 24 (0, 0)))
       have x0 := blk_cell X2.out 0
       clear hb hW H1 Z1 X1))
  go_ret
  exact ⟨rfl, Z2.out⟩
set_option maxHeartbeats 400000 in
set_option maxRecDepth 100000 in
theorem Dl.next_y3 {xs ys b : List Int} {p0 p1 p2 p3 p4 q0 q1 q2 q3 q4 : Int} (hx : Bytes xs) (hy : Bytes ys) (hxl : xs.length ≤ 4096) (hyl : ys.length ≤ 4096) (hbx : b.take 64 = xs) (hby : b.drop 64 = ys) (hl : b.length = 128) (hp : Rd.dec xs = (p0, p1, p2, p3, p4)) (hq : Rd.dec ys = (q0, q1, q2, q3, q4)) (w : World) (e4 : (p4 == 0) = false) (g4 : (q4 == 0) = false) :
    Calls Try.prog 50 #[.string (strOfNums b)] w fun e w' => e = .returned (.int .i64 0) ∧ Below w.heap.size w w' := by
  have hu := Try.underlying24
  have g5 : (q4 != 0) = true := by unfold bne; rw [g4]; rfl
  have HP := Aside0.mk (fun A c W => Dl.dec hx hp A c W)
  have HQ := Aside0.mk (fun A c W => Dl.dec hy hq A c W)
  have sl0 : ∀ W, (Instr.slice 9 (.string (strOfNums b)) none (some (.int .i64 64)) none).run Try.prog W = .ok (.string (strOfNums xs)) W := fun W => by
    rw [Dz.to ⟨b, false, 0, false, 0⟩ 64 (by decide) (by show (64 : Int) ≤ b.length; omega)]
    show _ = Result.ok (Value.string (strOfNums xs)) W
    rw [← hbx]
    rfl
  have sl1 : ∀ W, (Instr.slice 9 (.string (strOfNums b)) (some (.int .i64 64)) none none).run Try.prog W = .ok (.string (strOfNums ys)) W := fun W => by
    rw [Dz.from ⟨b, false, 0, false, 0⟩ 64 (by decide) (by show (64 : Int) ≤ b.length; omega)]
    show _ = Result.ok (Value.string (strOfNums ys)) W
    rw [← hby]
    rfl
  have cv0 := Dl.conv xs
  have cv1 := Dl.conv ys
  have HX := Aside0.mk (fun W => Dl.reads hx hxl W)
  have HY := Aside0.mk (fun W => Dl.reads hy hyl W)
  have H0 := Aside0.mk (HX.out w)
  have Z0 := Aside0.mk (Dl.below xs w)
  clear hx hy hxl hyl hbx hby hl hp hq
  go_enter Try.func50, Try.ntmps50
  go_wp2_with (first
    | (have mk_ := H0; clear mk_; go_at_call 17; (refine (HP.out (some ⟨w.heap.size, 0, none⟩) (Dl.cap _ xs) _ H0.out (Dl.cap_ge _ _)).mono ?_)
       rintro e w1 ⟨rfl, hb⟩
       have Z1 := Aside0.mk (below_alloc (below_step Z0.out hb) (.cells #[.int .u32 p0, .int .i64 p1, .int .i64 p2, .int .i64 p3] 24))
       have X1 := Aside0.mk (blk_new w1 (.cells #[.int .u32 p0, .int .i64 p1, .int .i64 p2, .int .i64 p3] 24 (0, 0)))
       have H1 := Aside0.mk (HY.out (w1.alloc (.cells #[.int .u32 p0, .int .i64 p1, .int .i64 p2, .int .i64 p3] 24 (0, 0))))
       rw [World.size_alloc] at H1
       clear hb H0 Z0)
    | (have mk_ := H1; clear mk_; go_at_call 17; (refine (HQ.out (some ⟨w1.heap.size + 1, 0, none⟩) (Dl.cap _ ys) _ H1.out (Dl.cap_ge _ _)).mono ?_)
       rintro e w2 ⟨rfl, hb⟩
       have hW := Dl.below ys (w1.alloc (.cells #[.int .u32 p0, .int .i64 p1, .int .i64 p2, .int .i64 p3] 24 (0, 0)))
       have Z2 := Aside0.mk (below_alloc (below_step (below_step Z1.out hW) hb) (.cells #[.int .u32 q0, .int .i64 q1, .int .i64 q2, .int .i64 q3] 24))
       have X2 := Aside0.mk (blk_alloc (blk_below (blk_below X1.out hW) hb) (.cells #[.int .u32 q0, .int .i64 q1, .int .i64 q2, .int .i64 q3] 24 (0, 0)))
       have x0 := blk_cell X2.out 0
       clear hb hW H1 Z1 X1))
  go_ret
  exact ⟨rfl, Z2.out⟩
/-- What the document holds of two slots. -/
def Dl.val (p q : Wh.D5) : Wh.R4 × Bool := if (Wh.ok p && (!Wh.ok q || decide (q.1 ≤ p.1))) = true then (Wh.rec p, true) else (Wh.rec q, Wh.ok q)
theorem Dl.load {b : List Int} (hb : Bytes b) (hl : b.length = 128) (w : World) :
    Calls Try.prog 49 #[.string (strOfNums b)] w fun e w' => e = .returned (.tuple #[.agg #[.int .u32 (Dl.val (Rd.dec (b.take 64)) (Rd.dec (b.drop 64))).1.1, .int .i64 (Dl.val (Rd.dec (b.take 64)) (Rd.dec (b.drop 64))).1.2.1, .int .i64 (Dl.val (Rd.dec (b.take 64)) (Rd.dec (b.drop 64))).1.2.2.1, .int .i64 (Dl.val (Rd.dec (b.take 64)) (Rd.dec (b.drop 64))).1.2.2.2], .bool (Dl.val (Rd.dec (b.take 64)) (Rd.dec (b.drop 64))).2]) ∧ Below w.heap.size w w' := by
  obtain ⟨⟨p0, p1, p2, p3, p4⟩, hp⟩ : ∃ p, Rd.dec (b.take 64) = p := ⟨_, rfl⟩
  obtain ⟨⟨q0, q1, q2, q3, q4⟩, hq⟩ : ∃ q, Rd.dec (b.drop 64) = q := ⟨_, rfl⟩
  have hx := bytes_take hb 64
  have hy := bytes_drop hb 64
  have hxl : (b.take 64).length ≤ 4096 := by rw [List.length_take]; omega
  have hyl : (b.drop 64).length ≤ 4096 := by rw [List.length_drop]; omega
  rw [hp, hq]
  unfold Dl.val Wh.ok Wh.rec
  cases e4 : (p4 == 0) with
  | true =>
    cases g4 : (q4 == 0) with
    | false => exact Dl.load_x1 hx hy hxl hyl rfl rfl hl hp hq w e4 g4
    | true =>
      cases d : decide (q0 ≤ p0) with
      | true => exact Dl.load_x2 hx hy hxl hyl rfl rfl hl hp hq w e4 g4 d
      | false => exact Dl.load_y1 hx hy hxl hyl rfl rfl hl hp hq w e4 g4 d
  | false =>
    cases g4 : (q4 == 0) with
    | true => exact Dl.load_y2 hx hy hxl hyl rfl rfl hl hp hq w e4 g4
    | false => exact Dl.load_y3 hx hy hxl hyl rfl rfl hl hp hq w e4 g4
theorem Dl.nxt {b : List Int} (hb : Bytes b) (hl : b.length = 128) (w : World) :
    Calls Try.prog 50 #[.string (strOfNums b)] w fun e w' => e = .returned (.int .i64 (Dl.next (Rd.dec (b.take 64)).1 (Rd.dec (b.take 64)).2.2.2.2 (Rd.dec (b.drop 64)).1 (Rd.dec (b.drop 64)).2.2.2.2)) ∧ Below w.heap.size w w' := by
  obtain ⟨⟨p0, p1, p2, p3, p4⟩, hp⟩ : ∃ p, Rd.dec (b.take 64) = p := ⟨_, rfl⟩
  obtain ⟨⟨q0, q1, q2, q3, q4⟩, hq⟩ : ∃ q, Rd.dec (b.drop 64) = q := ⟨_, rfl⟩
  have hx := bytes_take hb 64
  have hy := bytes_drop hb 64
  have hxl : (b.take 64).length ≤ 4096 := by rw [List.length_take]; omega
  have hyl : (b.drop 64).length ≤ 4096 := by rw [List.length_drop]; omega
  rw [hp, hq]
  unfold Dl.next
  show Calls _ _ _ _ fun e w' => e = .returned (.int .i64 (if ((p4 == 0) && (!(q4 == 0) || decide (q0 < p0))) = true then 1 else 0)) ∧ _
  cases e4 : (p4 == 0) with
  | true =>
    cases g4 : (q4 == 0) with
    | false => exact Dl.next_x1 hx hy hxl hyl rfl rfl hl hp hq w e4 g4
    | true =>
      cases d : decide (q0 < p0) with
      | true => exact Dl.next_x2 hx hy hxl hyl rfl rfl hl hp hq w e4 g4 d
      | false => exact Dl.next_y1 hx hy hxl hyl rfl rfl hl hp hq w e4 g4 d
  | false =>
    cases g4 : (q4 == 0) with
    | true => exact Dl.next_y2 hx hy hxl hyl rfl rfl hl hp hq w e4 g4
    | false => exact Dl.next_y3 hx hy hxl hyl rfl rfl hl hp hq w e4 g4
end Go.Proofs.Ytjldkgcabombhaa

/- law27's known and SlotsNone, walked by hand. -/
namespace Go.Proofs.Ytjldkgcabombhaa
open Go.RowKit Go.Proofs.Ytjldkgcabombhaa.Rec Go.Proofs.YtjldkgcabombhaaW.PrintWords Go.Proofs.YtjldkgcabombhaaW.PrintLast Go.Proofs.YtjldkgcabombhaaW.PrintMore
set_option linter.unusedVariables false
set_option linter.unusedSimpArgs false

theorem Kn.at_alloc {s : Fs} {w : World} {g : Nat} (h : s.At w g) (o : Obj) : s.At (w.alloc o) g := ⟨blk_alloc h.1 _, h.2⟩
theorem Kn.step {w W X : World} (h : Below w.heap.size w W) (hF : Fs.Fr w.heap.size W X) : Below w.heap.size w X := h.trans (Fs.fr_below hF (Nat.le_refl _) h.size)
theorem Kn.may2 : Kn.s2.may 0 0 = 0 := by decide +kernel
set_option maxHeartbeats 1000000 in
set_option maxRecDepth 100000 in
theorem Kn.known (w : World) : Calls Try.prog 44 #[] w fun e w' => e = .returned (.bool true) ∧ Below w.heap.size w w' := by
  have hu2 := Try.underlying24
  go_enter Try.func44, Try.ntmps44
  go_wp2_with (first
    | (go_at_call 30; (refine (Fs.new_calls 128 _ (by decide)).mono ?_)
       rintro e w1 ⟨rfl, hA, hb⟩
       have H0 := Aside0.mk (show Kn.s0.At w1 w.heap.size from hA)
       have B0 := Aside0.mk hb
       clear hA hb)
    | (go_at_call 45; (refine (Kn.save1 H0.out).mono ?_)
       rintro e w2 ⟨rfl, hA, hF⟩
       have H1 := Aside0.mk (Kn.at_alloc hA (.cells #[.int .u32 1, .int .i64 5, .int .i64 0, .int .i64 0] 24 (0, 0)))
       have B1 := Aside0.mk (below_alloc (Kn.step B0.out hF) (.cells #[.int .u32 1, .int .i64 5, .int .i64 0, .int .i64 0] 24 (0, 0)))
       clear hA hF H0 B0)
    | (go_at_call 45; (refine (Kn.save2 H1.out).mono ?_)
       rintro e w3 ⟨rfl, hA, hF⟩
       have H2 := Aside0.mk (Kn.at_alloc hA (.cells #[.int .u32 2, .int .i64 6, .int .i64 0, .int .i64 0] 24 (0, 0)))
       have B2 := Aside0.mk (below_alloc (Kn.step B1.out hF) (.cells #[.int .u32 2, .int .i64 6, .int .i64 0, .int .i64 0] 24 (0, 0)))
       clear hA hF H1 B1)
    | (go_at_call 36; (refine (Fs.crash_ok 10 H2.out Kn.may2 (by decide)).mono ?_)
       rintro e w4 ⟨rfl, hA, hF⟩
       have H3 := Aside0.mk (show Kn.s3.At w4 w.heap.size from hA)
       have B3 := Aside0.mk (Kn.step B2.out hF)
       clear hA hF H2 B2)
    | (go_at_call 45; (refine (Kn.save3 H3.out).mono ?_)
       rintro e w5 ⟨rfl, hA, hF⟩
       have H4 := Aside0.mk (Kn.at_alloc hA (.cells #[.int .u32 0, .int .i64 0, .int .i64 0, .int .i64 0] 24 (0, 0)))
       have B4 := Aside0.mk (below_alloc (Kn.step B3.out hF) (.cells #[.int .u32 0, .int .i64 0, .int .i64 0, .int .i64 0] 24 (0, 0)))
       clear hA hF H3 B3)
    | (go_at_call 38; (refine (Fs.up_calls H4.out).mono ?_)
       rintro e w6 ⟨rfl, he⟩
       have H5 := Aside0.mk (show Kn.s5.At w6 w.heap.size by rw [he]; exact Kn.up H4.out)
       have B5 := Aside0.mk (show Below w.heap.size w w6 by rw [he]; exact B4.out.setCell (p := ⟨w.heap.size, 4099, none⟩) (Nat.le_refl _) _)
       clear he H4 B4)
    | (go_at_call 47; (refine (Kn.load H5.out).mono ?_)
       rintro e w7 ⟨rfl, hb⟩
       have B6 := Aside0.mk (below_alloc (below_step B5.out hb) (.cells #[.int .u32 2, .int .i64 6, .int .i64 0, .int .i64 0] 24 (0, 0)))
       clear hb H5 B5))
  go_ret
  exact ⟨rfl, B6.out⟩

/-! ### SlotsNone -/
set_option maxHeartbeats 2000000 in
set_option maxRecDepth 100000 in
theorem Kn.bad (size r0 r1 r2 r3 : Int) (w : World) (h : size < 1 ∨ 4096 < size) : Calls Try.prog 11 #[.int .i64 size, .agg #[.int .u32 r0, .int .i64 r1, .int .i64 r2, .int .i64 r3]] w fun e w' => e = .returned (.bool true) ∧ Below w.heap.size w w' := by
  have hu2 := Try.underlying24
  have HH := Aside0.mk h
  clear h
  go_enter Try.func11, Try.ntmps11
  go_wp2_with (first
    | (go_at_call 47; (refine (Sq.nil _).mono ?_)
       rintro e w1 ⟨rfl, hb⟩
       have B0 := Aside0.mk (below_alloc (below_step (below_alloc (Below.refl w.heap.size w) (.cells #[.int .u32 r0, .int .i64 r1, .int .i64 r2, .int .i64 r3] 24 (0, 0))) hb) (.cells #[.int .u32 0, .int .i64 0, .int .i64 0, .int .i64 0] 24 (0, 0)))
       have HK := Aside0.mk (blk_alloc (blk_below (blk_new w (.cells #[.int .u32 r0, .int .i64 r1, .int .i64 r2, .int .i64 r3] 24 (0, 0))) hb) (.cells #[.int .u32 0, .int .i64 0, .int .i64 0, .int .i64 0] 24 (0, 0)))
       clear hb)
    | (go_at_call 48; (refine (Sn.nil _).mono ?_)
       rintro e w2 ⟨rfl, hb⟩
       have B1 := Aside0.mk (below_step B0.out hb)
       have HK1 := Aside0.mk (blk_below HK.out hb)
       have k0 := blk_cell HK1.out 0
       have k1 := blk_cell HK1.out 1
       have k2 := blk_cell HK1.out 2
       have k3 := blk_cell HK1.out 3
       clear hb B0 HK)
    | (go_at_call 45; (refine (Sv.nil _ r0 r1 r2 r3).mono ?_)
       rintro e w3 ⟨rfl, hb⟩
       have B2 := Aside0.mk (below_alloc (below_step B1.out hb) (.cells #[.int .u32 0, .int .i64 0, .int .i64 0, .int .i64 0] 24 (0, 0)))
       have HK2 := Aside0.mk (blk_alloc (blk_below HK1.out hb) (.cells #[.int .u32 0, .int .i64 0, .int .i64 0, .int .i64 0] 24 (0, 0)))
       clear hb B1 HK1 k0 k1 k2 k3)
    | (go_at_call 30; (refine (Fs.new_bad size _ HH.out).mono ?_)
       rintro e w4 ⟨rfl, rfl⟩
       have B3 := B2)
    | (go_at_call 44; (refine (Kn.known _).mono ?_)
       rintro e w9 ⟨rfl, hb⟩
       have B9 := Aside0.mk (below_step B3.out hb)
       clear hb))
  go_ret
  exact ⟨rfl, B9.out⟩
set_option maxHeartbeats 2000000 in
set_option maxRecDepth 100000 in
theorem Kn.same (size r0 r1 r2 r3 : Int) (w : World) (h : size = 128) : Calls Try.prog 11 #[.int .i64 size, .agg #[.int .u32 r0, .int .i64 r1, .int .i64 r2, .int .i64 r3]] w fun e w' => e = .returned (.bool true) ∧ Below w.heap.size w w' := by
  have hu2 := Try.underlying24
  subst h
  go_enter Try.func11, Try.ntmps11
  go_wp2_with (first
    | (go_at_call 47; (refine (Sq.nil _).mono ?_)
       rintro e w1 ⟨rfl, hb⟩
       have B0 := Aside0.mk (below_alloc (below_step (below_alloc (Below.refl w.heap.size w) (.cells #[.int .u32 r0, .int .i64 r1, .int .i64 r2, .int .i64 r3] 24 (0, 0))) hb) (.cells #[.int .u32 0, .int .i64 0, .int .i64 0, .int .i64 0] 24 (0, 0)))
       have HK := Aside0.mk (blk_alloc (blk_below (blk_new w (.cells #[.int .u32 r0, .int .i64 r1, .int .i64 r2, .int .i64 r3] 24 (0, 0))) hb) (.cells #[.int .u32 0, .int .i64 0, .int .i64 0, .int .i64 0] 24 (0, 0)))
       clear hb)
    | (go_at_call 48; (refine (Sn.nil _).mono ?_)
       rintro e w2 ⟨rfl, hb⟩
       have B1 := Aside0.mk (below_step B0.out hb)
       have HK1 := Aside0.mk (blk_below HK.out hb)
       have k0 := blk_cell HK1.out 0
       have k1 := blk_cell HK1.out 1
       have k2 := blk_cell HK1.out 2
       have k3 := blk_cell HK1.out 3
       clear hb B0 HK)
    | (go_at_call 45; (refine (Sv.nil _ r0 r1 r2 r3).mono ?_)
       rintro e w3 ⟨rfl, hb⟩
       have B2 := Aside0.mk (below_alloc (below_step B1.out hb) (.cells #[.int .u32 0, .int .i64 0, .int .i64 0, .int .i64 0] 24 (0, 0)))
       have HK2 := Aside0.mk (blk_alloc (blk_below HK1.out hb) (.cells #[.int .u32 0, .int .i64 0, .int .i64 0, .int .i64 0] 24 (0, 0)))
       clear hb B1 HK1 k0 k1 k2 k3)
    | (go_at_call 30; (refine (Fs.new_calls 128 _ (by decide)).mono ?_)
       rintro e w4 ⟨rfl, hA, hb⟩
       have B3 := Aside0.mk (below_step B2.out hb)
       clear hA hb)
    | (go_at_call 44; (refine (Kn.known _).mono ?_)
       rintro e w9 ⟨rfl, hb⟩
       have B9 := Aside0.mk (below_step B3.out hb)
       clear hb))
  go_ret
  exact ⟨rfl, B9.out⟩
end Go.Proofs.Ytjldkgcabombhaa

/- SlotsNone answers true. -/
namespace Go.Proofs.Ytjldkgcabombhaa
open Go.RowKit Go.Proofs.Ytjldkgcabombhaa.Rec Go.Proofs.YtjldkgcabombhaaW.PrintWords Go.Proofs.YtjldkgcabombhaaW.PrintLast Go.Proofs.YtjldkgcabombhaaW.PrintMore
set_option linter.unusedVariables false
set_option linter.unusedSimpArgs false

theorem Fs.new_ex (size : Int) (w : World) (h : 1 ≤ size ∧ size ≤ 4096) : Calls Try.prog 30 #[.int .i64 size] w fun e w' => ∃ g : Nat, e = .returned (.tuple #[.pointer (some ⟨g, 0, none⟩), .int .i64 0]) ∧ (Fs.new size).At w' g ∧ Below w.heap.size w w' :=
  (Fs.new_calls size w h).mono (fun _ _ ⟨he, hA, hb⟩ => ⟨_, he, hA, hb⟩)
set_option maxHeartbeats 2000000 in
set_option maxRecDepth 100000 in
theorem Kn.other (size r0 r1 r2 r3 : Int) (w : World) (h : 1 ≤ size ∧ size ≤ 4096) (hz : size ≠ 128) : Calls Try.prog 11 #[.int .i64 size, .agg #[.int .u32 r0, .int .i64 r1, .int .i64 r2, .int .i64 r3]] w fun e w' => e = .returned (.bool true) ∧ Below w.heap.size w w' := by
  have hu2 := Try.underlying24
  have HST := Aside0.mk (trivial : True)
  have HH := Aside0.mk h
  have HZ := Aside0.mk hz
  have d1 : (size == 128) = false := beq_eq_false_iff_ne.mpr hz
  clear h hz
  go_enter Try.func11, Try.ntmps11
  go_wp2_with (first
    | (have mk_ := HST; clear mk_; go_at_call 47; (refine (Sq.nil _).mono ?_)
       rintro e w1 ⟨rfl, hb⟩
       have B0 := Aside0.mk (below_alloc (below_step (below_alloc (Below.refl w.heap.size w) (.cells #[.int .u32 r0, .int .i64 r1, .int .i64 r2, .int .i64 r3] 24 (0, 0))) hb) (.cells #[.int .u32 0, .int .i64 0, .int .i64 0, .int .i64 0] 24 (0, 0)))
       have HK := Aside0.mk (blk_alloc (blk_below (blk_new w (.cells #[.int .u32 r0, .int .i64 r1, .int .i64 r2, .int .i64 r3] 24 (0, 0))) hb) (.cells #[.int .u32 0, .int .i64 0, .int .i64 0, .int .i64 0] 24 (0, 0)))
       clear hb HST)
    | (have mk_ := B0; clear mk_; go_at_call 48; (refine (Sn.nil _).mono ?_)
       rintro e w2 ⟨rfl, hb⟩
       have B1 := Aside0.mk (below_step B0.out hb)
       have HK1 := Aside0.mk (blk_below HK.out hb)
       have k0 := blk_cell HK1.out 0
       have k1 := blk_cell HK1.out 1
       have k2 := blk_cell HK1.out 2
       have k3 := blk_cell HK1.out 3
       clear hb B0 HK)
    | (have mk_ := B1; clear mk_; go_at_call 45; (refine (Sv.nil _ r0 r1 r2 r3).mono ?_)
       rintro e w3 ⟨rfl, hb⟩
       have B2 := Aside0.mk (below_alloc (below_step B1.out hb) (.cells #[.int .u32 0, .int .i64 0, .int .i64 0, .int .i64 0] 24 (0, 0)))
       have HK2 := Aside0.mk (blk_alloc (blk_below HK1.out hb) (.cells #[.int .u32 0, .int .i64 0, .int .i64 0, .int .i64 0] 24 (0, 0)))
       clear hb B1 HK1 k0 k1 k2 k3)
    | (go_at_call 30; (refine (Fs.new_ex size _ HH.out).mono ?_)
       rintro e w4 ⟨g, rfl, hA, hb⟩
       have HA := Aside0.mk hA
       have B3 := Aside0.mk (below_step B2.out hb)
       have HK3 := Aside0.mk (blk_below HK2.out hb)
       clear hA hb B2 HK2)
    | (go_at_call 47; (refine (Sq.other HA.out HZ.out).mono ?_)
       rintro e w5 ⟨rfl, hb⟩
       have HA5 := Aside0.mk (Fs.below HA.out hb)
       have B5 := Aside0.mk (below_step B3.out hb)
       have HK5 := Aside0.mk (blk_below HK3.out hb)
       clear hb HA B3 HK3)
    | (go_at_call 48; (refine (Sn.other HA5.out HZ.out).mono ?_)
       rintro e w6 ⟨rfl, hb⟩
       have HA6 := Aside0.mk (Fs.below HA5.out hb)
       have B6 := Aside0.mk (below_step B5.out hb)
       have HK6 := Aside0.mk (blk_below HK5.out hb)
       have k0 := blk_cell HK6.out 0
       have k1 := blk_cell HK6.out 1
       have k2 := blk_cell HK6.out 2
       have k3 := blk_cell HK6.out 3
       clear hb HA5 B5 HK5)
    | (go_at_call 45; (refine (Sv.other HA6.out HZ.out r0 r1 r2 r3).mono ?_)
       rintro e w7 ⟨rfl, hb⟩
       have B7 := Aside0.mk (below_step B6.out hb)
       clear hb HA6 B6)
    | (go_at_call 44; (refine (Kn.known _).mono ?_)
       rintro e w9 ⟨rfl, hb⟩
       have B9 := Aside0.mk (below_step B7.out hb)
       clear hb))
  go_ret
  exact ⟨rfl, B9.out⟩
theorem Kn.slotsNone_walk (size r0 r1 r2 r3 : Int) (W : World) (w0 : (Lit.int .i64 size).wf = true) (w1 : (Lit.int .u32 r0).wf = true) (w2 : (Lit.int .i64 r1).wf = true) (w3 : (Lit.int .i64 r2).wf = true) (w4 : (Lit.int .i64 r3).wf = true) :
    Calls Try.prog 11 #[.int .i64 size, .agg #[.int .u32 r0, .int .i64 r1, .int .i64 r2, .int .i64 r3]] W fun e W' => e = .returned (.bool true) ∧ Below W.heap.size W W' := by
  by_cases c : size < 1 ∨ 4096 < size
  · exact Kn.bad size r0 r1 r2 r3 W c
  · by_cases d : size = 128
    · exact Kn.same size r0 r1 r2 r3 W d
    · exact Kn.other size r0 r1 r2 r3 W (by omega) d
end Go.Proofs.Ytjldkgcabombhaa

/- SlotsWhole, walked by hand. -/
namespace Go.Proofs.Ytjldkgcabombhaa
open Go.RowKit Go.Proofs.Ytjldkgcabombhaa.Rec Go.Proofs.Ytjldkgcabombhaa.Wh Go.Proofs.Ytjldkgcabombhaa.QK Go.Proofs.YtjldkgcabombhaaW.PrintWords Go.Proofs.YtjldkgcabombhaaW.PrintLast Go.Proofs.YtjldkgcabombhaaW.PrintMore
attribute [local go_sem] max2_int min2_int max_two min_two
set_option linter.unusedVariables false
set_option linter.unusedSimpArgs false

def Ww.I64 (x : Int) : Prop := -9223372036854775808 ≤ x ∧ x ≤ 9223372036854775807
def Ww.Good (l : List S24) : Prop := ∀ x ∈ l, Ww.I64 x.f1 ∧ Ww.I64 x.f2 ∧ Ww.I64 x.f3
/-- Behind i records: the store, the floor, the last record's box. -/
structure Ww.J (w : World) (g : Nat) (bx : Array Value) (i : Nat) (F : Int) (wr : World) (s : Fs) (f d fl : Int) : Prop where
  at' : s.At wr g
  st : St s i f d fl
  eq : 0 < i → F = fl
  rng : Ww.I64 F
  below : Below w.heap.size w wr
  le : w.heap.size < g
  box : wr.heap[w.heap.size]? = some (.cells bx 24 (0, 0))
theorem Ww.good_at {l : List S24} (h : Ww.Good l) (i : Nat) (hi : i < l.length) : Ww.I64 (rd_T24 l (i : Int)).f1 ∧ Ww.I64 (rd_T24 l (i : Int)).f2 ∧ Ww.I64 (rd_T24 l (i : Int)).f3 := by
  have e : rd_T24 l (i : Int) = l[i] := by
    unfold rd_T24
    rw [Int.toNat_natCast, List.getD_eq_getElem?_getD, List.getElem?_eq_getElem hi]
    rfl
  rw [e]
  exact h _ (List.getElem_mem hi)
def Ww.mx (a b : Int) : Int := max a b
theorem Ww.mx_rng {a b : Int} (ha : Ww.I64 a) (hb : Ww.I64 b) : Ww.I64 (Ww.mx a b) := by
  unfold Ww.mx Ww.I64 at *
  omega
theorem Ww.j_save {w : World} {g : Nat} {bx : Array Value} {i : Nat} {F : Int} {wr W : World} {s : Fs} {f d fl : Int} (h : Ww.J w g bx i F wr s f d fl) (r1 r2 r3 : Int) (hr : Ww.I64 r1 ∧ Ww.I64 r2 ∧ Ww.I64 r3) (hi : i ≤ 31) (hA : (s.wrote (pos i).toNat (Rc.enc (i + 1) r1 r2 r3)).At W g) (hF : Fs.Fr g wr W) : Ww.J w g bx (i + 1) r3 W (s.wrote (pos i).toNat (Rc.enc (i + 1) r1 r2 r3)) r1 r2 r3 := by
  have hst : St (s.wrote (pos i).toNat (Rc.enc (i + 1) r1 r2 r3)) (i + 1) r1 r2 r3 := St.step h.st ⟨by omega, hr.1, hr.2.1, hr.2.2⟩
  exact ⟨hA, by rw [Int.natCast_succ]; exact hst, fun _ => rfl, hr.2.2, h.below.trans (Fs.fr_below hF (Nat.le_of_lt h.le) h.below.size), h.le, (hF.2 _ (blk_lt h.box) (by have := h.le; omega)).trans h.box⟩
theorem Ww.j_alloc {w : World} {g : Nat} {bx : Array Value} {i : Nat} {F : Int} {wr : World} {s : Fs} {f d fl : Int} (h : Ww.J w g bx i F wr s f d fl) (o : Obj) : Ww.J w g bx i F (wr.alloc o) s f d fl :=
  ⟨⟨blk_alloc h.at'.1 _, h.at'.2⟩, h.st, h.eq, h.rng, below_alloc h.below _, h.le, blk_alloc h.box _⟩
theorem Ww.j_below {w : World} {g : Nat} {bx : Array Value} {i : Nat} {F : Int} {wr W : World} {s : Fs} {f d fl : Int} (h : Ww.J w g bx i F wr s f d fl) (hb : Below wr.heap.size wr W) : Ww.J w g bx i F W s f d fl :=
  ⟨Fs.below h.at' hb, h.st, h.eq, h.rng, below_step h.below hb, h.le, blk_below h.box hb⟩

theorem Ww.j_set {w : World} {g : Nat} {x0 x1 x2 x3 v : Value} {i : Nat} {F : Int} {wr : World} {s : Fs} {f d fl : Int} (h : Ww.J w g #[x0, x1, x2, x3] i F wr s f d fl) : Ww.J w g #[x0, x1, x2, v] i F (wr.setCell ⟨w.heap.size, 3, none⟩ v) s f d fl :=
  ⟨⟨blk_far h.at'.1 (p := ⟨w.heap.size, 3, none⟩) (by have := h.le; show g ≠ w.heap.size; omega) v, h.at'.2⟩, h.st, h.eq, h.rng, h.below.setCell (p := ⟨w.heap.size, 3, none⟩) (Nat.le_refl _) v, h.le, blk_put (cs' := #[x0, x1, x2, v]) h.box 3 v rfl⟩
theorem Ww.may0 {s : Fs} {k f d fl : Int} (h : St s k f d fl) : s.may 0 0 = 0 := by
  unfold Fs.may Fs.inn
  rw [h.down, h.size]
  decide +kernel
/-- Two files and some records' boxes. -/
structure Ww.T (w W : World) (g gc : Nat) (s sc : Fs) (bs : List (Nat × Array Value)) : Prop where
  f : s.At W g
  c : sc.At W gc
  ne : g ≠ gc
  box : ∀ x ∈ bs, W.heap[x.1]? = some (.cells x.2 24 (0, 0))
  below : Below w.heap.size w W
  le : w.heap.size ≤ g ∧ w.heap.size ≤ gc
theorem Ww.far {W : World} {b g : Nat} {cs : Array Value} {s : Fs} (h : W.heap[b]? = some (.cells cs 24 (0, 0))) (hA : s.At W g) : b ≠ g := by
  rintro rfl
  have := h.symm.trans hA.1
  simp at this
theorem Ww.t_below {w W W' : World} {g gc : Nat} {s sc : Fs} {bs : List (Nat × Array Value)} (h : Ww.T w W g gc s sc bs) (hb : Below W.heap.size W W') : Ww.T w W' g gc s sc bs :=
  ⟨Fs.below h.f hb, Fs.below h.c hb, h.ne, fun x hx => blk_below (h.box x hx) hb, below_step h.below hb, h.le⟩
theorem Ww.t_alloc {w W : World} {g gc : Nat} {s sc : Fs} {bs : List (Nat × Array Value)} (h : Ww.T w W g gc s sc bs) (o : Obj) : Ww.T w (W.alloc o) g gc s sc bs :=
  Ww.t_below h (below_alloc (Below.refl _ _) _)
theorem Ww.t_new {w W : World} {g gc : Nat} {s sc : Fs} {bs : List (Nat × Array Value)} (h : Ww.T w W g gc s sc bs) (cs : Array Value) : Ww.T w (W.alloc (.cells cs 24 (0, 0))) g gc s sc ((W.heap.size, cs) :: bs) := by
  have h' := Ww.t_alloc h (.cells cs 24 (0, 0))
  refine ⟨h'.f, h'.c, h'.ne, fun x hx => ?_, h'.below, h'.le⟩
  rcases List.mem_cons.mp hx with rfl | hx
  · exact blk_new W _
  · exact h'.box x hx
theorem Ww.t_frF {w W W' : World} {g gc : Nat} {s s' sc : Fs} {bs : List (Nat × Array Value)} (h : Ww.T w W g gc s sc bs) (hA : s'.At W' g) (hF : Fs.Fr g W W') : Ww.T w W' g gc s' sc bs :=
  ⟨hA, ⟨(hF.2 gc (blk_lt h.c.1) h.ne.symm).trans h.c.1, h.c.2⟩, h.ne, fun x hx => (hF.2 x.1 (blk_lt (h.box x hx)) (Ww.far (h.box x hx) h.f)).trans (h.box x hx), h.below.trans (Fs.fr_below hF h.le.1 h.below.size), h.le⟩
theorem Ww.t_frC {w W W' : World} {g gc : Nat} {s sc sc' : Fs} {bs : List (Nat × Array Value)} (h : Ww.T w W g gc s sc bs) (hA : sc'.At W' gc) (hF : Fs.Fr gc W W') : Ww.T w W' g gc s sc' bs :=
  ⟨⟨(hF.2 g (blk_lt h.f.1) h.ne).trans h.f.1, h.f.2⟩, hA, h.ne, fun x hx => (hF.2 x.1 (blk_lt (h.box x hx)) (Ww.far (h.box x hx) h.c)).trans (h.box x hx), h.below.trans (Fs.fr_below hF h.le.2 h.below.size), h.le⟩
theorem Ww.t_start {w W W' : World} {g gc bo : Nat} {bx oc : Array Value} {i : Nat} {F : Int} {s : Fs} {f d fl : Int} (h : Ww.J w g bx i F W s f d fl) (ho : W.heap[bo]? = some (.cells oc 24 (0, 0))) (hg : gc = W.heap.size) (hc : s.At W' gc) (hb : Below W.heap.size W W') : Ww.T w W' g gc s s [(w.heap.size, bx), (bo, oc)] := by
  refine ⟨Fs.below h.at' hb, hc, by have := blk_lt h.at'.1; omega, fun x hx => ?_, below_step h.below hb, ⟨Nat.le_of_lt h.le, by have := h.below.size; omega⟩⟩
  rcases List.mem_cons.mp hx with rfl | hx
  · exact blk_below h.box hb
  · obtain rfl := List.mem_singleton.mp hx
    exact blk_below ho hb
theorem Ww.t_last {w W : World} {g gc : Nat} {s sc : Fs} {x : Nat × Array Value} {bs : List (Nat × Array Value)} (h : Ww.T w W g gc s sc (x :: bs)) : W.heap[x.1]? = some (.cells x.2 24 (0, 0)) := h.box x List.mem_cons_self
theorem Ww.t_next {w W : World} {g gc : Nat} {s sc : Fs} {y x : Nat × Array Value} {bs : List (Nat × Array Value)} (h : Ww.T w W g gc s sc (y :: x :: bs)) : W.heap[x.1]? = some (.cells x.2 24 (0, 0)) := h.box x (by simp)
theorem Ww.pos_eq (k : Int) : wrap64 (64 * bits BinOp.and IntKind.i64 (k % 2) 1) = pos k := by
  unfold pos
  rcases (by omega : k % 2 = 0 ∨ k % 2 = 1) with h | h <;> rw [h] <;> decide +kernel
theorem Ww.len64 {s : Fs} {k : Int} (h : s.b.length = 4096) : (half s (pos k).toNat).length = 64 := by
  have hq : (pos k).toNat ≤ 64 := by rcases pos_cases k with ⟨_, hp⟩ | ⟨_, hp⟩ <;> omega
  unfold half
  rw [List.length_take, List.length_drop]
  omega
theorem Ww.read_f {s : Fs} {W : World} {g : Nat} {k f d fl p : Int} (r1 r2 r3 : Int) (H : St s k f d fl) (hA : (tore s k p (Rc.enc (k + 1) r1 r2 r3)).At W g) :
    Calls Try.prog 34 #[.pointer (some ⟨g, 0, none⟩), .int .i64 (pos k), .int .i64 64] W fun e w' => ∃ v : Value, e = .returned (.tuple #[v, .int .i64 0]) ∧ Kd.R (Kd.int .u8) 5 w' W.heap.size (fun _ => True) v (tslot s k p (Rc.enc (k + 1) r1 r2 r3)) ∧ Below W.heap.size W w' := by
  have he := enc_length (k + 1) r1 r2 r3
  obtain ⟨h1, h2, h3, h4, h5⟩ := tore_st (p := p) H (enc_bytes (k + 1) r1 r2 r3) he
  rw [← tore_slot H.len he]
  exact Fs.read_ok (pos k) 64 hA ⟨by omega, by omega⟩ (Wl.may k h1 h3)
theorem Ww.read_c {s : Fs} {W : World} {g : Nat} {k f d fl : Int} (r1 r2 r3 : Int) (H : St s k f d fl) (hA : (s.wrote (pos k).toNat (Rc.enc (k + 1) r1 r2 r3)).At W g) :
    Calls Try.prog 34 #[.pointer (some ⟨g, 0, none⟩), .int .i64 (pos k), .int .i64 64] W fun e w' => ∃ v : Value, e = .returned (.tuple #[v, .int .i64 0]) ∧ Kd.R (Kd.int .u8) 5 w' W.heap.size (fun _ => True) v (Rc.enc (k + 1) r1 r2 r3) ∧ Below W.heap.size W w' := by
  have he := enc_length (k + 1) r1 r2 r3
  have e : half (s.wrote (pos k).toNat (Rc.enc (k + 1) r1 r2 r3)) (pos k).toNat = Rc.enc (k + 1) r1 r2 r3 := by
    rcases pos_cases k with ⟨_, hp⟩ | ⟨_, hp⟩ <;> rw [hp]
    · exact half00 s _ he
    · exact half11 s _ (by have := H.len; omega) he
  have := Fs.read_ok (s := s.wrote (pos k).toNat (Rc.enc (k + 1) r1 r2 r3)) (pos k) 64 hA ⟨by show 0 ≤ s.size; rw [H.size]; decide, by show s.size ≤ 4096; rw [H.size]; decide⟩ (Wl.may (s := s.wrote (pos k).toNat (Rc.enc (k + 1) r1 r2 r3)) k H.size H.down)
  rw [show ((s.wrote (pos k).toNat (Rc.enc (k + 1) r1 r2 r3)).b.drop (pos k).toNat).take (64 : Int).toNat = Rc.enc (k + 1) r1 r2 r3 from e] at this
  exact this
def Ww.Z : Array Value := madeCells #[.int .u8 0] 64
def Ww.zeros : List Int := List.replicate 64 0
theorem Ww.zeros_len : Ww.zeros.length = 64 := List.length_replicate
def Ww.B0 : Obj := .cells #[.int .u32 0, .int .i64 0, .int .i64 0, .int .i64 0] 24 (0, 0)
theorem Ww.boxA {w W : World} (hb : Below ((w.alloc (.cells Ww.Z 5)).alloc Ww.B0).drew.heap.size ((w.alloc (.cells Ww.Z 5)).alloc Ww.B0).drew W) : W.heap[w.heap.size + 1]? = some Ww.B0 ∧ Below w.heap.size w W := by
  refine ⟨blk_below (blk_drew (by have := blk_new (w.alloc (.cells Ww.Z 5)) Ww.B0; rw [World.size_alloc] at this; exact this)) hb, ?_⟩
  exact below_step (below_drew1 (below_alloc (below_alloc (Below.refl _ _) _) _)) hb
theorem Ww.boxB {w W : World} (hb : Below ((w.alloc Ww.B0).alloc (.cells Ww.Z 5)).drew.heap.size ((w.alloc Ww.B0).alloc (.cells Ww.Z 5)).drew W) : W.heap[w.heap.size]? = some Ww.B0 ∧ Below w.heap.size w W := by
  refine ⟨blk_below (blk_drew (blk_alloc (blk_new w Ww.B0) _)) hb, ?_⟩
  exact below_step (below_drew1 (below_alloc (below_alloc (Below.refl _ _) _) _)) hb
theorem Ww.boxC {w W : World} (hb : Below (w.alloc (.cells Ww.Z 5)).drew.heap.size (w.alloc (.cells Ww.Z 5)).drew W) : Below w.heap.size w W :=
  below_step (below_drew1 (below_alloc (Below.refl _ _) _)) hb
theorem Ww.four {w W : World} {b : Nat} {v0 v1 v2 v3 : Value} (hb : w.heap.size ≤ b) (h : Below w.heap.size w W) : Below w.heap.size w ((((W.setCell ⟨b, 0, none⟩ v0).setCell ⟨b, 1, none⟩ v1).setCell ⟨b, 2, none⟩ v2).setCell ⟨b, 3, none⟩ v3) :=
  Below.setCell (Below.setCell (Below.setCell (Below.setCell h (p := ⟨b, 0, none⟩) hb _) (p := ⟨b, 1, none⟩) hb _) (p := ⟨b, 2, none⟩) hb _) (p := ⟨b, 3, none⟩) hb _
theorem eqA24 (d : Nat) (w : World) (x0 y0 : Int) (x1 y1 : Int) (x2 y2 : Int) (x3 y3 : Int) :
    (Op.equalIn (d + 2) 24 (.agg #[.int .u32 x0, .int .i64 x1, .int .i64 x2, .int .i64 x3]) (.agg #[.int .u32 y0, .int .i64 y1, .int .i64 y2, .int .i64 y3])).run Try.prog w = .ok (x0 == y0 && (x1 == y1 && (x2 == y2 && (x3 == y3)))) w := by
  refine eqA_of Try.underlying24 (by kernel_rfl) ?_
  refine eqf_cons (by rfl) (by go_simp; rfl) (by go_simp; rfl) (by go_simp) ?_
  refine eqf_cons (by rfl) (by go_simp; rfl) (by go_simp; rfl) (by go_simp) ?_
  refine eqf_cons (by rfl) (by go_simp; rfl) (by go_simp; rfl) (by go_simp) ?_
  exact eqf_last (by rfl) (by go_simp; rfl) (by go_simp; rfl) (by go_simp)
attribute [local go_sem high] eqA24
theorem Ww.ways {T T' en : List Int} {p : Int} {okB eqB ppB : Bool} (hT : T' = T) (hb : Bytes T) (he : Bytes en) (hp : 0 ≤ p) (h1 : Wh.ok (Rd.dec T) = okB) (h2 : ((strOfNums T).toList == (strOfNums en).toList) = eqB) (h3 : decide (0 < p) = ppB) (hc : (okB && !eqB && ppB) = false) : Wh.ok (Rd.dec T') = false ∨ T' = en ∨ p = 0 := by
  subst hT
  cases okB with
  | false => exact .inl h1
  | true =>
    cases eqB with
    | true =>
      rw [beq_iff_eq, Lib.strOfNums_toList, Lib.strOfNums_toList] at h2
      exact .inr (.inl (str_inj _ _ hb he h2))
    | false =>
      cases ppB with
      | true => exact absurd hc (by decide)
      | false => exact .inr (.inr (by have := of_decide_eq_false h3; omega))
theorem Ww.str {W : World} {A : Option Addr} {c : Nat} {xs : List Int} (h : Kd.C (Kd.int .u8) W A xs.length xs) : (convert 25 9 (.slice A xs.length c)).run Try.prog W = .ok (.string (strOfNums xs)) W :=
  Kd.C_string (P := Try.prog) (A := A) (c := c) Try.underlying25 Try.underlying5 Try.underlying9 h
theorem Ww.ref {T : List Int} (hT : Bytes T) (hl : T.length = 64) (W : World) : Calls Try.prog 49 #[.string (strOfNums T ++ strOfNums Ww.zeros)] W fun e w' => ∃ r0 r1 r2 r3 : Int, e = .returned (.tuple #[.agg #[.int .u32 r0, .int .i64 r1, .int .i64 r2, .int .i64 r3], .bool (Wh.ok (Rd.dec T))]) ∧ Below W.heap.size W w' := by
  have hb : Bytes (T ++ Ww.zeros) := fun x hx => by
    rcases List.mem_append.mp hx with h | h
    · exact hT x h
    · exact zero_bytes 64 x h
  have h := Dl.load hb (by rw [List.length_append, hl, Ww.zeros_len]) W
  rw [List.take_left' hl, List.drop_left' hl, ← Dz.app] at h
  have hz : Rd.dec Ww.zeros = (0, 0, 0, 0, 6) := by unfold Ww.zeros; exact dec_six zero_dec
  have hv : (Dl.val (Rd.dec T) (Rd.dec Ww.zeros)).2 = Wh.ok (Rd.dec T) := by
    rw [hz]
    unfold Dl.val
    cases Wh.ok (Rd.dec T) <;> rfl
  rw [hv] at h
  exact h.mono (fun _ _ ⟨he, hb⟩ => ⟨_, _, _, _, he, hb⟩)
theorem Fs.new_at (size : Int) (w : World) (h : 1 ≤ size ∧ size ≤ 4096) : Calls Try.prog 30 #[.int .i64 size] w fun e w' => ∃ g : Nat, e = .returned (.tuple #[.pointer (some ⟨g, 0, none⟩), .int .i64 0]) ∧ w.heap.size ≤ g ∧ (Fs.new size).At w' g ∧ Below w.heap.size w w' :=
  (Fs.new_calls size w h).mono (fun _ _ ⟨he, hA, hb⟩ => ⟨_, he, Nat.le_refl _, hA, hb⟩)
theorem Ww.j_start {w W : World} {g : Nat} {bx : Array Value} (hg : w.heap.size + 1 ≤ g) (hA : (Fs.new 128).At W g) (hb : Below w.heap.size w W) (hk : W.heap[w.heap.size]? = some (.cells bx 24 (0, 0))) : Ww.J w g bx 0 (-9223372036854775808) W (Fs.new 128) 0 0 0 :=
  ⟨hA, St.start, fun h => absurd h (by decide), ⟨by decide, by decide⟩, hb, by omega, hk⟩

set_option maxHeartbeats 16000000 in
set_option maxRecDepth 100000 in
theorem Ww.walk (A : Option Addr) (c : Nat) (l : List S24) (a0 a1 a2 a3 p : Int) (w : World) (hC : Kd.C k24 w A l.length l) (hG : Ww.Good l) (hl : Ww.I64 a1 ∧ Ww.I64 a2 ∧ Ww.I64 a3) (hn : l.length ≤ 30) (hp : 0 ≤ p) : Calls Try.prog 12 #[.slice A l.length c, .agg #[.int .u32 a0, .int .i64 a1, .int .i64 a2, .int .i64 a3], .int .i64 p] w fun e w' => e = .returned (.bool true) ∧ Below w.heap.size w w' := by
  have hu2 := Try.underlying24
  have d1 : decide (30 < (l.length : Int)) = false := decide_eq_false (by omega)
  have d2 : decide (p < 0) = false := decide_eq_false (by omega)
  have HC := Aside0.mk hC
  have HG := Aside0.mk hG
  have HL := Aside0.mk hl
  have HN := Aside0.mk hn
  have HP := Aside0.mk hp
  have HK := Aside0.mk (blk_new w (.cells #[.int .u32 a0, .int .i64 a1, .int .i64 a2, .int .i64 a3] 24 (0, 0)))
  clear hC hG hl hn hp
  go_enter Try.func12, Try.ntmps12
  go_wp2_with (first
    | (go_at_call 30; (refine (Fs.new_at 128 _ (by decide)).mono ?_)
       rintro e w1 ⟨g, rfl, hg, hA, hb⟩
       rw [World.size_alloc] at hg
       have HJ := Aside0.mk (Ww.j_start hg hA (below_step (below_alloc (Below.refl w.heap.size w) _) hb) (blk_below HK.out hb))
       clear hA hb hg HK))
  go_loopw [9, 53] (fun v9 v53 wr => ∃ (i : Nat) (F : Int) (s : Fs) (f d fl : Int), v9 = .int .i64 F ∧ v53 = .int .i64 i ∧ Aside0 (i ≤ l.length) ∧ Aside0 (Ww.J w g #[.int .u32 a0, .int .i64 a1, .int .i64 a2, .int .i64 a3] i F wr s f d fl)) (fun _ v53 _ => l.length - (intOf v53).toNat)
  case atStart => exact ⟨0, (-9223372036854775808), Fs.new 128, 0, 0, 0, rfl, rfl, ⟨Nat.zero_le _⟩, HJ⟩
  case round =>
    clear HJ
    obtain ⟨i, F, s, f, d, fl, rfl, rfl, HI, HJ⟩ := hrel
    by_cases hlt : i < l.length
    · have p0 : 0 ≤ ((i : Nat) : Int) := Int.natCast_nonneg _
      have q0 : ((i : Nat) : Int) < (l.length : Int) := by omega
      obtain ⟨ad, e, hx0, hx1, hx2, hx3⟩ := at_T24 (Kd.C_below HC.out HJ.out.below) (i : Int) p0 q0
      cases e
      simp only [Int.toNat_natCast] at hx0 hx1 hx2 hx3
      have HX := Aside0.mk (Ww.good_at HG.out i hlt)
      obtain ⟨x0, e0⟩ : ∃ x, (rd_T24 l (i : Int)).f0 = x := ⟨_, rfl⟩
      obtain ⟨x1, e1⟩ : ∃ x, (rd_T24 l (i : Int)).f1 = x := ⟨_, rfl⟩
      obtain ⟨x2, e2⟩ : ∃ x, (rd_T24 l (i : Int)).f2 = x := ⟨_, rfl⟩
      obtain ⟨x3, e3⟩ : ∃ x, (rd_T24 l (i : Int)).f3 = x := ⟨_, rfl⟩
      rw [e1, e2, e3] at HX
      rw [e0] at hx0
      rw [e1] at hx1
      rw [e2] at hx2
      rw [e3] at hx3
      have HLT := Aside0.mk hlt
      have hi1 : ((i : Nat) : Int) < 30 := by have := HN.out; omega
      obtain ⟨m, hm⟩ : ∃ m, (if x3 < F then F else x3) = m := ⟨_, rfl⟩
      have HM := Aside0.mk (show Ww.I64 m by rw [← hm]; have h1 := HX.out.2.2; have h2 := HJ.out.rng; split <;> assumption)
      have HI30 := Aside0.mk (show i ≤ 30 by have := HN.out; omega)
      have HK := Aside0.mk (show ((i : Nat) : Int) < 4294967295 by omega)
      clear hlt e0 e1 e2 e3
      go_wp2_with (first
        | (go_at_call 45; (refine (Wl.save x0 x1 x2 m (Ww.j_alloc HJ.out (.cells #[.int .u32 x0, .int .i64 x1, .int .i64 x2, .int .i64 m] 24 (0, 0))).at' HJ.out.st HK.out).mono ?_)
           rintro e w5 ⟨rfl, hA, hF⟩
           have HJ5 := Aside0.mk (Ww.j_save (Ww.j_alloc HJ.out (.cells #[.int .u32 x0, .int .i64 x1, .int .i64 x2, .int .i64 m] 24 (0, 0))) x1 x2 m ⟨HX.out.1, HX.out.2.1, HM.out⟩ (by have := HI30.out; omega) hA hF)
           have hR := (hF.2 _ (blk_lt (blk_new wr (.cells #[.int .u32 x0, .int .i64 x1, .int .i64 x2, .int .i64 m] 24 (0, 0)))) (Nat.ne_of_gt (blk_lt HJ.out.at'.1))).trans (blk_new wr (.cells #[.int .u32 x0, .int .i64 x1, .int .i64 x2, .int .i64 m] 24 (0, 0)))
           have r3 := blk_cell (blk_alloc hR (.cells #[.int .u32 ((i : Int) + 1), .int .i64 x1, .int .i64 x2, .int .i64 m] 24 (0, 0))) 3
           clear hA hF hR))
      go_roundw
      case rel => exact ⟨i + 1, m, _, x1, x2, m, rfl, by go_num, ⟨HLT.out⟩, ⟨Ww.j_alloc HJ5.out _⟩⟩
      case measure => have := HLT.out; simp [intOf]; omega
    · have q0 : ¬ ((i : Nat) : Int) < (l.length : Int) := by omega
      have HE := Aside0.mk (show i = l.length by have := HI.out; omega)
      have b3 := blk_cell HJ.out.box 3
      have fb3 := blk_frozen HJ.out.box 3
      clear hlt
      obtain ⟨m, hm⟩ : ∃ m, (if a3 < F then F else a3) = m := ⟨_, rfl⟩
      have HM := Aside0.mk (show Ww.I64 m ∧ F ≤ m by rw [← hm]; have h1 := HL.out.2.2; have h2 := HJ.out.rng; unfold Ww.I64 at *; split <;> omega)
      go_upto_region 17 with (fail)
      have HJ6 := Aside0.mk (Ww.j_set (v := .int .i64 m) HJ.out)
      generalize (wr.setCell ⟨w.heap.size, 3, none⟩ (.int .i64 m)) = w2 at HJ6 ⊢
      clear b3 fb3 HJ hm
      have HKK := Aside0.mk (show ((i : Nat) : Int) < 4294967295 by have := HE.out; have := HN.out; omega)
      have hpos := Ww.pos_eq (i : Int)
      obtain ⟨en, hen⟩ : ∃ en, Rc.enc ((i : Int) + 1) a1 a2 m = en := ⟨_, rfl⟩
      have HEN := Aside0.mk hen
      have HRF := Aside0.mk (fun W => Ww.read_f (W := W) (g := g) (p := p) a1 a2 m HJ6.out.st)
      have HRC := Aside0.mk (fun W gc => Ww.read_c (W := W) (g := gc) a1 a2 m HJ6.out.st)
      have HTS := tore_st (p := p) HJ6.out.st (enc_bytes ((i : Int) + 1) a1 a2 m) (enc_length ((i : Int) + 1) a1 a2 m)
      have HLD := Aside0.mk (fun W (hA : (tore s i p (Rc.enc ((i : Int) + 1) a1 a2 m)).At W g) => Wl.load hA HTS.1 HTS.2.2.1)
      obtain ⟨⟨⟨n0, n1, n2, n3⟩, nb⟩, hval⟩ : ∃ v, val (Rd.dec (half (tore s i p (Rc.enc ((i : Int) + 1) a1 a2 m)) 0)) (Rd.dec (half (tore s i p (Rc.enc ((i : Int) + 1) a1 a2 m)) 64)) = v := ⟨_, rfl⟩
      rw [hval] at HLD
      have HVAL := Aside0.mk hval
      have HTS := Aside0.mk HTS
      obtain ⟨T, hT⟩ : ∃ T, tslot s i p (Rc.enc ((i : Int) + 1) a1 a2 m) = T := ⟨_, rfl⟩
      have HT := Aside0.mk hT
      rw [hT] at HRF
      clear hval hT hen
      go_wp2_with (first
        | (have mk_ := HJ6; clear mk_; go_at_call 47; (refine (Wl.held HJ6.out.at' HJ6.out.st).mono ?_)
           rintro e w3 ⟨rfl, hb⟩
           have HJ7 := Aside0.mk (Ww.j_alloc (Ww.j_below HJ6.out hb) (.cells #[.int .u32 (i : Int), .int .i64 f, .int .i64 d, .int .i64 fl] 24 (0, 0)))
           have HO := Aside0.mk (blk_new w3 (.cells #[.int .u32 (i : Int), .int .i64 f, .int .i64 d, .int .i64 fl] 24 (0, 0)))
           clear hb HJ6)
        | (have mk_ := HJ7; clear mk_; go_at_call 48; (refine (Wl.nx HJ7.out.at' HJ7.out.st).mono ?_)
           rintro e w4 ⟨rfl, hb⟩
           have HJ8 := Aside0.mk (Ww.j_below HJ7.out hb)
           have HO8 := Aside0.mk (blk_below HO.out hb)
           clear hb HJ7 HO)
        | (have mk_ := HJ8; clear mk_; go_at_call 39; (refine (Fs.copy_calls HJ8.out.at').mono ?_)
           rintro e w5 ⟨gc, rfl, hgc, hC, hb⟩
           have T5 := Aside0.mk (Ww.t_start HJ8.out HO8.out hgc hC hb)
           have ST := Aside0.mk HJ8.out.st
           have EQ := Aside0.mk HJ8.out.eq
           clear hb HJ8 HO8 hC hgc)
        | (have mk_ := T5; clear mk_; go_at_call 36; (refine (Fs.crash_ok p T5.out.f (Ww.may0 ST.out) HP.out).mono ?_)
           rintro e w6 ⟨rfl, hA, hF⟩
           have T6 := Aside0.mk (Ww.t_frF T5.out hA hF)
           have l0 := blk_cell (Ww.t_last T6.out) 0
           have l1 := blk_cell (Ww.t_last T6.out) 1
           have l2 := blk_cell (Ww.t_last T6.out) 2
           have l3 := blk_cell (Ww.t_last T6.out) 3
           clear hA hF T5)
        | (have mk_ := T6; clear mk_; go_at_call 45; (refine (Wl.tear p a0 a1 a2 m T6.out.f ST.out HKK.out HP.out).mono ?_)
           rintro e w7 ⟨rfl, hA, hF⟩
           have T7 := Aside0.mk (Ww.t_alloc (Ww.t_frF T6.out hA hF) (.cells #[.int .u32 0, .int .i64 0, .int .i64 0, .int .i64 0] 24 (0, 0)))
           clear hA hF T6 l0 l1 l2 l3)
        | (have mk_ := T7; clear mk_; go_at_call 38; (refine (Fs.up_calls T7.out.f).mono ?_)
           rintro e w8 ⟨rfl, he⟩
           have T8 := Aside0.mk (Ww.t_frF (W' := w8) T7.out (by rw [he]; exact Wl.up T7.out.f) (by rw [he]; exact Fs.fr_set (Fs.fr_refl _ _) _ _))
           have l0 := blk_cell (Ww.t_last T8.out) 0
           have l1 := blk_cell (Ww.t_last T8.out) 1
           have l2 := blk_cell (Ww.t_last T8.out) 2
           have l3 := blk_cell (Ww.t_last T8.out) 3
           clear he T7)
        | (have mk_ := T8; clear mk_; go_at_call 45; (refine (Wl.save a0 a1 a2 m T8.out.c ST.out HKK.out).mono ?_)
           rintro e w9 ⟨rfl, hA, hF⟩
           have T9 := Aside0.mk (Ww.t_new (Ww.t_frC T8.out hA hF) #[.int .u32 ((i : Int) + 1), .int .i64 a1, .int .i64 a2, .int .i64 m])
           clear hA hF T8 l0 l1 l2 l3)
        | (have mk_ := T9; clear mk_; go_at_call 34; (refine (HRF.out _ T9.out.f).mono ?_)
           rintro e w10 ⟨v, rfl, hr, hb⟩
           obtain ⟨At, ct, rfl⟩ := Kd.R_slice hr
           have RT := Aside0.mk (Kd.R_reads' hr).2.2
           have T10 := Aside0.mk (Ww.t_below T9.out hb)
           clear hr hb T9)
        | (have mk_ := T10; clear mk_; go_at_call 34; (refine (HRC.out _ _ T10.out.c).mono ?_)
           rintro e w11 ⟨v, rfl, hr, hb⟩
           obtain ⟨Ah, ch, rfl⟩ := Kd.R_slice hr
           have RC := Aside0.mk (Kd.R_reads' hr).2.2
           have RT11 := Aside0.mk (Kd.C_below RT.out hb)
           have T11 := Aside0.mk (Ww.t_below T10.out hb)
           clear hr hb T10 RT)
        | (have mk_ := T11; clear mk_; go_at_call 47; (refine (HLD.out _ T11.out.f).mono ?_)
           rintro e w12 ⟨rfl, hb⟩
           have T12 := Aside0.mk (Ww.t_new (Ww.t_below T11.out hb) #[.int .u32 n0, .int .i64 n1, .int .i64 n2, .int .i64 n3])
           have RT12 := Aside0.mk (Kd.C_alloc (Kd.C_below RT11.out hb) (.cells #[.int .u32 n0, .int .i64 n1, .int .i64 n2, .int .i64 n3] 24 (0, 0)))
           have RC12 := Aside0.mk (Kd.C_alloc (Kd.C_below RC.out hb) (.cells #[.int .u32 n0, .int .i64 n1, .int .i64 n2, .int .i64 n3] 24 (0, 0)))
           clear hb T11 RT11 RC))
      generalize (w12.alloc (.cells #[.int .u32 n0, .int .i64 n1, .int .i64 n2, .int .i64 n3] 24 (0, 0))) = w13 at T12 RT12 RC12 ⊢
      have hmk : ∀ W : World, (Instr.makeSlice 25 (.int .i64 64) (.int .i64 64)).run Try.prog W = .ok (.slice (some ⟨W.heap.size, 0, none⟩) 64 64) (W.alloc (.cells Ww.Z 5)) := print_make (P := Try.prog) 25 5 .u8 1 Try.underlying25 Rc.info5 (by decide) 64 (by decide)
      have cv1 := Ww.str (c := ct) (Kd.C_drew RT12.out)
      have cv2 := Ww.str (c := ct) (Kd.C_drew (Kd.C_alloc RT12.out (.cells Ww.Z 5)))
      have cv4 := Ww.str (c := ct) (Kd.C_drew (Kd.C_alloc RT12.out (.cells #[.int .u32 0, .int .i64 0, .int .i64 0, .int .i64 0] 24 (0, 0))))
      have cv5 := Ww.str (c := ct) (Kd.C_drew (Kd.C_alloc (Kd.C_alloc RT12.out (.cells Ww.Z 5)) (.cells #[.int .u32 0, .int .i64 0, .int .i64 0, .int .i64 0] 24 (0, 0))))
      have cv6 := Ww.str (c := ct) (Kd.C_drew (Kd.C_alloc (Kd.C_alloc RT12.out (.cells #[.int .u32 0, .int .i64 0, .int .i64 0, .int .i64 0] 24 (0, 0))) (.cells Ww.Z 5)))
      have cv7 : (convert 25 9 (.slice (some ⟨w13.heap.size, 0, none⟩) 64 64)).run Try.prog ((w13.alloc (.cells Ww.Z 5)).alloc (.cells #[.int .u32 0, .int .i64 0, .int .i64 0, .int .i64 0] 24 (0, 0))).drew = .ok (.string (strOfNums Ww.zeros)) ((w13.alloc (.cells Ww.Z 5)).alloc (.cells #[.int .u32 0, .int .i64 0, .int .i64 0, .int .i64 0] 24 (0, 0))).drew :=
        own_string Try.underlying25 Try.underlying5 Try.underlying9 (own_alloc (own_made w13.drew 0 5 .u8 64 (Nat.zero_le _) (by decide)) (.cells #[.int .u32 0, .int .i64 0, .int .i64 0, .int .i64 0] 24 (0, 0)))
      have cv8 : (convert 25 9 (.slice (some ⟨w13.heap.size + 1, 0, none⟩) 64 64)).run Try.prog ((w13.alloc (.cells #[.int .u32 0, .int .i64 0, .int .i64 0, .int .i64 0] 24 (0, 0))).alloc (.cells Ww.Z 5)).drew = .ok (.string (strOfNums Ww.zeros)) ((w13.alloc (.cells #[.int .u32 0, .int .i64 0, .int .i64 0, .int .i64 0] 24 (0, 0))).alloc (.cells Ww.Z 5)).drew := by
        have := own_string (P := Try.prog) Try.underlying25 Try.underlying5 Try.underlying9 (own_made (w13.alloc (.cells #[.int .u32 0, .int .i64 0, .int .i64 0, .int .i64 0] 24 (0, 0))).drew 0 5 .u8 64 (Nat.zero_le _) (by decide))
        rw [show (w13.alloc (.cells #[.int .u32 0, .int .i64 0, .int .i64 0, .int .i64 0] 24 (0, 0))).drew.heap.size = w13.heap.size + 1 from World.size_alloc _ _] at this
        exact this
      have cv3 : (convert 25 9 (.slice (some ⟨w13.heap.size, 0, none⟩) 64 64)).run Try.prog (w13.alloc (.cells Ww.Z 5)).drew = .ok (.string (strOfNums Ww.zeros)) (w13.alloc (.cells Ww.Z 5)).drew :=
        own_string Try.underlying25 Try.underlying5 Try.underlying9 (own_made w13.drew 0 5 .u8 64 (Nat.zero_le _) (by decide))
      have HTB := Aside0.mk (show Bytes T ∧ T.length = 64 by
        rw [← HT.out, ← tore_slot ST.out.len (enc_length ..)]
        exact ⟨bytes_take (bytes_drop HTS.out.2.2.2.1 _) _, Ww.len64 HTS.out.2.2.2.2⟩)
      have hn1 : ¬ 9223372036854775807 < (strOfNums T).size + (strOfNums Ww.zeros).size := by rw [strOfNums_size, strOfNums_size, HTB.out.2]; decide
      have HRL := Aside0.mk (fun W => Ww.ref HTB.out.1 HTB.out.2 W)
      obtain ⟨okB, hok⟩ : ∃ b, Wh.ok (Rd.dec T) = b := ⟨_, rfl⟩
      rw [hok] at HRL
      have HOK := Aside0.mk hok
      clear hok
      go_cut [32] (fun s32 wr => s32 = .bool okB ∧ Aside0 (Below w13.heap.size w13 wr))
      case first =>
        as_aux_lemma =>
          go_region_with (first
            | (go_at_call 49; (refine (HRL.out _).mono ?_)
               rintro e w14 ⟨r0, r1, r2, r3, rfl, hb⟩
               first
                 | (have hq := Ww.boxA hb
                    have c0 := blk_cell hq.1 0
                    have c1 := blk_cell hq.1 1
                    have c2 := blk_cell hq.1 2
                    have c3 := blk_cell hq.1 3
                    have f0 := blk_frozen hq.1 0
                    have f1 := blk_frozen hq.1 1
                    have f2 := blk_frozen hq.1 2
                    have f3 := blk_frozen hq.1 3
                    have HQ := Aside0.mk hq.2
                    clear hq hb)
                 | (have hq := Ww.boxB hb
                    have c0 := blk_cell hq.1 0
                    have c1 := blk_cell hq.1 1
                    have c2 := blk_cell hq.1 2
                    have c3 := blk_cell hq.1 3
                    have f0 := blk_frozen hq.1 0
                    have f1 := blk_frozen hq.1 1
                    have f2 := blk_frozen hq.1 2
                    have f3 := blk_frozen hq.1 3
                    have HQ := Aside0.mk hq.2
                    clear hq hb)
                 | (have HQ := Aside0.mk (Ww.boxC hb)
                    clear hb)))
          all_goals (go_wp2_with fail; go_meet)
          all_goals first
            | exact ⟨rfl, ⟨below_alloc HQ.out _⟩⟩
            | exact ⟨rfl, ⟨Ww.four (b := w13.heap.size) (Nat.le_refl _) HQ.out⟩⟩
            | exact ⟨rfl, ⟨Ww.four (b := w13.heap.size + 1) (Nat.le_succ _) HQ.out⟩⟩
      case rest =>
        obtain ⟨rfl, HB14⟩ := hcut
        clear cv1 cv2 cv3 cv4 cv5 cv6 cv7 cv8 hmk hn1
        rename World => w14
        have T14 := Aside0.mk (Ww.t_below T12.out HB14.out)
        have RT14 := Aside0.mk (Kd.C_below RT12.out HB14.out)
        have RC14 := Aside0.mk (Kd.C_below RC12.out HB14.out)
        clear T12 RT12 RC12 HB14 HRL
        have cv1 := Ww.str (c := ct) RT14.out
        have cv2 := Ww.str (c := ct) (Kd.C_drew RT14.out)
        have cv3 := Ww.str (c := ch) RC14.out
        have cv4 := Ww.str (c := ch) (Kd.C_drew RC14.out)
        obtain ⟨eqB, heq⟩ : ∃ b, ((strOfNums T).toList == (strOfNums (Rc.enc ((i : Int) + 1) a1 a2 m)).toList) = b := ⟨_, rfl⟩
        obtain ⟨ppB, hpp⟩ : ∃ b, decide (0 < p) = b := ⟨_, rfl⟩
        have HEQ := Aside0.mk heq
        have HPP := Aside0.mk hpp
        go_upto_region 32 with (fail)
        go_cut [165] (fun s165 wr => s165 = .bool (okB && !eqB && ppB) ∧ Aside0 (Below w14.heap.size w14 wr))
        case first =>
          clear HEQ HPP HOK
          cases okB <;> cases eqB <;> cases ppB <;> (
            go_wp2_with fail
            go_meet
            exact ⟨rfl, ⟨Below.refl _ _⟩⟩)
        case rest =>
          obtain ⟨rfl, HB15⟩ := hcut
          clear cv1 cv2 cv3 cv4 RT14 RC14 heq hpp
          rename World => w15
          have T15 := Aside0.mk (Ww.t_below T14.out HB15.out)
          clear T14 HB15
          by_cases hc : (okB && !eqB && ppB) = true
          · rw [hc]
            go_wp2_with (first
              | (go_at_call 44; (refine (Kn.known _).mono ?_)
                 rintro e w16 ⟨rfl, hb⟩
                 have B16 := Aside0.mk (below_step T15.out.below hb)
                 clear hb))
            go_ret
            exact ⟨rfl, B16.out⟩
          · have hcut2 := hc
            rw [Bool.eq_false_iff.mpr hc]
            have HH := Aside0.mk (tore_held (p := p) ST.out (show Wf ((i : Int) + 1) a1 a2 m from ⟨by have := HKK.out; omega, HL.out.1, HL.out.2.1, HM.out.1⟩) HP.out (Ww.ways HT.out HTB.out.1 (enc_bytes ((i : Int) + 1) a1 a2 m) HP.out HOK.out HEQ.out HPP.out (Bool.eq_false_iff.mpr hc)))
            clear hc hcut2 HEQ HPP HOK
            by_cases h0 : 0 < i
            · have di : decide (0 < i) = true := decide_eq_true h0
              have di2 : decide (0 < (i : Int)) = true := decide_eq_true (by omega)
              have HFL := Aside0.mk (show fl ≤ m by have := EQ.out h0; have := HM.out.2; omega)
              have dm : decide (fl ≤ m) = true := decide_eq_true HFL.out
              have df : decide (fl ≤ fl) = true := decide_eq_true (Int.le_refl _)
              have e1 : ((i : Int) + 1 == (i : Int)) = false := beq_eq_false_iff_ne.mpr (by omega)
              clear h0 EQ
              rcases HH.out with H | H
              · as_aux_lemma =>
                have hv := held_val H.held
                rw [HVAL.out, di2] at hv
                simp only [Prod.mk.injEq] at hv
                obtain ⟨⟨rfl, rfl, rfl, rfl⟩, rfl⟩ := hv
                clear H HH HVAL HLD
                have N := T15.out.box _ (List.mem_cons_self)
                have Fx := T15.out.box _ (List.mem_cons_of_mem _ (List.mem_cons_self))
                have O := T15.out.box _ (List.mem_cons_of_mem _ (List.mem_cons_of_mem _ (List.mem_cons_of_mem _ (List.mem_cons_self))))
                have x0 := blk_cell N 0
                have y0 := blk_cell Fx 0
                have z0 := blk_cell O 0
                have x1 := blk_cell N 1
                have y1 := blk_cell Fx 1
                have z1 := blk_cell O 1
                have x2 := blk_cell N 2
                have y2 := blk_cell Fx 2
                have z2 := blk_cell O 2
                have x3 := blk_cell N 3
                have y3 := blk_cell Fx 3
                have z3 := blk_cell O 3
                clear N Fx O
                go_wp2_with (first
                  | (go_at_call 44; (refine (Kn.known _).mono ?_)
                     rintro e w16 ⟨rfl, hb⟩
                     have B16 := Aside0.mk (below_step T15.out.below hb)
                     clear hb))
                go_ret
                exact ⟨rfl, B16.out⟩
              · as_aux_lemma =>
                have hv := held_val H.held
                rw [HVAL.out, show decide (0 < (i : Int) + 1) = true from decide_eq_true (by omega)] at hv
                simp only [Prod.mk.injEq] at hv
                obtain ⟨⟨rfl, rfl, rfl, rfl⟩, rfl⟩ := hv
                clear H HH HVAL HLD
                have N := T15.out.box _ (List.mem_cons_self)
                have Fx := T15.out.box _ (List.mem_cons_of_mem _ (List.mem_cons_self))
                have O := T15.out.box _ (List.mem_cons_of_mem _ (List.mem_cons_of_mem _ (List.mem_cons_of_mem _ (List.mem_cons_self))))
                have x0 := blk_cell N 0
                have y0 := blk_cell Fx 0
                have z0 := blk_cell O 0
                have x1 := blk_cell N 1
                have y1 := blk_cell Fx 1
                have z1 := blk_cell O 1
                have x2 := blk_cell N 2
                have y2 := blk_cell Fx 2
                have z2 := blk_cell O 2
                have x3 := blk_cell N 3
                have y3 := blk_cell Fx 3
                have z3 := blk_cell O 3
                clear N Fx O
                go_wp2_with (first
                  | (go_at_call 44; (refine (Kn.known _).mono ?_)
                     rintro e w16 ⟨rfl, hb⟩
                     have B16 := Aside0.mk (below_step T15.out.below hb)
                     clear hb))
                go_ret
                exact ⟨rfl, B16.out⟩
            · have di : decide (0 < i) = false := decide_eq_false h0
              have di2 : decide (0 < (i : Int)) = false := decide_eq_false (by omega)
              have e1 : ((i : Int) + 1 == (i : Int)) = false := beq_eq_false_iff_ne.mpr (by omega)
              clear EQ
              rcases HH.out with H | H
              · as_aux_lemma =>
                have hv := held_val H.held
                rw [HVAL.out, di2] at hv
                simp only [Prod.mk.injEq] at hv
                obtain ⟨⟨rfl, rfl, rfl, rfl⟩, rfl⟩ := hv
                clear H HH HVAL HLD h0
                have N := T15.out.box _ (List.mem_cons_self)
                have Fx := T15.out.box _ (List.mem_cons_of_mem _ (List.mem_cons_self))
                have O := T15.out.box _ (List.mem_cons_of_mem _ (List.mem_cons_of_mem _ (List.mem_cons_of_mem _ (List.mem_cons_self))))
                have x0 := blk_cell N 0
                have y0 := blk_cell Fx 0
                have z0 := blk_cell O 0
                have x1 := blk_cell N 1
                have y1 := blk_cell Fx 1
                have z1 := blk_cell O 1
                have x2 := blk_cell N 2
                have y2 := blk_cell Fx 2
                have z2 := blk_cell O 2
                have x3 := blk_cell N 3
                have y3 := blk_cell Fx 3
                have z3 := blk_cell O 3
                clear N Fx O
                go_wp2_with (first
                  | (go_at_call 44; (refine (Kn.known _).mono ?_)
                     rintro e w16 ⟨rfl, hb⟩
                     have B16 := Aside0.mk (below_step T15.out.below hb)
                     clear hb))
                go_ret
                exact ⟨rfl, B16.out⟩
              · as_aux_lemma =>
                have hv := held_val H.held
                rw [HVAL.out, show decide (0 < (i : Int) + 1) = true from decide_eq_true (by omega)] at hv
                simp only [Prod.mk.injEq] at hv
                obtain ⟨⟨rfl, rfl, rfl, rfl⟩, rfl⟩ := hv
                clear H HH HVAL HLD h0
                have N := T15.out.box _ (List.mem_cons_self)
                have Fx := T15.out.box _ (List.mem_cons_of_mem _ (List.mem_cons_self))
                have O := T15.out.box _ (List.mem_cons_of_mem _ (List.mem_cons_of_mem _ (List.mem_cons_of_mem _ (List.mem_cons_self))))
                have x0 := blk_cell N 0
                have y0 := blk_cell Fx 0
                have z0 := blk_cell O 0
                have x1 := blk_cell N 1
                have y1 := blk_cell Fx 1
                have z1 := blk_cell O 1
                have x2 := blk_cell N 2
                have y2 := blk_cell Fx 2
                have z2 := blk_cell O 2
                have x3 := blk_cell N 3
                have y3 := blk_cell Fx 3
                have z3 := blk_cell O 3
                clear N Fx O
                go_wp2_with (first
                  | (go_at_call 44; (refine (Kn.known _).mono ?_)
                     rintro e w16 ⟨rfl, hb⟩
                     have B16 := Aside0.mk (below_step T15.out.below hb)
                     clear hb))
                go_ret
                exact ⟨rfl, B16.out⟩
set_option maxHeartbeats 1000000 in
set_option maxRecDepth 100000 in
theorem Ww.many (A : Option Addr) (n c : Nat) (a0 a1 a2 a3 p : Int) (w : World) (d1 : decide (30 < (n : Int)) = true) : Calls Try.prog 12 #[.slice A n c, .agg #[.int .u32 a0, .int .i64 a1, .int .i64 a2, .int .i64 a3], .int .i64 p] w fun e w' => e = .returned (.bool true) ∧ Below w.heap.size w w' := by
  have hu2 := Try.underlying24
  go_enter Try.func12, Try.ntmps12
  go_wp2_with (first
    | (go_at_call 30; (refine (Fs.new_at 128 _ (by decide)).mono ?_)
       rintro e w1 ⟨g, rfl, hg, hA, hb⟩
       have HB := Aside0.mk (below_step (below_alloc (Below.refl w.heap.size w) _) hb)
       clear hA hb hg)
    | (go_at_call 44; (refine (Kn.known _).mono ?_)
       rintro e w2 ⟨rfl, hb⟩
       have B2 := Aside0.mk (below_step HB.out hb)
       clear hb))
  go_ret
  exact ⟨rfl, B2.out⟩
set_option maxHeartbeats 1000000 in
set_option maxRecDepth 100000 in
theorem Ww.neg (A : Option Addr) (n c : Nat) (a0 a1 a2 a3 p : Int) (w : World) (d1 : decide (30 < (n : Int)) = false) (d2 : decide (p < 0) = true) : Calls Try.prog 12 #[.slice A n c, .agg #[.int .u32 a0, .int .i64 a1, .int .i64 a2, .int .i64 a3], .int .i64 p] w fun e w' => e = .returned (.bool true) ∧ Below w.heap.size w w' := by
  have hu2 := Try.underlying24
  go_enter Try.func12, Try.ntmps12
  go_wp2_with (first
    | (go_at_call 30; (refine (Fs.new_at 128 _ (by decide)).mono ?_)
       rintro e w1 ⟨g, rfl, hg, hA, hb⟩
       have HB := Aside0.mk (below_step (below_alloc (Below.refl w.heap.size w) _) hb)
       clear hA hb hg)
    | (go_at_call 44; (refine (Kn.known _).mono ?_)
       rintro e w2 ⟨rfl, hb⟩
       have B2 := Aside0.mk (below_step HB.out hb)
       clear hb))
  go_ret
  exact ⟨rfl, B2.out⟩
theorem Ww.slotsWhole (A : Option Addr) (c : Nat) (l : List S24) (a0 a1 a2 a3 p : Int) (w : World) (hC : Kd.C k24 w A l.length l) (hG : Ww.Good l) (hl : Ww.I64 a1 ∧ Ww.I64 a2 ∧ Ww.I64 a3) : Calls Try.prog 12 #[.slice A l.length c, .agg #[.int .u32 a0, .int .i64 a1, .int .i64 a2, .int .i64 a3], .int .i64 p] w fun e w' => e = .returned (.bool true) ∧ Below w.heap.size w w' := by
  by_cases h1 : (30 : Int) < (l.length : Int)
  · exact Ww.many A l.length c a0 a1 a2 a3 p w (decide_eq_true h1)
  · by_cases h2 : p < 0
    · exact Ww.neg A l.length c a0 a1 a2 a3 p w (decide_eq_false h1) (decide_eq_true h2)
    · exact Ww.walk A c l a0 a1 a2 a3 p w hC hG hl (by omega) (by omega)
theorem Ww.slotsWhole_walk (A : Option Addr) (c : Nat) (l : List S24) (a0 a1 a2 a3 p : Int) (w : World) (hC : Kd.C k24 w A l.length l) (hG : Ww.Good l) (w0 : (Lit.int .u32 a0).wf = true) (w1 : (Lit.int .i64 a1).wf = true) (w2 : (Lit.int .i64 a2).wf = true) (w3 : (Lit.int .i64 a3).wf = true) (w4 : (Lit.int .i64 p).wf = true) :
    Calls Try.prog 12 #[.slice A l.length c, .agg #[.int .u32 a0, .int .i64 a1, .int .i64 a2, .int .i64 a3], .int .i64 p] w fun e w' => e = .returned (.bool true) ∧ Below w.heap.size w w' :=
  Ww.slotsWhole A c l a0 a1 a2 a3 p w hC hG ⟨wf64 w1, wf64 w2, wf64 w3⟩
end Go.Proofs.Ytjldkgcabombhaa

/- Opening of an argument that is a slice of records: what it reads as, element by element (no condition but those that stand in the statements). -/
namespace Go.Proofs.Ytjldkgcabombhaa.Open
open Go.Joins Go.ChangeShapes Go.WideShapes Go.ChangeAt Go.RowKit Go.Deep Go.Proofs.Ytjldkgcabombhaa.QK Go.Proofs.YtjldkgcabombhaaW.PrintWords Go.Proofs.YtjldkgcabombhaaW.PrintLast Go.Proofs.YtjldkgcabombhaaW.PrintMore
variable {H : Type} {enc : TypeId × Value → H} {w : World} {base : Nat} {spare : Nat → Bool} {held : Bool}

/-- A struct of one-cell fields, out of its cells. -/
theorem flat_cells {P : Program} {t : TypeId} {fs : Array Field} {n : Nat} {cs : List Value} {y : DataW H × List MemPlace}
    (hs : P.underlying t = some (.struct fs)) (hone : oneCellFields P fs = true) (_hC : P.cellsOf t = fs.size) (hl : cs.length = fs.size)
    (h : DataW.trod enc P w base spare held n t cs = some y) :
    ∀ (j : Nat) (f : Field), fs[j]? = some f → ∃ (c : Value) (n : Nat) (y : DataW H × List MemPlace), cs[j]? = some c ∧ DataW.trod enc P w base spare held n f.type [c] = some y := by
  obtain ⟨xs, n, _, _, _, hlen, hg⟩ := DataW.trod_struct hs h
  intro j f hj
  obtain ⟨ho, hk⟩ := hone_of hone j f hj
  have hjl : j < fs.size := (Array.getElem?_eq_some_iff.1 hj).1
  have h1 := hg j f hj
  rw [ho, hk] at h1
  have h2 : (cs.drop j).take 1 = [cs[j]] := by
    rw [List.drop_eq_getElem_cons (by omega)]; rfl
  rw [h2, List.getElem?_eq_getElem (by omega)] at h1
  exact ⟨cs[j], n, _, List.getElem?_eq_getElem (by omega), h1⟩
/-- A record, out of its four cells. -/
theorem rec_cells {n : Nat} {cs : List Value} {y : DataW H × List MemPlace} (hl : cs.length = 4) (h : DataW.trod enc Try.prog w base spare held n 24 cs = some y) :
    ∃ x : S24, cs = [.int .u32 x.f0, .int .i64 x.f1, .int .i64 x.f2, .int .i64 x.f3] ∧ (0 ≤ x.f0 ∧ x.f0 < 4294967296) ∧ Ww.I64 x.f1 ∧ Ww.I64 x.f2 ∧ Ww.I64 x.f3 := by
  have hf := flat_cells Try.underlying24 (by kernel_rfl) (by kernel_rfl) hl h
  obtain ⟨c0, n0, y0, e0, t0⟩ := hf 0 _ rfl
  obtain ⟨a0, rfl, w0⟩ := int_cell Try.underlying22 t0
  obtain ⟨c1, n1, y1, e1, t1⟩ := hf 1 _ rfl
  obtain ⟨a1, rfl, w1⟩ := int_cell Try.underlying2 t1
  obtain ⟨c2, n2, y2, e2, t2⟩ := hf 2 _ rfl
  obtain ⟨a2, rfl, w2⟩ := int_cell Try.underlying2 t2
  obtain ⟨c3, n3, y3, e3, t3⟩ := hf 3 _ rfl
  obtain ⟨a3, rfl, w3⟩ := int_cell Try.underlying2 t3
  have h0 := bounds_u32 w0
  have h1 := bounds_i64 w1
  have h2 := bounds_i64 w2
  have h3 := bounds_i64 w3
  exact ⟨⟨a0, a1, a2, a3⟩, list_four hl e0 e1 e2 e3, ⟨h0.1, by have := h0.2; show a0 < 4294967296; omega⟩, ⟨h1.1, h1.2⟩, ⟨h2.1, h2.2⟩, ⟨h3.1, h3.2⟩⟩
theorem open_recs {t : TypeId} {A : Option Addr} {len cap : Nat} {d : DataW H} {p : List MemPlace} (ht : Try.prog.underlying t = some (.slice 24)) (h : DataW.Trod enc Try.prog w base spare held t (.slice A len cap) d p) :
    ∃ l : List S24, l.length = len ∧ Kd.C k24 w A len l ∧ Ww.Good l := by
  obtain ⟨fuel, hf⟩ := h
  rcases open_slice ht hf with ⟨hcs, _⟩ | ⟨a, l, c, m, n, D, Pl, hcs, hb, hl, hm, hmm, _, hel⟩
  · simp [Value.cells] at hcs
    obtain ⟨rfl, rfl, rfl⟩ := hcs
    exact ⟨[], rfl, ⟨rfl, by decide, fun h => absurd h (by decide)⟩, fun x hx => by cases hx⟩
  · simp [Value.cells] at hcs
    obtain ⟨rfl, rfl, rfl⟩ := hcs
    have hc4 : Try.prog.cellsOf 24 = 4 := by kernel_rfl
    have hlm : len ≤ m := by rw [hmm]; split <;> omega
    have hall : ∀ i, i < len → ∃ x : S24, (∀ j u, [Value.int .u32 x.f0, .int .i64 x.f1, .int .i64 x.f2, .int .i64 x.f3][j]? = some u → w.cell? (a.add (i * 4 + j)) = some u) ∧ Ww.I64 x.f1 ∧ Ww.I64 x.f2 ∧ Ww.I64 x.f3 := by
      intro i hi
      obtain ⟨cs', h1, h2⟩ := hel i (by omega)
      rw [hc4] at h1
      obtain ⟨_, hlen, hce⟩ := World.cells?_some h1
      obtain ⟨x, rfl, _, g1, g2, g3⟩ := rec_cells hlen h2
      refine ⟨x, fun j u hu => ?_, g1, g2, g3⟩
      have hj : j < 4 := (List.getElem?_eq_some_iff.1 hu).1
      rw [← Go.Deep.add_add, hce j hj, hu]
    haveI : Inhabited S24 := ⟨z24⟩
    obtain ⟨f, hfx⟩ := choose_lt hall
    refine ⟨(List.range len).map f, by simp, ⟨by simp, by unfold maxLen at hm; omega, fun _ => ⟨a, rfl, fun j x hx => ?_⟩⟩, fun x hx => ?_⟩
    · rw [List.getElem?_map] at hx
      have hj : j < len := by
        rcases Nat.lt_or_ge j len with h | h
        · exact h
        · rw [List.getElem?_eq_none (by simpa using h)] at hx; cases hx
      rw [List.getElem?_range hj] at hx
      obtain rfl : f j = x := by simpa using hx
      exact ⟨_, rfl, k24_mk w (f j), (hfx j hj).1⟩
    · obtain ⟨j, hj, rfl⟩ := List.mem_map.mp hx
      exact (hfx j (List.mem_range.mp hj)).2
end Go.Proofs.Ytjldkgcabombhaa.Open
