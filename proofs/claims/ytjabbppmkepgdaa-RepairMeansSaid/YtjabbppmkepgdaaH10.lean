/- repair.GPS walked by hand, third part: messages of UTC: the range over the seconds that a message may mean. -/
import Derived.Test.YtjabbppmkepgdaaProg
import Derived.Below
import Derived.Deep.Draws
import Derived.OwnWalk
import Derived.Tactics
import Derived.WalkKit
import Derived.WalkSpells
import Derived.WalkLawsBesides
import Derived.KernelRfl
import Derived.RowKit3
import Derived.Deep.LoopGhost
import Derived.Deep.QuietTactic
import Derived.BigQuiet
import Derived.WideLaws
import Derived.Deep.DeepCutAuto
import Derived.Deep.CutBlock
import Derived.Deep.RegionHeld3
import Derived.Lib.Hide
import Derived.IntWalk
import Derived.Outline
import Derived.Test.YtjabbppmkepgdaaWWords
import Derived.Test.YtjabbppmkepgdaaWLast
import Derived.Test.YtjabbppmkepgdaaWMore
import Derived.Test.YtjabbppmkepgdaaH9
namespace Go.Proofs.Ytjabbppmkepgdaa
open Go.RowKit Go.Shelf Go.Proofs.YtjabbppmkepgdaaW.PrintWords Go.Proofs.YtjabbppmkepgdaaW.PrintLast Go.Proofs.YtjabbppmkepgdaaW.PrintMore Go.Proofs.Ytjabbppmkepgdaa.QC Go.Proofs.Ytjabbppmkepgdaa.Pure
set_option linter.unusedVariables false
set_option linter.unusedSimpArgs false
attribute [local go_sem] Oper.semAt_some

theorem Rf.wpIn_range_set (p q : Tmp) {P : Program} {n : Nat} {g : Operand} {ps : Array Tmp} {assign body : Code} {Q : Exit → Act → World → Prop} {a : Act} {w : World} {gf : Nat} {lb : Array Value}
    (hg : a.eval g = .func (.func gf) #[] lb) (eg : ∀ args w, (callFunc gf args).run P w = .ok (.enter gf args) w) {xs : List Int} (hseq : Rf.Word (n - 1) P gf lb xs w) (hps : ps.size = 1)
    (I : List Int → World → Prop) (Ix : Unit → World → Prop) (hI : Rf.Stable w.heap.size I) (hIx : Rf.Stable w.heap.size Ix) (h0 : I [] w)
    (hassign : ∀ (l : Nat) (x : Int) (W : World) (K : Act → World → Prop), K { tmps := (a.tmps.setIfInBounds p (.int .i64 x)).setIfInBounds q (.int .i64 x), defers := [] } W →
      assign.wpIn (Fence.wide.inRound l) (n - 1 - 1) P (Exit.then K (fun _ _ _ => False)) { tmps := (ps.zip #[.int .i64 x]).foldl (fun t (p, v) => t.setIfInBounds p v) a.tmps, defers := [] } W)
    (hbody : ∀ (l : Nat) (pre : List Int) (x : Int) (W : World), w.heap.size ≤ W.heap.size → I pre W → pre ++ [x] <+: xs → body.wpIn (Fence.wide.inRound l) (n - 1 - 1) P (Rf.bodyEnds w.heap.size I Ix (pre ++ [x]) W) { tmps := (a.tmps.setIfInBounds p (.int .i64 x)).setIfInBounds q (.int .i64 x), defers := [] } W)
    (hdone : ∀ (W : World), w.heap.size < W.heap.size → I xs W → W.heap[w.heap.size]? = some (.deferred (some [])) → Q .normal { a with defers := { target := .collected w.heap.size, args := #[] } :: a.defers } W)
    (hstop : ∀ (W : World), w.heap.size < W.heap.size → Ix () W → W.heap[w.heap.size]? = some (.deferred (some [])) → Code.ret.wpIn Fence.wide n P Q { a with defers := { target := .collected w.heap.size, args := #[] } :: a.defers } W) :
    (Code.rangeFunc g ps assign body).wpIn Fence.wide n P Q a w :=
  Rf.wpIn_range hg eg hseq hps I Ix hI hIx h0 (fun x => { tmps := (a.tmps.setIfInBounds p (.int .i64 x)).setIfInBounds q (.int .i64 x), defers := [] }) hassign hbody hdone hstop

/-! ### The search -/
def Rp.gv (leap : Bool) (x : Int) : Int × Int := match leap with
  | true => Lp.gps (wrap64 (x + 1)) true
  | false => Lp.gps (wrap64 x) false
def Rp.hit (leap : Bool) (floor x : Int) : Bool := (Rp.gv leap x).2 == 0 && (decide (floor ≤ (Rp.gv leap x).1) && decide ((Rp.gv leap x).1 < wrap64 (floor + 619315200)))
def Rp.pick (leap : Bool) (floor : Int) : List Int → Int × Int
  | [] => (0, 7)
  | x :: t => if Rp.hit leap floor x = true then ((Rp.gv leap x).1, 0) else Rp.pick leap floor t
theorem Rp.pick_none (leap : Bool) (floor : Int) : ∀ xs : List Int, (∀ x ∈ xs, Rp.hit leap floor x = false) → Rp.pick leap floor xs = (0, 7)
  | [], _ => rfl
  | x :: t, h => by
    rw [Rp.pick, h x (List.mem_cons_self ..), if_neg (by decide)]
    exact Rp.pick_none leap floor t (fun y hy => h y (List.mem_cons_of_mem _ hy))
theorem Rp.pick_hit (leap : Bool) (floor x : Int) (t : List Int) : ∀ pre : List Int, (∀ y ∈ pre, Rp.hit leap floor y = false) → Rp.hit leap floor x = true → Rp.pick leap floor (pre ++ x :: t) = ((Rp.gv leap x).1, 0)
  | [], _, hx => by rw [List.nil_append, Rp.pick, if_pos hx]
  | y :: pre, h, hx => by
    rw [List.cons_append, Rp.pick, h y (List.mem_cons_self ..), if_neg (by decide)]
    exact Rp.pick_hit leap floor x t pre (fun z hz => h z (List.mem_cons_of_mem _ hz)) hx

theorem Rp.set_size (w W : World) (a b : Addr) (u v : Value) (h : W.heap.size ≤ w.heap.size) : W.heap.size ≤ ((w.setCell a u).setCell b v).heap.size := by simpa [World.setCell] using h
theorem Rp.leave (fn : Func) (hfn : fn.results = #[.cell 4 2, .cell 5 22]) (w W : World) (D : Nat) (tmps : Array Value) (v4 v5 : Int) (ht4 : tmps.getD 4 undef = .pointer (some ⟨w.heap.size + 1 + 1, 0, none⟩)) (ht5 : tmps.getD 5 undef = .pointer (some ⟨w.heap.size + 1 + 1 + 1, 0, none⟩))
    (h4 : W.heap[w.heap.size + 1 + 1]? = some (.cells #[.int .i64 v4] 2 (0, 0))) (h5 : W.heap[w.heap.size + 1 + 1 + 1]? = some (.cells #[.int .i64 v5] 22 (0, 0))) (hB : Below w.heap.size w W) (hD : W.heap[D]? = some (.deferred (some []))) (hlt : w.heap.size + 1 + 1 + 1 < D) :
    bodyPostM Fence.wide 3 Try.prog fn (fun e w' => e = .returned (.tuple #[.int .i64 v4, .int .i64 v5]) ∧ Below w.heap.size w w') .ret { tmps := tmps, defers := [{ target := .collected D, args := #[] }] } W := by
  have hl := blk_lt hD
  have g4 : (W.putObj D (.deferred none)).heap[w.heap.size + 1 + 1]? = some (.cells #[.int .i64 v4] 2 (0, 0)) := (World.putObj_heap_other (by omega)).trans h4
  have g5 : (W.putObj D (.deferred none)).heap[w.heap.size + 1 + 1 + 1]? = some (.cells #[.int .i64 v5] 22 (0, 0)) := (World.putObj_heap_other (by omega)).trans h5
  refine ⟨by simp, .inl ⟨_, _, rfl, run_takeDeferred hD, ?_⟩⟩
  exact ⟨_, Rp.res fn hfn tmps _ _ _ v4 v5 ht4 ht5 ((blk_cell g4 0).trans rfl) ((blk_cell g5 0).trans rfl), rfl, hB.trans (Rf.below_put _ (by omega) hl)⟩
theorem Rp.five (w : World) (o1 o2 o3 o4 o5 : Obj) : (((((w.alloc o1).alloc o2).alloc o3).alloc o4).alloc o5).heap[w.heap.size]? = some o1 ∧ (((((w.alloc o1).alloc o2).alloc o3).alloc o4).alloc o5).heap[w.heap.size + 1]? = some o2 ∧
    (((((w.alloc o1).alloc o2).alloc o3).alloc o4).alloc o5).heap[w.heap.size + 1 + 1]? = some o3 ∧ (((((w.alloc o1).alloc o2).alloc o3).alloc o4).alloc o5).heap[w.heap.size + 1 + 1 + 1]? = some o4 ∧
    (((((w.alloc o1).alloc o2).alloc o3).alloc o4).alloc o5).heap[w.heap.size + 1 + 1 + 1 + 1]? = some o5 ∧ Below w.heap.size w (((((w.alloc o1).alloc o2).alloc o3).alloc o4).alloc o5) := by
  have e1 : (w.alloc o1).heap.size = w.heap.size + 1 := World.size_alloc ..
  have e2 : ((w.alloc o1).alloc o2).heap.size = w.heap.size + 1 + 1 := by rw [World.size_alloc, World.size_alloc]
  have e3 : (((w.alloc o1).alloc o2).alloc o3).heap.size = w.heap.size + 1 + 1 + 1 := by rw [World.size_alloc, e2]
  have e4 : ((((w.alloc o1).alloc o2).alloc o3).alloc o4).heap.size = w.heap.size + 1 + 1 + 1 + 1 := by rw [World.size_alloc, e3]
  have h2 := blk_alloc (blk_alloc (blk_alloc (blk_new (w.alloc o1) o2) o3) o4) o5
  have h3 := blk_alloc (blk_alloc (blk_new ((w.alloc o1).alloc o2) o3) o4) o5
  have h4 := blk_alloc (blk_new (((w.alloc o1).alloc o2).alloc o3) o4) o5
  have h5 := blk_new ((((w.alloc o1).alloc o2).alloc o3).alloc o4) o5
  rw [e1] at h2
  rw [e2] at h3
  rw [e3] at h4
  rw [e4] at h5
  exact ⟨blk_alloc (blk_alloc (blk_alloc (blk_alloc (blk_new w o1) o2) o3) o4) o5, h2, h3, h4, h5, below_alloc (below_alloc (below_alloc (below_alloc (below_alloc (Below.refl _ _) _) _) _) _) _⟩

set_option maxHeartbeats 8000000 in
set_option maxRecDepth 100000 in
theorem Rp.main_0f (kind : Int) (sec : Int) (nxt : Bool) (floor : Int) (w : World) (k1 : decide (floor < 0) = false) (k2 : decide (6000000000 < floor) = false) (k3 : decide (sec < -1099511627776) = false) (k4 : decide (1099511627776 < sec) = false) (xs : List Int) (HXS : Aside0 (xs = Rp.three floor sec)) (r1 r2 : Int) (HR : Aside0 (Rp.pick false floor xs = (r1, r2))) :
    Calls Try.prog 45 #[.agg #[.int .u8 kind, .bool true, .int .i64 sec, .bool false, .int .i64 0, .bool nxt], .int .i64 floor] w fun e w' => e = .returned (.tuple #[.int .i64 r1, .int .i64 r2]) ∧ Below w.heap.size w w' := by
  have hu61 := Try.underlying61
  refine (callsIn_wide (n := 3)).1 ?_
  refine callsIn_of_wp_marks Try.func45 rfl trivial ?_ rfl
  simp only [Try.ntmps45, List.size_toArray, List.length_cons, List.length_nil, Nat.reduceAdd, Nat.reduceSub, Array.replicate_succ, Array.replicate_zero, List.push_toArray, List.append_toArray, List.nil_append, List.cons_append]
  gi_wp2_with (refine ⟨trivial, ?_⟩; gi_at_call 65; (refine (callsIn_wide.2 (Rp.meant_calls kind true sec false 0 nxt floor _ rfl)).mono ?_); rintro e wm ⟨⟨bf, bm, rfl, hc, hc2⟩, hb⟩
               have HC := Aside0.mk hc
               have HC2 := Aside0.mk hc2; clear hc2
               have HB := Aside0.mk hb
               have HM := Aside0.mk (blk_below (Rp.five w (.cells #[.int .u8 kind, .bool true, .int .i64 sec, .bool false, .int .i64 0, .bool nxt] 61 (0, 0)) (.cells #[.int .i64 floor] 2 (0, 0)) (.cells #[.int .i64 0] 2 (0, 0)) (.cells #[.int .i64 0] 22 (0, 0)) (.cells #[.int .i64 0] 2 (0, 0))).1 hb)
               have HF := Aside0.mk (blk_below (Rp.five w (.cells #[.int .u8 kind, .bool true, .int .i64 sec, .bool false, .int .i64 0, .bool nxt] 61 (0, 0)) (.cells #[.int .i64 floor] 2 (0, 0)) (.cells #[.int .i64 0] 2 (0, 0)) (.cells #[.int .i64 0] 22 (0, 0)) (.cells #[.int .i64 0] 2 (0, 0))).2.1 hb)
               have H4 := Aside0.mk (blk_below (Rp.five w (.cells #[.int .u8 kind, .bool true, .int .i64 sec, .bool false, .int .i64 0, .bool nxt] 61 (0, 0)) (.cells #[.int .i64 floor] 2 (0, 0)) (.cells #[.int .i64 0] 2 (0, 0)) (.cells #[.int .i64 0] 22 (0, 0)) (.cells #[.int .i64 0] 2 (0, 0))).2.2.1 hb)
               have H5 := Aside0.mk (blk_below (Rp.five w (.cells #[.int .u8 kind, .bool true, .int .i64 sec, .bool false, .int .i64 0, .bool nxt] 61 (0, 0)) (.cells #[.int .i64 floor] 2 (0, 0)) (.cells #[.int .i64 0] 2 (0, 0)) (.cells #[.int .i64 0] 22 (0, 0)) (.cells #[.int .i64 0] 2 (0, 0))).2.2.2.1 hb)
               have H6 := Aside0.mk (blk_below (Rp.five w (.cells #[.int .u8 kind, .bool true, .int .i64 sec, .bool false, .int .i64 0, .bool nxt] 61 (0, 0)) (.cells #[.int .i64 floor] 2 (0, 0)) (.cells #[.int .i64 0] 2 (0, 0)) (.cells #[.int .i64 0] 22 (0, 0)) (.cells #[.int .i64 0] 2 (0, 0))).2.2.2.2.1 hb)
               have HW := Aside0.mk (below_then (Rp.five w (.cells #[.int .u8 kind, .bool true, .int .i64 sec, .bool false, .int .i64 0, .bool nxt] 61 (0, 0)) (.cells #[.int .i64 floor] 2 (0, 0)) (.cells #[.int .i64 0] 2 (0, 0)) (.cells #[.int .i64 0] 22 (0, 0)) (.cells #[.int .i64 0] 2 (0, 0))).2.2.2.2.2 (Rp.five w (.cells #[.int .u8 kind, .bool true, .int .i64 sec, .bool false, .int .i64 0, .bool nxt] 61 (0, 0)) (.cells #[.int .i64 floor] 2 (0, 0)) (.cells #[.int .i64 0] 2 (0, 0)) (.cells #[.int .i64 0] 22 (0, 0)) (.cells #[.int .i64 0] 2 (0, 0))).2.2.2.2.2.size hb)
               clear hc hb)
  have hz : w.heap.size + 1 + 1 + 1 + 1 < wm.heap.size := blk_lt H6.out
  have HZ := Aside0.mk hz
  refine Rf.wpIn_range_set 73 9 (gf := 78) (lb := #[.pointer (some ⟨bf, 0, none⟩), .pointer (some ⟨bm, 0, none⟩)]) rfl (enters_of Try.func78 (by kernel_rfl) rfl) (xs := xs) (by rw [HXS.out]; exact Rp.meant_word _ bf bm floor sec _ HC.out HC2.out) rfl
    (fun pre W => (∀ y ∈ pre, Rp.hit false floor y = false) ∧ W.heap[w.heap.size]? = some (.cells #[.int .u8 kind, .bool true, .int .i64 sec, .bool false, .int .i64 0, .bool nxt] 61 (0, 0)) ∧ W.heap[w.heap.size + 1]? = some (.cells #[.int .i64 floor] 2 (0, 0)) ∧ W.heap[w.heap.size + 1 + 1]? = some (.cells #[.int .i64 0] 2 (0, 0)) ∧ W.heap[w.heap.size + 1 + 1 + 1]? = some (.cells #[.int .i64 0] 22 (0, 0)) ∧ W.heap[w.heap.size + 1 + 1 + 1 + 1]? = some (.cells #[.int .i64 0] 2 (0, 0)) ∧ Below w.heap.size w W)
    (fun _ W => ∃ g : Int, Rp.pick false floor xs = (g, 0) ∧ W.heap[w.heap.size + 1 + 1]? = some (.cells #[.int .i64 g] 2 (0, 0)) ∧ W.heap[w.heap.size + 1 + 1 + 1]? = some (.cells #[.int .i64 0] 22 (0, 0)) ∧ Below w.heap.size w W)
    ?hI ?hIx ?h0 ?assign ?body ?done ?stop
  case hI => exact fun s A B hs hb => ⟨hs.1, (hb.block _ (by omega)).trans hs.2.1, (hb.block _ (by omega)).trans hs.2.2.1, (hb.block _ (by omega)).trans hs.2.2.2.1, (hb.block _ (by omega)).trans hs.2.2.2.2.1, (hb.block _ (by omega)).trans hs.2.2.2.2.2.1, hs.2.2.2.2.2.2.trans (hb.mono (by omega))⟩
  case hIx =>
    rintro s A B ⟨g, h1, h2, h3, h4⟩ hb
    exact ⟨g, h1, (hb.block _ (by omega)).trans h2, (hb.block _ (by omega)).trans h3, h4.trans (hb.mono (by omega))⟩
  case h0 => exact ⟨fun _ h => absurd h (by simp), HM.out, HF.out, H4.out, H5.out, H6.out, HW.out⟩
  case assign =>
    intro l x W K hK
    gi_wp2
    exact hK
  case body =>
    rintro l pre x W hs ⟨hp, hM, hF, h4, h5, h6, hB⟩ hpre
    have HP := Aside0.mk hp
    have HM' := Aside0.mk hM
    have HF' := Aside0.mk hF
    have H4' := Aside0.mk h4
    have H5' := Aside0.mk h5
    have H6' := Aside0.mk h6
    have HB' := Aside0.mk hB
    have HPRE := Aside0.mk hpre
    have c2 := (blk_cell hM 3).trans (b := some (Value.bool false)) rfl
    have c3 := (blk_cell hF 0).trans (b := some (Value.int .i64 floor)) rfl
    have c6 := (blk_cell h6 0).trans (b := some (Value.int .i64 0)) rfl
    clear hp hM hF h4 h5 h6 hB hpre
    have HS := Aside0.mk hs
    clear hs
    obtain ⟨g, er, hg⟩ : ∃ g er, Rp.gv false x = (g, er) := ⟨_, _, rfl⟩
    have HG : Aside0 (leap_GPS.f (wrap64 x) false = some (g, er)) := ⟨congrArg some hg⟩
    have HGV := Aside0.mk hg
    clear hg
    by_cases her : er = 0
    · subst her
      by_cases hlo : floor ≤ g
      · by_cases hhi : g < wrap64 (floor + 619315200)
        · have HH : Aside0 (Rp.hit false floor x = true) := ⟨by unfold Rp.hit; rw [HGV.out]; simp [hlo, hhi]⟩
          have d2 : decide (floor ≤ g) = true := decide_eq_true hlo
          have d3 : decide (g < wrap64 (floor + 619315200)) = true := decide_eq_true hhi
          clear hlo hhi
          gi_wp2_with (refine ⟨trivial, ?_⟩; gi_at_call 37; (refine (CallsIn.inRound l (callsIn_wide.2 (leap_GPS.calls (wrap64 x) false g 0 _ HG.out))).mono ?_); rintro e w6 ⟨rfl, hb6⟩; have KM := Aside0.mk (blk_below HM'.out hb6); have KF := Aside0.mk (blk_below HF'.out hb6); have K4 := Aside0.mk (blk_below H4'.out hb6); have K5 := Aside0.mk (blk_below H5'.out hb6); have K6 := Aside0.mk (blk_below H6'.out hb6); have KB := Aside0.mk (hb6); clear hb6 c2 c3 c6; have c3 := (blk_cell KF.out 0).trans (b := some (Value.int .i64 floor)) rfl; have c4 := blk_cell K4.out 0; have f4 := blk_frozen K4.out 0; have c5 := blk_cell K5.out 0; have f5 := blk_frozen K5.out 0)
          obtain ⟨t, ht⟩ := HPRE.out
          have g4 := blk_far (blk_put K4.out 0 (.int .i64 g) rfl) (p := ⟨w.heap.size + 1 + 1 + 1, 0, none⟩) (show w.heap.size + 1 + 1 ≠ w.heap.size + 1 + 1 + 1 by omega) (.int .i64 0)
          have g5 := blk_put (blk_far K5.out (p := ⟨w.heap.size + 1 + 1, 0, none⟩) (show w.heap.size + 1 + 1 + 1 ≠ w.heap.size + 1 + 1 by omega) (.int .i64 g)) 0 (.int .i64 0) rfl
          exact ⟨Rp.set_size _ _ _ _ _ _ KB.out.size, fun k q1 q2 => ((Below.heap_setCell _ _ _ k (show k ≠ w.heap.size + 1 + 1 + 1 by have := HZ.out; omega)).trans (Below.heap_setCell _ _ _ k (show k ≠ w.heap.size + 1 + 1 by have := HZ.out; omega))).trans (KB.out.block k q2),
            g, by rw [← ht]; have := Rp.pick_hit false floor x t pre HP.out HH.out; rw [HGV.out] at this; simpa using this, g4, g5,
            ((below_then HB'.out HB'.out.size KB.out).setCell (p := ⟨w.heap.size + 1 + 1, 0, none⟩) (by show w.heap.size ≤ w.heap.size + 1 + 1; omega) _).setCell (p := ⟨w.heap.size + 1 + 1 + 1, 0, none⟩) (by show w.heap.size ≤ w.heap.size + 1 + 1 + 1; omega) _⟩
        · have HH : Aside0 (Rp.hit false floor x = false) := ⟨by unfold Rp.hit; rw [HGV.out]; simp [hhi]⟩
          have d2 : decide (floor ≤ g) = true := decide_eq_true hlo
          have d3 : decide (g < wrap64 (floor + 619315200)) = false := decide_eq_false hhi
          clear hlo hhi
          gi_wp2_with (refine ⟨trivial, ?_⟩; gi_at_call 37; (refine (CallsIn.inRound l (callsIn_wide.2 (leap_GPS.calls (wrap64 x) false g 0 _ HG.out))).mono ?_); rintro e w6 ⟨rfl, hb6⟩; have KM := Aside0.mk (blk_below HM'.out hb6); have KF := Aside0.mk (blk_below HF'.out hb6); have K4 := Aside0.mk (blk_below H4'.out hb6); have K5 := Aside0.mk (blk_below H5'.out hb6); have K6 := Aside0.mk (blk_below H6'.out hb6); have KB := Aside0.mk (hb6); clear hb6 c2 c3 c6; have c3 := (blk_cell KF.out 0).trans (b := some (Value.int .i64 floor)) rfl; have c4 := blk_cell K4.out 0; have f4 := blk_frozen K4.out 0; have c5 := blk_cell K5.out 0; have f5 := blk_frozen K5.out 0)
          exact ⟨KB.out, ⟨by
            intro y hy
            rcases List.mem_append.mp hy with hy | hy
            · exact HP.out y hy
            · obtain rfl : y = x := by simpa using hy
              exact HH.out, KM.out, KF.out, K4.out, K5.out, K6.out, below_then HB'.out HB'.out.size KB.out⟩⟩
      · have HH : Aside0 (Rp.hit false floor x = false) := ⟨by unfold Rp.hit; rw [HGV.out]; simp [hlo]⟩
        have d2 : decide (floor ≤ g) = false := decide_eq_false hlo
        clear hlo
        gi_wp2_with (refine ⟨trivial, ?_⟩; gi_at_call 37; (refine (CallsIn.inRound l (callsIn_wide.2 (leap_GPS.calls (wrap64 x) false g 0 _ HG.out))).mono ?_); rintro e w6 ⟨rfl, hb6⟩; have KM := Aside0.mk (blk_below HM'.out hb6); have KF := Aside0.mk (blk_below HF'.out hb6); have K4 := Aside0.mk (blk_below H4'.out hb6); have K5 := Aside0.mk (blk_below H5'.out hb6); have K6 := Aside0.mk (blk_below H6'.out hb6); have KB := Aside0.mk (hb6); clear hb6 c2 c3 c6; have c3 := (blk_cell KF.out 0).trans (b := some (Value.int .i64 floor)) rfl; have c4 := blk_cell K4.out 0; have f4 := blk_frozen K4.out 0; have c5 := blk_cell K5.out 0; have f5 := blk_frozen K5.out 0)
        exact ⟨KB.out, ⟨by
            intro y hy
            rcases List.mem_append.mp hy with hy | hy
            · exact HP.out y hy
            · obtain rfl : y = x := by simpa using hy
              exact HH.out, KM.out, KF.out, K4.out, K5.out, K6.out, below_then HB'.out HB'.out.size KB.out⟩⟩
    · have HH : Aside0 (Rp.hit false floor x = false) := ⟨by unfold Rp.hit; rw [HGV.out]; simp [her]⟩
      have d1 : (er == 0) = false := beq_eq_false_iff_ne.mpr her
      clear her
      gi_wp2_with (refine ⟨trivial, ?_⟩; gi_at_call 37; (refine (CallsIn.inRound l (callsIn_wide.2 (leap_GPS.calls (wrap64 x) false g er _ HG.out))).mono ?_); rintro e w6 ⟨rfl, hb6⟩; have KM := Aside0.mk (blk_below HM'.out hb6); have KF := Aside0.mk (blk_below HF'.out hb6); have K4 := Aside0.mk (blk_below H4'.out hb6); have K5 := Aside0.mk (blk_below H5'.out hb6); have K6 := Aside0.mk (blk_below H6'.out hb6); have KB := Aside0.mk (hb6); clear hb6 c2 c3 c6; have c3 := (blk_cell KF.out 0).trans (b := some (Value.int .i64 floor)) rfl; have c4 := blk_cell K4.out 0; have f4 := blk_frozen K4.out 0; have c5 := blk_cell K5.out 0; have f5 := blk_frozen K5.out 0)
      exact ⟨KB.out, ⟨by
            intro y hy
            rcases List.mem_append.mp hy with hy | hy
            · exact HP.out y hy
            · obtain rfl : y = x := by simpa using hy
              exact HH.out, KM.out, KF.out, K4.out, K5.out, K6.out, below_then HB'.out HB'.out.size KB.out⟩⟩
  case done =>
    intro W hs hI hD
    obtain ⟨hp, hM, hF, h4, h5, h6, hB⟩ := hI
    have HP := Aside0.mk hp
    have H4' := Aside0.mk h4
    have H5' := Aside0.mk h5
    have HB' := Aside0.mk hB
    have HD := Aside0.mk hD
    have c4 := blk_cell h4 0
    have f4 := blk_frozen h4 0
    have c5 := blk_cell h5 0
    have f5 := blk_frozen h5 0
    clear hp hM hF h4 h5 h6 hB hD
    gi_wp2
    have HRR := HR.out
    rw [Rp.pick_none false floor xs HP.out] at HRR
    obtain ⟨e1, e2⟩ := Prod.mk.inj HRR
    subst e1 e2
    have g4 := blk_far (blk_put H4'.out 0 (.int .i64 0) rfl) (p := ⟨w.heap.size + 1 + 1 + 1, 0, none⟩) (show w.heap.size + 1 + 1 ≠ w.heap.size + 1 + 1 + 1 by omega) (.int .i64 7)
    have g5 := blk_put (blk_far H5'.out (p := ⟨w.heap.size + 1 + 1, 0, none⟩) (show w.heap.size + 1 + 1 + 1 ≠ w.heap.size + 1 + 1 by omega) (.int .i64 0)) 0 (.int .i64 7) rfl
    refine Rp.leave _ rfl w _ wm.heap.size _ 0 7 rfl rfl g4 g5 ((HB'.out.setCell (p := ⟨w.heap.size + 1 + 1, 0, none⟩) (by show w.heap.size ≤ w.heap.size + 1 + 1; omega) _).setCell (p := ⟨w.heap.size + 1 + 1 + 1, 0, none⟩) (by show w.heap.size ≤ w.heap.size + 1 + 1 + 1; omega) _) ?_ (by have := HZ.out; omega)
    exact ((Below.heap_setCell _ _ _ wm.heap.size (show wm.heap.size ≠ w.heap.size + 1 + 1 + 1 by have := HZ.out; omega)).trans (Below.heap_setCell _ _ _ wm.heap.size (show wm.heap.size ≠ w.heap.size + 1 + 1 by have := HZ.out; omega))).trans HD.out
  case stop =>
    intro W hs hI hD
    obtain ⟨g, hg, h4, h5, hB⟩ := hI
    have HG := Aside0.mk hg
    have H4' := Aside0.mk h4
    have H5' := Aside0.mk h5
    have HB' := Aside0.mk hB
    have HD := Aside0.mk hD
    clear hg h4 h5 hB hD
    gi_wp2
    have HRR := HR.out
    rw [HG.out] at HRR
    obtain ⟨e1, e2⟩ := Prod.mk.inj HRR
    subst e1 e2
    exact Rp.leave _ rfl w _ wm.heap.size _ g 0 rfl rfl H4'.out H5'.out HB'.out HD.out (by have := HZ.out; omega)

set_option maxHeartbeats 8000000 in
set_option maxRecDepth 100000 in
theorem Rp.main_0t (kind : Int) (sec : Int) (nxt : Bool) (floor : Int) (w : World) (k1 : decide (floor < 0) = false) (k2 : decide (6000000000 < floor) = false) (k3 : decide (sec < -1099511627776) = false) (k4 : decide (1099511627776 < sec) = false) (xs : List Int) (HXS : Aside0 (xs = Rp.three floor sec)) (r1 r2 : Int) (HR : Aside0 (Rp.pick true floor xs = (r1, r2))) :
    Calls Try.prog 45 #[.agg #[.int .u8 kind, .bool true, .int .i64 sec, .bool true, .int .i64 0, .bool nxt], .int .i64 floor] w fun e w' => e = .returned (.tuple #[.int .i64 r1, .int .i64 r2]) ∧ Below w.heap.size w w' := by
  have hu61 := Try.underlying61
  refine (callsIn_wide (n := 3)).1 ?_
  refine callsIn_of_wp_marks Try.func45 rfl trivial ?_ rfl
  simp only [Try.ntmps45, List.size_toArray, List.length_cons, List.length_nil, Nat.reduceAdd, Nat.reduceSub, Array.replicate_succ, Array.replicate_zero, List.push_toArray, List.append_toArray, List.nil_append, List.cons_append]
  gi_wp2_with (refine ⟨trivial, ?_⟩; gi_at_call 65; (refine (callsIn_wide.2 (Rp.meant_calls kind true sec true 0 nxt floor _ rfl)).mono ?_); rintro e wm ⟨⟨bf, bm, rfl, hc, hc2⟩, hb⟩
               have HC := Aside0.mk hc
               have HC2 := Aside0.mk hc2; clear hc2
               have HB := Aside0.mk hb
               have HM := Aside0.mk (blk_below (Rp.five w (.cells #[.int .u8 kind, .bool true, .int .i64 sec, .bool true, .int .i64 0, .bool nxt] 61 (0, 0)) (.cells #[.int .i64 floor] 2 (0, 0)) (.cells #[.int .i64 0] 2 (0, 0)) (.cells #[.int .i64 0] 22 (0, 0)) (.cells #[.int .i64 1] 2 (0, 0))).1 hb)
               have HF := Aside0.mk (blk_below (Rp.five w (.cells #[.int .u8 kind, .bool true, .int .i64 sec, .bool true, .int .i64 0, .bool nxt] 61 (0, 0)) (.cells #[.int .i64 floor] 2 (0, 0)) (.cells #[.int .i64 0] 2 (0, 0)) (.cells #[.int .i64 0] 22 (0, 0)) (.cells #[.int .i64 1] 2 (0, 0))).2.1 hb)
               have H4 := Aside0.mk (blk_below (Rp.five w (.cells #[.int .u8 kind, .bool true, .int .i64 sec, .bool true, .int .i64 0, .bool nxt] 61 (0, 0)) (.cells #[.int .i64 floor] 2 (0, 0)) (.cells #[.int .i64 0] 2 (0, 0)) (.cells #[.int .i64 0] 22 (0, 0)) (.cells #[.int .i64 1] 2 (0, 0))).2.2.1 hb)
               have H5 := Aside0.mk (blk_below (Rp.five w (.cells #[.int .u8 kind, .bool true, .int .i64 sec, .bool true, .int .i64 0, .bool nxt] 61 (0, 0)) (.cells #[.int .i64 floor] 2 (0, 0)) (.cells #[.int .i64 0] 2 (0, 0)) (.cells #[.int .i64 0] 22 (0, 0)) (.cells #[.int .i64 1] 2 (0, 0))).2.2.2.1 hb)
               have H6 := Aside0.mk (blk_below (Rp.five w (.cells #[.int .u8 kind, .bool true, .int .i64 sec, .bool true, .int .i64 0, .bool nxt] 61 (0, 0)) (.cells #[.int .i64 floor] 2 (0, 0)) (.cells #[.int .i64 0] 2 (0, 0)) (.cells #[.int .i64 0] 22 (0, 0)) (.cells #[.int .i64 1] 2 (0, 0))).2.2.2.2.1 hb)
               have HW := Aside0.mk (below_then (Rp.five w (.cells #[.int .u8 kind, .bool true, .int .i64 sec, .bool true, .int .i64 0, .bool nxt] 61 (0, 0)) (.cells #[.int .i64 floor] 2 (0, 0)) (.cells #[.int .i64 0] 2 (0, 0)) (.cells #[.int .i64 0] 22 (0, 0)) (.cells #[.int .i64 1] 2 (0, 0))).2.2.2.2.2 (Rp.five w (.cells #[.int .u8 kind, .bool true, .int .i64 sec, .bool true, .int .i64 0, .bool nxt] 61 (0, 0)) (.cells #[.int .i64 floor] 2 (0, 0)) (.cells #[.int .i64 0] 2 (0, 0)) (.cells #[.int .i64 0] 22 (0, 0)) (.cells #[.int .i64 1] 2 (0, 0))).2.2.2.2.2.size hb)
               clear hc hb)
  have hz : w.heap.size + 1 + 1 + 1 + 1 < wm.heap.size := blk_lt H6.out
  have HZ := Aside0.mk hz
  refine Rf.wpIn_range_set 73 9 (gf := 78) (lb := #[.pointer (some ⟨bf, 0, none⟩), .pointer (some ⟨bm, 0, none⟩)]) rfl (enters_of Try.func78 (by kernel_rfl) rfl) (xs := xs) (by rw [HXS.out]; exact Rp.meant_word _ bf bm floor sec _ HC.out HC2.out) rfl
    (fun pre W => (∀ y ∈ pre, Rp.hit true floor y = false) ∧ W.heap[w.heap.size]? = some (.cells #[.int .u8 kind, .bool true, .int .i64 sec, .bool true, .int .i64 0, .bool nxt] 61 (0, 0)) ∧ W.heap[w.heap.size + 1]? = some (.cells #[.int .i64 floor] 2 (0, 0)) ∧ W.heap[w.heap.size + 1 + 1]? = some (.cells #[.int .i64 0] 2 (0, 0)) ∧ W.heap[w.heap.size + 1 + 1 + 1]? = some (.cells #[.int .i64 0] 22 (0, 0)) ∧ W.heap[w.heap.size + 1 + 1 + 1 + 1]? = some (.cells #[.int .i64 1] 2 (0, 0)) ∧ Below w.heap.size w W)
    (fun _ W => ∃ g : Int, Rp.pick true floor xs = (g, 0) ∧ W.heap[w.heap.size + 1 + 1]? = some (.cells #[.int .i64 g] 2 (0, 0)) ∧ W.heap[w.heap.size + 1 + 1 + 1]? = some (.cells #[.int .i64 0] 22 (0, 0)) ∧ Below w.heap.size w W)
    ?hI ?hIx ?h0 ?assign ?body ?done ?stop
  case hI => exact fun s A B hs hb => ⟨hs.1, (hb.block _ (by omega)).trans hs.2.1, (hb.block _ (by omega)).trans hs.2.2.1, (hb.block _ (by omega)).trans hs.2.2.2.1, (hb.block _ (by omega)).trans hs.2.2.2.2.1, (hb.block _ (by omega)).trans hs.2.2.2.2.2.1, hs.2.2.2.2.2.2.trans (hb.mono (by omega))⟩
  case hIx =>
    rintro s A B ⟨g, h1, h2, h3, h4⟩ hb
    exact ⟨g, h1, (hb.block _ (by omega)).trans h2, (hb.block _ (by omega)).trans h3, h4.trans (hb.mono (by omega))⟩
  case h0 => exact ⟨fun _ h => absurd h (by simp), HM.out, HF.out, H4.out, H5.out, H6.out, HW.out⟩
  case assign =>
    intro l x W K hK
    gi_wp2
    exact hK
  case body =>
    rintro l pre x W hs ⟨hp, hM, hF, h4, h5, h6, hB⟩ hpre
    have HP := Aside0.mk hp
    have HM' := Aside0.mk hM
    have HF' := Aside0.mk hF
    have H4' := Aside0.mk h4
    have H5' := Aside0.mk h5
    have H6' := Aside0.mk h6
    have HB' := Aside0.mk hB
    have HPRE := Aside0.mk hpre
    have c2 := (blk_cell hM 3).trans (b := some (Value.bool true)) rfl
    have c3 := (blk_cell hF 0).trans (b := some (Value.int .i64 floor)) rfl
    have c6 := (blk_cell h6 0).trans (b := some (Value.int .i64 1)) rfl
    clear hp hM hF h4 h5 h6 hB hpre
    have HS := Aside0.mk hs
    clear hs
    obtain ⟨g, er, hg⟩ : ∃ g er, Rp.gv true x = (g, er) := ⟨_, _, rfl⟩
    have HG : Aside0 (leap_GPS.f (wrap64 (x + 1)) true = some (g, er)) := ⟨congrArg some hg⟩
    have HGV := Aside0.mk hg
    clear hg
    by_cases her : er = 0
    · subst her
      by_cases hlo : floor ≤ g
      · by_cases hhi : g < wrap64 (floor + 619315200)
        · have HH : Aside0 (Rp.hit true floor x = true) := ⟨by unfold Rp.hit; rw [HGV.out]; simp [hlo, hhi]⟩
          have d2 : decide (floor ≤ g) = true := decide_eq_true hlo
          have d3 : decide (g < wrap64 (floor + 619315200)) = true := decide_eq_true hhi
          clear hlo hhi
          gi_wp2_with (refine ⟨trivial, ?_⟩; gi_at_call 37; (refine (CallsIn.inRound l (callsIn_wide.2 (leap_GPS.calls (wrap64 (x + 1)) true g 0 _ HG.out))).mono ?_); rintro e w6 ⟨rfl, hb6⟩; have KM := Aside0.mk (blk_below HM'.out hb6); have KF := Aside0.mk (blk_below HF'.out hb6); have K4 := Aside0.mk (blk_below H4'.out hb6); have K5 := Aside0.mk (blk_below H5'.out hb6); have K6 := Aside0.mk (blk_below H6'.out hb6); have KB := Aside0.mk (hb6); clear hb6 c2 c3 c6; have c3 := (blk_cell KF.out 0).trans (b := some (Value.int .i64 floor)) rfl; have c4 := blk_cell K4.out 0; have f4 := blk_frozen K4.out 0; have c5 := blk_cell K5.out 0; have f5 := blk_frozen K5.out 0)
          obtain ⟨t, ht⟩ := HPRE.out
          have g4 := blk_far (blk_put K4.out 0 (.int .i64 g) rfl) (p := ⟨w.heap.size + 1 + 1 + 1, 0, none⟩) (show w.heap.size + 1 + 1 ≠ w.heap.size + 1 + 1 + 1 by omega) (.int .i64 0)
          have g5 := blk_put (blk_far K5.out (p := ⟨w.heap.size + 1 + 1, 0, none⟩) (show w.heap.size + 1 + 1 + 1 ≠ w.heap.size + 1 + 1 by omega) (.int .i64 g)) 0 (.int .i64 0) rfl
          exact ⟨Rp.set_size _ _ _ _ _ _ KB.out.size, fun k q1 q2 => ((Below.heap_setCell _ _ _ k (show k ≠ w.heap.size + 1 + 1 + 1 by have := HZ.out; omega)).trans (Below.heap_setCell _ _ _ k (show k ≠ w.heap.size + 1 + 1 by have := HZ.out; omega))).trans (KB.out.block k q2),
            g, by rw [← ht]; have := Rp.pick_hit true floor x t pre HP.out HH.out; rw [HGV.out] at this; simpa using this, g4, g5,
            ((below_then HB'.out HB'.out.size KB.out).setCell (p := ⟨w.heap.size + 1 + 1, 0, none⟩) (by show w.heap.size ≤ w.heap.size + 1 + 1; omega) _).setCell (p := ⟨w.heap.size + 1 + 1 + 1, 0, none⟩) (by show w.heap.size ≤ w.heap.size + 1 + 1 + 1; omega) _⟩
        · have HH : Aside0 (Rp.hit true floor x = false) := ⟨by unfold Rp.hit; rw [HGV.out]; simp [hhi]⟩
          have d2 : decide (floor ≤ g) = true := decide_eq_true hlo
          have d3 : decide (g < wrap64 (floor + 619315200)) = false := decide_eq_false hhi
          clear hlo hhi
          gi_wp2_with (refine ⟨trivial, ?_⟩; gi_at_call 37; (refine (CallsIn.inRound l (callsIn_wide.2 (leap_GPS.calls (wrap64 (x + 1)) true g 0 _ HG.out))).mono ?_); rintro e w6 ⟨rfl, hb6⟩; have KM := Aside0.mk (blk_below HM'.out hb6); have KF := Aside0.mk (blk_below HF'.out hb6); have K4 := Aside0.mk (blk_below H4'.out hb6); have K5 := Aside0.mk (blk_below H5'.out hb6); have K6 := Aside0.mk (blk_below H6'.out hb6); have KB := Aside0.mk (hb6); clear hb6 c2 c3 c6; have c3 := (blk_cell KF.out 0).trans (b := some (Value.int .i64 floor)) rfl; have c4 := blk_cell K4.out 0; have f4 := blk_frozen K4.out 0; have c5 := blk_cell K5.out 0; have f5 := blk_frozen K5.out 0)
          exact ⟨KB.out, ⟨by
            intro y hy
            rcases List.mem_append.mp hy with hy | hy
            · exact HP.out y hy
            · obtain rfl : y = x := by simpa using hy
              exact HH.out, KM.out, KF.out, K4.out, K5.out, K6.out, below_then HB'.out HB'.out.size KB.out⟩⟩
      · have HH : Aside0 (Rp.hit true floor x = false) := ⟨by unfold Rp.hit; rw [HGV.out]; simp [hlo]⟩
        have d2 : decide (floor ≤ g) = false := decide_eq_false hlo
        clear hlo
        gi_wp2_with (refine ⟨trivial, ?_⟩; gi_at_call 37; (refine (CallsIn.inRound l (callsIn_wide.2 (leap_GPS.calls (wrap64 (x + 1)) true g 0 _ HG.out))).mono ?_); rintro e w6 ⟨rfl, hb6⟩; have KM := Aside0.mk (blk_below HM'.out hb6); have KF := Aside0.mk (blk_below HF'.out hb6); have K4 := Aside0.mk (blk_below H4'.out hb6); have K5 := Aside0.mk (blk_below H5'.out hb6); have K6 := Aside0.mk (blk_below H6'.out hb6); have KB := Aside0.mk (hb6); clear hb6 c2 c3 c6; have c3 := (blk_cell KF.out 0).trans (b := some (Value.int .i64 floor)) rfl; have c4 := blk_cell K4.out 0; have f4 := blk_frozen K4.out 0; have c5 := blk_cell K5.out 0; have f5 := blk_frozen K5.out 0)
        exact ⟨KB.out, ⟨by
            intro y hy
            rcases List.mem_append.mp hy with hy | hy
            · exact HP.out y hy
            · obtain rfl : y = x := by simpa using hy
              exact HH.out, KM.out, KF.out, K4.out, K5.out, K6.out, below_then HB'.out HB'.out.size KB.out⟩⟩
    · have HH : Aside0 (Rp.hit true floor x = false) := ⟨by unfold Rp.hit; rw [HGV.out]; simp [her]⟩
      have d1 : (er == 0) = false := beq_eq_false_iff_ne.mpr her
      clear her
      gi_wp2_with (refine ⟨trivial, ?_⟩; gi_at_call 37; (refine (CallsIn.inRound l (callsIn_wide.2 (leap_GPS.calls (wrap64 (x + 1)) true g er _ HG.out))).mono ?_); rintro e w6 ⟨rfl, hb6⟩; have KM := Aside0.mk (blk_below HM'.out hb6); have KF := Aside0.mk (blk_below HF'.out hb6); have K4 := Aside0.mk (blk_below H4'.out hb6); have K5 := Aside0.mk (blk_below H5'.out hb6); have K6 := Aside0.mk (blk_below H6'.out hb6); have KB := Aside0.mk (hb6); clear hb6 c2 c3 c6; have c3 := (blk_cell KF.out 0).trans (b := some (Value.int .i64 floor)) rfl; have c4 := blk_cell K4.out 0; have f4 := blk_frozen K4.out 0; have c5 := blk_cell K5.out 0; have f5 := blk_frozen K5.out 0)
      exact ⟨KB.out, ⟨by
            intro y hy
            rcases List.mem_append.mp hy with hy | hy
            · exact HP.out y hy
            · obtain rfl : y = x := by simpa using hy
              exact HH.out, KM.out, KF.out, K4.out, K5.out, K6.out, below_then HB'.out HB'.out.size KB.out⟩⟩
  case done =>
    intro W hs hI hD
    obtain ⟨hp, hM, hF, h4, h5, h6, hB⟩ := hI
    have HP := Aside0.mk hp
    have H4' := Aside0.mk h4
    have H5' := Aside0.mk h5
    have HB' := Aside0.mk hB
    have HD := Aside0.mk hD
    have c4 := blk_cell h4 0
    have f4 := blk_frozen h4 0
    have c5 := blk_cell h5 0
    have f5 := blk_frozen h5 0
    clear hp hM hF h4 h5 h6 hB hD
    gi_wp2
    have HRR := HR.out
    rw [Rp.pick_none true floor xs HP.out] at HRR
    obtain ⟨e1, e2⟩ := Prod.mk.inj HRR
    subst e1 e2
    have g4 := blk_far (blk_put H4'.out 0 (.int .i64 0) rfl) (p := ⟨w.heap.size + 1 + 1 + 1, 0, none⟩) (show w.heap.size + 1 + 1 ≠ w.heap.size + 1 + 1 + 1 by omega) (.int .i64 7)
    have g5 := blk_put (blk_far H5'.out (p := ⟨w.heap.size + 1 + 1, 0, none⟩) (show w.heap.size + 1 + 1 + 1 ≠ w.heap.size + 1 + 1 by omega) (.int .i64 0)) 0 (.int .i64 7) rfl
    refine Rp.leave _ rfl w _ wm.heap.size _ 0 7 rfl rfl g4 g5 ((HB'.out.setCell (p := ⟨w.heap.size + 1 + 1, 0, none⟩) (by show w.heap.size ≤ w.heap.size + 1 + 1; omega) _).setCell (p := ⟨w.heap.size + 1 + 1 + 1, 0, none⟩) (by show w.heap.size ≤ w.heap.size + 1 + 1 + 1; omega) _) ?_ (by have := HZ.out; omega)
    exact ((Below.heap_setCell _ _ _ wm.heap.size (show wm.heap.size ≠ w.heap.size + 1 + 1 + 1 by have := HZ.out; omega)).trans (Below.heap_setCell _ _ _ wm.heap.size (show wm.heap.size ≠ w.heap.size + 1 + 1 by have := HZ.out; omega))).trans HD.out
  case stop =>
    intro W hs hI hD
    obtain ⟨g, hg, h4, h5, hB⟩ := hI
    have HG := Aside0.mk hg
    have H4' := Aside0.mk h4
    have H5' := Aside0.mk h5
    have HB' := Aside0.mk hB
    have HD := Aside0.mk hD
    clear hg h4 h5 hB hD
    gi_wp2
    have HRR := HR.out
    rw [HG.out] at HRR
    obtain ⟨e1, e2⟩ := Prod.mk.inj HRR
    subst e1 e2
    exact Rp.leave _ rfl w _ wm.heap.size _ g 0 rfl rfl H4'.out H5'.out HB'.out HD.out (by have := HZ.out; omega)

set_option maxHeartbeats 8000000 in
set_option maxRecDepth 100000 in
theorem Rp.main_kf (kind : Int) (sec : Int) (nxt : Bool) (floor : Int) (w : World) (k1 : decide (floor < 0) = false) (k2 : decide (6000000000 < floor) = false) (k3 : decide (sec < -1099511627776) = false) (k4 : decide (1099511627776 < sec) = false) (xs : List Int) (HXS : Aside0 (xs = Rp.three floor sec)) (r1 r2 : Int) (HR : Aside0 (Rp.pick false floor xs = (r1, r2))) :
    Calls Try.prog 45 #[.agg #[.int .u8 kind, .bool true, .int .i64 sec, .bool false, .int .i64 1024, .bool nxt], .int .i64 floor] w fun e w' => e = .returned (.tuple #[.int .i64 r1, .int .i64 r2]) ∧ Below w.heap.size w w' := by
  have hu61 := Try.underlying61
  refine (callsIn_wide (n := 3)).1 ?_
  refine callsIn_of_wp_marks Try.func45 rfl trivial ?_ rfl
  simp only [Try.ntmps45, List.size_toArray, List.length_cons, List.length_nil, Nat.reduceAdd, Nat.reduceSub, Array.replicate_succ, Array.replicate_zero, List.push_toArray, List.append_toArray, List.nil_append, List.cons_append]
  gi_wp2_with (refine ⟨trivial, ?_⟩; gi_at_call 65; (refine (callsIn_wide.2 (Rp.meant_calls kind true sec false 1024 nxt floor _ rfl)).mono ?_); rintro e wm ⟨⟨bf, bm, rfl, hc, hc2⟩, hb⟩
               have HC := Aside0.mk hc
               have HC2 := Aside0.mk hc2; clear hc2
               have HB := Aside0.mk hb
               have HM := Aside0.mk (blk_below (Rp.five w (.cells #[.int .u8 kind, .bool true, .int .i64 sec, .bool false, .int .i64 1024, .bool nxt] 61 (0, 0)) (.cells #[.int .i64 floor] 2 (0, 0)) (.cells #[.int .i64 0] 2 (0, 0)) (.cells #[.int .i64 0] 22 (0, 0)) (.cells #[.int .i64 0] 2 (0, 0))).1 hb)
               have HF := Aside0.mk (blk_below (Rp.five w (.cells #[.int .u8 kind, .bool true, .int .i64 sec, .bool false, .int .i64 1024, .bool nxt] 61 (0, 0)) (.cells #[.int .i64 floor] 2 (0, 0)) (.cells #[.int .i64 0] 2 (0, 0)) (.cells #[.int .i64 0] 22 (0, 0)) (.cells #[.int .i64 0] 2 (0, 0))).2.1 hb)
               have H4 := Aside0.mk (blk_below (Rp.five w (.cells #[.int .u8 kind, .bool true, .int .i64 sec, .bool false, .int .i64 1024, .bool nxt] 61 (0, 0)) (.cells #[.int .i64 floor] 2 (0, 0)) (.cells #[.int .i64 0] 2 (0, 0)) (.cells #[.int .i64 0] 22 (0, 0)) (.cells #[.int .i64 0] 2 (0, 0))).2.2.1 hb)
               have H5 := Aside0.mk (blk_below (Rp.five w (.cells #[.int .u8 kind, .bool true, .int .i64 sec, .bool false, .int .i64 1024, .bool nxt] 61 (0, 0)) (.cells #[.int .i64 floor] 2 (0, 0)) (.cells #[.int .i64 0] 2 (0, 0)) (.cells #[.int .i64 0] 22 (0, 0)) (.cells #[.int .i64 0] 2 (0, 0))).2.2.2.1 hb)
               have H6 := Aside0.mk (blk_below (Rp.five w (.cells #[.int .u8 kind, .bool true, .int .i64 sec, .bool false, .int .i64 1024, .bool nxt] 61 (0, 0)) (.cells #[.int .i64 floor] 2 (0, 0)) (.cells #[.int .i64 0] 2 (0, 0)) (.cells #[.int .i64 0] 22 (0, 0)) (.cells #[.int .i64 0] 2 (0, 0))).2.2.2.2.1 hb)
               have HW := Aside0.mk (below_then (Rp.five w (.cells #[.int .u8 kind, .bool true, .int .i64 sec, .bool false, .int .i64 1024, .bool nxt] 61 (0, 0)) (.cells #[.int .i64 floor] 2 (0, 0)) (.cells #[.int .i64 0] 2 (0, 0)) (.cells #[.int .i64 0] 22 (0, 0)) (.cells #[.int .i64 0] 2 (0, 0))).2.2.2.2.2 (Rp.five w (.cells #[.int .u8 kind, .bool true, .int .i64 sec, .bool false, .int .i64 1024, .bool nxt] 61 (0, 0)) (.cells #[.int .i64 floor] 2 (0, 0)) (.cells #[.int .i64 0] 2 (0, 0)) (.cells #[.int .i64 0] 22 (0, 0)) (.cells #[.int .i64 0] 2 (0, 0))).2.2.2.2.2.size hb)
               clear hc hb)
  have hz : w.heap.size + 1 + 1 + 1 + 1 < wm.heap.size := blk_lt H6.out
  have HZ := Aside0.mk hz
  refine Rf.wpIn_range_set 73 9 (gf := 78) (lb := #[.pointer (some ⟨bf, 0, none⟩), .pointer (some ⟨bm, 0, none⟩)]) rfl (enters_of Try.func78 (by kernel_rfl) rfl) (xs := xs) (by rw [HXS.out]; exact Rp.meant_word _ bf bm floor sec _ HC.out HC2.out) rfl
    (fun pre W => (∀ y ∈ pre, Rp.hit false floor y = false) ∧ W.heap[w.heap.size]? = some (.cells #[.int .u8 kind, .bool true, .int .i64 sec, .bool false, .int .i64 1024, .bool nxt] 61 (0, 0)) ∧ W.heap[w.heap.size + 1]? = some (.cells #[.int .i64 floor] 2 (0, 0)) ∧ W.heap[w.heap.size + 1 + 1]? = some (.cells #[.int .i64 0] 2 (0, 0)) ∧ W.heap[w.heap.size + 1 + 1 + 1]? = some (.cells #[.int .i64 0] 22 (0, 0)) ∧ W.heap[w.heap.size + 1 + 1 + 1 + 1]? = some (.cells #[.int .i64 0] 2 (0, 0)) ∧ Below w.heap.size w W)
    (fun _ W => ∃ g : Int, Rp.pick false floor xs = (g, 0) ∧ W.heap[w.heap.size + 1 + 1]? = some (.cells #[.int .i64 g] 2 (0, 0)) ∧ W.heap[w.heap.size + 1 + 1 + 1]? = some (.cells #[.int .i64 0] 22 (0, 0)) ∧ Below w.heap.size w W)
    ?hI ?hIx ?h0 ?assign ?body ?done ?stop
  case hI => exact fun s A B hs hb => ⟨hs.1, (hb.block _ (by omega)).trans hs.2.1, (hb.block _ (by omega)).trans hs.2.2.1, (hb.block _ (by omega)).trans hs.2.2.2.1, (hb.block _ (by omega)).trans hs.2.2.2.2.1, (hb.block _ (by omega)).trans hs.2.2.2.2.2.1, hs.2.2.2.2.2.2.trans (hb.mono (by omega))⟩
  case hIx =>
    rintro s A B ⟨g, h1, h2, h3, h4⟩ hb
    exact ⟨g, h1, (hb.block _ (by omega)).trans h2, (hb.block _ (by omega)).trans h3, h4.trans (hb.mono (by omega))⟩
  case h0 => exact ⟨fun _ h => absurd h (by simp), HM.out, HF.out, H4.out, H5.out, H6.out, HW.out⟩
  case assign =>
    intro l x W K hK
    gi_wp2
    exact hK
  case body =>
    rintro l pre x W hs ⟨hp, hM, hF, h4, h5, h6, hB⟩ hpre
    have HP := Aside0.mk hp
    have HM' := Aside0.mk hM
    have HF' := Aside0.mk hF
    have H4' := Aside0.mk h4
    have H5' := Aside0.mk h5
    have H6' := Aside0.mk h6
    have HB' := Aside0.mk hB
    have HPRE := Aside0.mk hpre
    have c2 := (blk_cell hM 3).trans (b := some (Value.bool false)) rfl
    have c3 := (blk_cell hF 0).trans (b := some (Value.int .i64 floor)) rfl
    have c6 := (blk_cell h6 0).trans (b := some (Value.int .i64 0)) rfl
    clear hp hM hF h4 h5 h6 hB hpre
    have HS := Aside0.mk hs
    clear hs
    obtain ⟨g, er, hg⟩ : ∃ g er, Rp.gv false x = (g, er) := ⟨_, _, rfl⟩
    have HG : Aside0 (leap_GPS.f (wrap64 x) false = some (g, er)) := ⟨congrArg some hg⟩
    have HGV := Aside0.mk hg
    clear hg
    by_cases her : er = 0
    · subst her
      by_cases hlo : floor ≤ g
      · by_cases hhi : g < wrap64 (floor + 619315200)
        · have HH : Aside0 (Rp.hit false floor x = true) := ⟨by unfold Rp.hit; rw [HGV.out]; simp [hlo, hhi]⟩
          have d2 : decide (floor ≤ g) = true := decide_eq_true hlo
          have d3 : decide (g < wrap64 (floor + 619315200)) = true := decide_eq_true hhi
          clear hlo hhi
          gi_wp2_with (refine ⟨trivial, ?_⟩; gi_at_call 37; (refine (CallsIn.inRound l (callsIn_wide.2 (leap_GPS.calls (wrap64 x) false g 0 _ HG.out))).mono ?_); rintro e w6 ⟨rfl, hb6⟩; have KM := Aside0.mk (blk_below HM'.out hb6); have KF := Aside0.mk (blk_below HF'.out hb6); have K4 := Aside0.mk (blk_below H4'.out hb6); have K5 := Aside0.mk (blk_below H5'.out hb6); have K6 := Aside0.mk (blk_below H6'.out hb6); have KB := Aside0.mk (hb6); clear hb6 c2 c3 c6; have c3 := (blk_cell KF.out 0).trans (b := some (Value.int .i64 floor)) rfl; have c4 := blk_cell K4.out 0; have f4 := blk_frozen K4.out 0; have c5 := blk_cell K5.out 0; have f5 := blk_frozen K5.out 0)
          obtain ⟨t, ht⟩ := HPRE.out
          have g4 := blk_far (blk_put K4.out 0 (.int .i64 g) rfl) (p := ⟨w.heap.size + 1 + 1 + 1, 0, none⟩) (show w.heap.size + 1 + 1 ≠ w.heap.size + 1 + 1 + 1 by omega) (.int .i64 0)
          have g5 := blk_put (blk_far K5.out (p := ⟨w.heap.size + 1 + 1, 0, none⟩) (show w.heap.size + 1 + 1 + 1 ≠ w.heap.size + 1 + 1 by omega) (.int .i64 g)) 0 (.int .i64 0) rfl
          exact ⟨Rp.set_size _ _ _ _ _ _ KB.out.size, fun k q1 q2 => ((Below.heap_setCell _ _ _ k (show k ≠ w.heap.size + 1 + 1 + 1 by have := HZ.out; omega)).trans (Below.heap_setCell _ _ _ k (show k ≠ w.heap.size + 1 + 1 by have := HZ.out; omega))).trans (KB.out.block k q2),
            g, by rw [← ht]; have := Rp.pick_hit false floor x t pre HP.out HH.out; rw [HGV.out] at this; simpa using this, g4, g5,
            ((below_then HB'.out HB'.out.size KB.out).setCell (p := ⟨w.heap.size + 1 + 1, 0, none⟩) (by show w.heap.size ≤ w.heap.size + 1 + 1; omega) _).setCell (p := ⟨w.heap.size + 1 + 1 + 1, 0, none⟩) (by show w.heap.size ≤ w.heap.size + 1 + 1 + 1; omega) _⟩
        · have HH : Aside0 (Rp.hit false floor x = false) := ⟨by unfold Rp.hit; rw [HGV.out]; simp [hhi]⟩
          have d2 : decide (floor ≤ g) = true := decide_eq_true hlo
          have d3 : decide (g < wrap64 (floor + 619315200)) = false := decide_eq_false hhi
          clear hlo hhi
          gi_wp2_with (refine ⟨trivial, ?_⟩; gi_at_call 37; (refine (CallsIn.inRound l (callsIn_wide.2 (leap_GPS.calls (wrap64 x) false g 0 _ HG.out))).mono ?_); rintro e w6 ⟨rfl, hb6⟩; have KM := Aside0.mk (blk_below HM'.out hb6); have KF := Aside0.mk (blk_below HF'.out hb6); have K4 := Aside0.mk (blk_below H4'.out hb6); have K5 := Aside0.mk (blk_below H5'.out hb6); have K6 := Aside0.mk (blk_below H6'.out hb6); have KB := Aside0.mk (hb6); clear hb6 c2 c3 c6; have c3 := (blk_cell KF.out 0).trans (b := some (Value.int .i64 floor)) rfl; have c4 := blk_cell K4.out 0; have f4 := blk_frozen K4.out 0; have c5 := blk_cell K5.out 0; have f5 := blk_frozen K5.out 0)
          exact ⟨KB.out, ⟨by
            intro y hy
            rcases List.mem_append.mp hy with hy | hy
            · exact HP.out y hy
            · obtain rfl : y = x := by simpa using hy
              exact HH.out, KM.out, KF.out, K4.out, K5.out, K6.out, below_then HB'.out HB'.out.size KB.out⟩⟩
      · have HH : Aside0 (Rp.hit false floor x = false) := ⟨by unfold Rp.hit; rw [HGV.out]; simp [hlo]⟩
        have d2 : decide (floor ≤ g) = false := decide_eq_false hlo
        clear hlo
        gi_wp2_with (refine ⟨trivial, ?_⟩; gi_at_call 37; (refine (CallsIn.inRound l (callsIn_wide.2 (leap_GPS.calls (wrap64 x) false g 0 _ HG.out))).mono ?_); rintro e w6 ⟨rfl, hb6⟩; have KM := Aside0.mk (blk_below HM'.out hb6); have KF := Aside0.mk (blk_below HF'.out hb6); have K4 := Aside0.mk (blk_below H4'.out hb6); have K5 := Aside0.mk (blk_below H5'.out hb6); have K6 := Aside0.mk (blk_below H6'.out hb6); have KB := Aside0.mk (hb6); clear hb6 c2 c3 c6; have c3 := (blk_cell KF.out 0).trans (b := some (Value.int .i64 floor)) rfl; have c4 := blk_cell K4.out 0; have f4 := blk_frozen K4.out 0; have c5 := blk_cell K5.out 0; have f5 := blk_frozen K5.out 0)
        exact ⟨KB.out, ⟨by
            intro y hy
            rcases List.mem_append.mp hy with hy | hy
            · exact HP.out y hy
            · obtain rfl : y = x := by simpa using hy
              exact HH.out, KM.out, KF.out, K4.out, K5.out, K6.out, below_then HB'.out HB'.out.size KB.out⟩⟩
    · have HH : Aside0 (Rp.hit false floor x = false) := ⟨by unfold Rp.hit; rw [HGV.out]; simp [her]⟩
      have d1 : (er == 0) = false := beq_eq_false_iff_ne.mpr her
      clear her
      gi_wp2_with (refine ⟨trivial, ?_⟩; gi_at_call 37; (refine (CallsIn.inRound l (callsIn_wide.2 (leap_GPS.calls (wrap64 x) false g er _ HG.out))).mono ?_); rintro e w6 ⟨rfl, hb6⟩; have KM := Aside0.mk (blk_below HM'.out hb6); have KF := Aside0.mk (blk_below HF'.out hb6); have K4 := Aside0.mk (blk_below H4'.out hb6); have K5 := Aside0.mk (blk_below H5'.out hb6); have K6 := Aside0.mk (blk_below H6'.out hb6); have KB := Aside0.mk (hb6); clear hb6 c2 c3 c6; have c3 := (blk_cell KF.out 0).trans (b := some (Value.int .i64 floor)) rfl; have c4 := blk_cell K4.out 0; have f4 := blk_frozen K4.out 0; have c5 := blk_cell K5.out 0; have f5 := blk_frozen K5.out 0)
      exact ⟨KB.out, ⟨by
            intro y hy
            rcases List.mem_append.mp hy with hy | hy
            · exact HP.out y hy
            · obtain rfl : y = x := by simpa using hy
              exact HH.out, KM.out, KF.out, K4.out, K5.out, K6.out, below_then HB'.out HB'.out.size KB.out⟩⟩
  case done =>
    intro W hs hI hD
    obtain ⟨hp, hM, hF, h4, h5, h6, hB⟩ := hI
    have HP := Aside0.mk hp
    have H4' := Aside0.mk h4
    have H5' := Aside0.mk h5
    have HB' := Aside0.mk hB
    have HD := Aside0.mk hD
    have c4 := blk_cell h4 0
    have f4 := blk_frozen h4 0
    have c5 := blk_cell h5 0
    have f5 := blk_frozen h5 0
    clear hp hM hF h4 h5 h6 hB hD
    gi_wp2
    have HRR := HR.out
    rw [Rp.pick_none false floor xs HP.out] at HRR
    obtain ⟨e1, e2⟩ := Prod.mk.inj HRR
    subst e1 e2
    have g4 := blk_far (blk_put H4'.out 0 (.int .i64 0) rfl) (p := ⟨w.heap.size + 1 + 1 + 1, 0, none⟩) (show w.heap.size + 1 + 1 ≠ w.heap.size + 1 + 1 + 1 by omega) (.int .i64 7)
    have g5 := blk_put (blk_far H5'.out (p := ⟨w.heap.size + 1 + 1, 0, none⟩) (show w.heap.size + 1 + 1 + 1 ≠ w.heap.size + 1 + 1 by omega) (.int .i64 0)) 0 (.int .i64 7) rfl
    refine Rp.leave _ rfl w _ wm.heap.size _ 0 7 rfl rfl g4 g5 ((HB'.out.setCell (p := ⟨w.heap.size + 1 + 1, 0, none⟩) (by show w.heap.size ≤ w.heap.size + 1 + 1; omega) _).setCell (p := ⟨w.heap.size + 1 + 1 + 1, 0, none⟩) (by show w.heap.size ≤ w.heap.size + 1 + 1 + 1; omega) _) ?_ (by have := HZ.out; omega)
    exact ((Below.heap_setCell _ _ _ wm.heap.size (show wm.heap.size ≠ w.heap.size + 1 + 1 + 1 by have := HZ.out; omega)).trans (Below.heap_setCell _ _ _ wm.heap.size (show wm.heap.size ≠ w.heap.size + 1 + 1 by have := HZ.out; omega))).trans HD.out
  case stop =>
    intro W hs hI hD
    obtain ⟨g, hg, h4, h5, hB⟩ := hI
    have HG := Aside0.mk hg
    have H4' := Aside0.mk h4
    have H5' := Aside0.mk h5
    have HB' := Aside0.mk hB
    have HD := Aside0.mk hD
    clear hg h4 h5 hB hD
    gi_wp2
    have HRR := HR.out
    rw [HG.out] at HRR
    obtain ⟨e1, e2⟩ := Prod.mk.inj HRR
    subst e1 e2
    exact Rp.leave _ rfl w _ wm.heap.size _ g 0 rfl rfl H4'.out H5'.out HB'.out HD.out (by have := HZ.out; omega)

set_option maxHeartbeats 8000000 in
set_option maxRecDepth 100000 in
theorem Rp.main_kt (kind : Int) (sec : Int) (nxt : Bool) (floor : Int) (w : World) (k1 : decide (floor < 0) = false) (k2 : decide (6000000000 < floor) = false) (k3 : decide (sec < -1099511627776) = false) (k4 : decide (1099511627776 < sec) = false) (xs : List Int) (HXS : Aside0 (xs = Rp.three floor sec)) (r1 r2 : Int) (HR : Aside0 (Rp.pick true floor xs = (r1, r2))) :
    Calls Try.prog 45 #[.agg #[.int .u8 kind, .bool true, .int .i64 sec, .bool true, .int .i64 1024, .bool nxt], .int .i64 floor] w fun e w' => e = .returned (.tuple #[.int .i64 r1, .int .i64 r2]) ∧ Below w.heap.size w w' := by
  have hu61 := Try.underlying61
  refine (callsIn_wide (n := 3)).1 ?_
  refine callsIn_of_wp_marks Try.func45 rfl trivial ?_ rfl
  simp only [Try.ntmps45, List.size_toArray, List.length_cons, List.length_nil, Nat.reduceAdd, Nat.reduceSub, Array.replicate_succ, Array.replicate_zero, List.push_toArray, List.append_toArray, List.nil_append, List.cons_append]
  gi_wp2_with (refine ⟨trivial, ?_⟩; gi_at_call 65; (refine (callsIn_wide.2 (Rp.meant_calls kind true sec true 1024 nxt floor _ rfl)).mono ?_); rintro e wm ⟨⟨bf, bm, rfl, hc, hc2⟩, hb⟩
               have HC := Aside0.mk hc
               have HC2 := Aside0.mk hc2; clear hc2
               have HB := Aside0.mk hb
               have HM := Aside0.mk (blk_below (Rp.five w (.cells #[.int .u8 kind, .bool true, .int .i64 sec, .bool true, .int .i64 1024, .bool nxt] 61 (0, 0)) (.cells #[.int .i64 floor] 2 (0, 0)) (.cells #[.int .i64 0] 2 (0, 0)) (.cells #[.int .i64 0] 22 (0, 0)) (.cells #[.int .i64 1] 2 (0, 0))).1 hb)
               have HF := Aside0.mk (blk_below (Rp.five w (.cells #[.int .u8 kind, .bool true, .int .i64 sec, .bool true, .int .i64 1024, .bool nxt] 61 (0, 0)) (.cells #[.int .i64 floor] 2 (0, 0)) (.cells #[.int .i64 0] 2 (0, 0)) (.cells #[.int .i64 0] 22 (0, 0)) (.cells #[.int .i64 1] 2 (0, 0))).2.1 hb)
               have H4 := Aside0.mk (blk_below (Rp.five w (.cells #[.int .u8 kind, .bool true, .int .i64 sec, .bool true, .int .i64 1024, .bool nxt] 61 (0, 0)) (.cells #[.int .i64 floor] 2 (0, 0)) (.cells #[.int .i64 0] 2 (0, 0)) (.cells #[.int .i64 0] 22 (0, 0)) (.cells #[.int .i64 1] 2 (0, 0))).2.2.1 hb)
               have H5 := Aside0.mk (blk_below (Rp.five w (.cells #[.int .u8 kind, .bool true, .int .i64 sec, .bool true, .int .i64 1024, .bool nxt] 61 (0, 0)) (.cells #[.int .i64 floor] 2 (0, 0)) (.cells #[.int .i64 0] 2 (0, 0)) (.cells #[.int .i64 0] 22 (0, 0)) (.cells #[.int .i64 1] 2 (0, 0))).2.2.2.1 hb)
               have H6 := Aside0.mk (blk_below (Rp.five w (.cells #[.int .u8 kind, .bool true, .int .i64 sec, .bool true, .int .i64 1024, .bool nxt] 61 (0, 0)) (.cells #[.int .i64 floor] 2 (0, 0)) (.cells #[.int .i64 0] 2 (0, 0)) (.cells #[.int .i64 0] 22 (0, 0)) (.cells #[.int .i64 1] 2 (0, 0))).2.2.2.2.1 hb)
               have HW := Aside0.mk (below_then (Rp.five w (.cells #[.int .u8 kind, .bool true, .int .i64 sec, .bool true, .int .i64 1024, .bool nxt] 61 (0, 0)) (.cells #[.int .i64 floor] 2 (0, 0)) (.cells #[.int .i64 0] 2 (0, 0)) (.cells #[.int .i64 0] 22 (0, 0)) (.cells #[.int .i64 1] 2 (0, 0))).2.2.2.2.2 (Rp.five w (.cells #[.int .u8 kind, .bool true, .int .i64 sec, .bool true, .int .i64 1024, .bool nxt] 61 (0, 0)) (.cells #[.int .i64 floor] 2 (0, 0)) (.cells #[.int .i64 0] 2 (0, 0)) (.cells #[.int .i64 0] 22 (0, 0)) (.cells #[.int .i64 1] 2 (0, 0))).2.2.2.2.2.size hb)
               clear hc hb)
  have hz : w.heap.size + 1 + 1 + 1 + 1 < wm.heap.size := blk_lt H6.out
  have HZ := Aside0.mk hz
  refine Rf.wpIn_range_set 73 9 (gf := 78) (lb := #[.pointer (some ⟨bf, 0, none⟩), .pointer (some ⟨bm, 0, none⟩)]) rfl (enters_of Try.func78 (by kernel_rfl) rfl) (xs := xs) (by rw [HXS.out]; exact Rp.meant_word _ bf bm floor sec _ HC.out HC2.out) rfl
    (fun pre W => (∀ y ∈ pre, Rp.hit true floor y = false) ∧ W.heap[w.heap.size]? = some (.cells #[.int .u8 kind, .bool true, .int .i64 sec, .bool true, .int .i64 1024, .bool nxt] 61 (0, 0)) ∧ W.heap[w.heap.size + 1]? = some (.cells #[.int .i64 floor] 2 (0, 0)) ∧ W.heap[w.heap.size + 1 + 1]? = some (.cells #[.int .i64 0] 2 (0, 0)) ∧ W.heap[w.heap.size + 1 + 1 + 1]? = some (.cells #[.int .i64 0] 22 (0, 0)) ∧ W.heap[w.heap.size + 1 + 1 + 1 + 1]? = some (.cells #[.int .i64 1] 2 (0, 0)) ∧ Below w.heap.size w W)
    (fun _ W => ∃ g : Int, Rp.pick true floor xs = (g, 0) ∧ W.heap[w.heap.size + 1 + 1]? = some (.cells #[.int .i64 g] 2 (0, 0)) ∧ W.heap[w.heap.size + 1 + 1 + 1]? = some (.cells #[.int .i64 0] 22 (0, 0)) ∧ Below w.heap.size w W)
    ?hI ?hIx ?h0 ?assign ?body ?done ?stop
  case hI => exact fun s A B hs hb => ⟨hs.1, (hb.block _ (by omega)).trans hs.2.1, (hb.block _ (by omega)).trans hs.2.2.1, (hb.block _ (by omega)).trans hs.2.2.2.1, (hb.block _ (by omega)).trans hs.2.2.2.2.1, (hb.block _ (by omega)).trans hs.2.2.2.2.2.1, hs.2.2.2.2.2.2.trans (hb.mono (by omega))⟩
  case hIx =>
    rintro s A B ⟨g, h1, h2, h3, h4⟩ hb
    exact ⟨g, h1, (hb.block _ (by omega)).trans h2, (hb.block _ (by omega)).trans h3, h4.trans (hb.mono (by omega))⟩
  case h0 => exact ⟨fun _ h => absurd h (by simp), HM.out, HF.out, H4.out, H5.out, H6.out, HW.out⟩
  case assign =>
    intro l x W K hK
    gi_wp2
    exact hK
  case body =>
    rintro l pre x W hs ⟨hp, hM, hF, h4, h5, h6, hB⟩ hpre
    have HP := Aside0.mk hp
    have HM' := Aside0.mk hM
    have HF' := Aside0.mk hF
    have H4' := Aside0.mk h4
    have H5' := Aside0.mk h5
    have H6' := Aside0.mk h6
    have HB' := Aside0.mk hB
    have HPRE := Aside0.mk hpre
    have c2 := (blk_cell hM 3).trans (b := some (Value.bool true)) rfl
    have c3 := (blk_cell hF 0).trans (b := some (Value.int .i64 floor)) rfl
    have c6 := (blk_cell h6 0).trans (b := some (Value.int .i64 1)) rfl
    clear hp hM hF h4 h5 h6 hB hpre
    have HS := Aside0.mk hs
    clear hs
    obtain ⟨g, er, hg⟩ : ∃ g er, Rp.gv true x = (g, er) := ⟨_, _, rfl⟩
    have HG : Aside0 (leap_GPS.f (wrap64 (x + 1)) true = some (g, er)) := ⟨congrArg some hg⟩
    have HGV := Aside0.mk hg
    clear hg
    by_cases her : er = 0
    · subst her
      by_cases hlo : floor ≤ g
      · by_cases hhi : g < wrap64 (floor + 619315200)
        · have HH : Aside0 (Rp.hit true floor x = true) := ⟨by unfold Rp.hit; rw [HGV.out]; simp [hlo, hhi]⟩
          have d2 : decide (floor ≤ g) = true := decide_eq_true hlo
          have d3 : decide (g < wrap64 (floor + 619315200)) = true := decide_eq_true hhi
          clear hlo hhi
          gi_wp2_with (refine ⟨trivial, ?_⟩; gi_at_call 37; (refine (CallsIn.inRound l (callsIn_wide.2 (leap_GPS.calls (wrap64 (x + 1)) true g 0 _ HG.out))).mono ?_); rintro e w6 ⟨rfl, hb6⟩; have KM := Aside0.mk (blk_below HM'.out hb6); have KF := Aside0.mk (blk_below HF'.out hb6); have K4 := Aside0.mk (blk_below H4'.out hb6); have K5 := Aside0.mk (blk_below H5'.out hb6); have K6 := Aside0.mk (blk_below H6'.out hb6); have KB := Aside0.mk (hb6); clear hb6 c2 c3 c6; have c3 := (blk_cell KF.out 0).trans (b := some (Value.int .i64 floor)) rfl; have c4 := blk_cell K4.out 0; have f4 := blk_frozen K4.out 0; have c5 := blk_cell K5.out 0; have f5 := blk_frozen K5.out 0)
          obtain ⟨t, ht⟩ := HPRE.out
          have g4 := blk_far (blk_put K4.out 0 (.int .i64 g) rfl) (p := ⟨w.heap.size + 1 + 1 + 1, 0, none⟩) (show w.heap.size + 1 + 1 ≠ w.heap.size + 1 + 1 + 1 by omega) (.int .i64 0)
          have g5 := blk_put (blk_far K5.out (p := ⟨w.heap.size + 1 + 1, 0, none⟩) (show w.heap.size + 1 + 1 + 1 ≠ w.heap.size + 1 + 1 by omega) (.int .i64 g)) 0 (.int .i64 0) rfl
          exact ⟨Rp.set_size _ _ _ _ _ _ KB.out.size, fun k q1 q2 => ((Below.heap_setCell _ _ _ k (show k ≠ w.heap.size + 1 + 1 + 1 by have := HZ.out; omega)).trans (Below.heap_setCell _ _ _ k (show k ≠ w.heap.size + 1 + 1 by have := HZ.out; omega))).trans (KB.out.block k q2),
            g, by rw [← ht]; have := Rp.pick_hit true floor x t pre HP.out HH.out; rw [HGV.out] at this; simpa using this, g4, g5,
            ((below_then HB'.out HB'.out.size KB.out).setCell (p := ⟨w.heap.size + 1 + 1, 0, none⟩) (by show w.heap.size ≤ w.heap.size + 1 + 1; omega) _).setCell (p := ⟨w.heap.size + 1 + 1 + 1, 0, none⟩) (by show w.heap.size ≤ w.heap.size + 1 + 1 + 1; omega) _⟩
        · have HH : Aside0 (Rp.hit true floor x = false) := ⟨by unfold Rp.hit; rw [HGV.out]; simp [hhi]⟩
          have d2 : decide (floor ≤ g) = true := decide_eq_true hlo
          have d3 : decide (g < wrap64 (floor + 619315200)) = false := decide_eq_false hhi
          clear hlo hhi
          gi_wp2_with (refine ⟨trivial, ?_⟩; gi_at_call 37; (refine (CallsIn.inRound l (callsIn_wide.2 (leap_GPS.calls (wrap64 (x + 1)) true g 0 _ HG.out))).mono ?_); rintro e w6 ⟨rfl, hb6⟩; have KM := Aside0.mk (blk_below HM'.out hb6); have KF := Aside0.mk (blk_below HF'.out hb6); have K4 := Aside0.mk (blk_below H4'.out hb6); have K5 := Aside0.mk (blk_below H5'.out hb6); have K6 := Aside0.mk (blk_below H6'.out hb6); have KB := Aside0.mk (hb6); clear hb6 c2 c3 c6; have c3 := (blk_cell KF.out 0).trans (b := some (Value.int .i64 floor)) rfl; have c4 := blk_cell K4.out 0; have f4 := blk_frozen K4.out 0; have c5 := blk_cell K5.out 0; have f5 := blk_frozen K5.out 0)
          exact ⟨KB.out, ⟨by
            intro y hy
            rcases List.mem_append.mp hy with hy | hy
            · exact HP.out y hy
            · obtain rfl : y = x := by simpa using hy
              exact HH.out, KM.out, KF.out, K4.out, K5.out, K6.out, below_then HB'.out HB'.out.size KB.out⟩⟩
      · have HH : Aside0 (Rp.hit true floor x = false) := ⟨by unfold Rp.hit; rw [HGV.out]; simp [hlo]⟩
        have d2 : decide (floor ≤ g) = false := decide_eq_false hlo
        clear hlo
        gi_wp2_with (refine ⟨trivial, ?_⟩; gi_at_call 37; (refine (CallsIn.inRound l (callsIn_wide.2 (leap_GPS.calls (wrap64 (x + 1)) true g 0 _ HG.out))).mono ?_); rintro e w6 ⟨rfl, hb6⟩; have KM := Aside0.mk (blk_below HM'.out hb6); have KF := Aside0.mk (blk_below HF'.out hb6); have K4 := Aside0.mk (blk_below H4'.out hb6); have K5 := Aside0.mk (blk_below H5'.out hb6); have K6 := Aside0.mk (blk_below H6'.out hb6); have KB := Aside0.mk (hb6); clear hb6 c2 c3 c6; have c3 := (blk_cell KF.out 0).trans (b := some (Value.int .i64 floor)) rfl; have c4 := blk_cell K4.out 0; have f4 := blk_frozen K4.out 0; have c5 := blk_cell K5.out 0; have f5 := blk_frozen K5.out 0)
        exact ⟨KB.out, ⟨by
            intro y hy
            rcases List.mem_append.mp hy with hy | hy
            · exact HP.out y hy
            · obtain rfl : y = x := by simpa using hy
              exact HH.out, KM.out, KF.out, K4.out, K5.out, K6.out, below_then HB'.out HB'.out.size KB.out⟩⟩
    · have HH : Aside0 (Rp.hit true floor x = false) := ⟨by unfold Rp.hit; rw [HGV.out]; simp [her]⟩
      have d1 : (er == 0) = false := beq_eq_false_iff_ne.mpr her
      clear her
      gi_wp2_with (refine ⟨trivial, ?_⟩; gi_at_call 37; (refine (CallsIn.inRound l (callsIn_wide.2 (leap_GPS.calls (wrap64 (x + 1)) true g er _ HG.out))).mono ?_); rintro e w6 ⟨rfl, hb6⟩; have KM := Aside0.mk (blk_below HM'.out hb6); have KF := Aside0.mk (blk_below HF'.out hb6); have K4 := Aside0.mk (blk_below H4'.out hb6); have K5 := Aside0.mk (blk_below H5'.out hb6); have K6 := Aside0.mk (blk_below H6'.out hb6); have KB := Aside0.mk (hb6); clear hb6 c2 c3 c6; have c3 := (blk_cell KF.out 0).trans (b := some (Value.int .i64 floor)) rfl; have c4 := blk_cell K4.out 0; have f4 := blk_frozen K4.out 0; have c5 := blk_cell K5.out 0; have f5 := blk_frozen K5.out 0)
      exact ⟨KB.out, ⟨by
            intro y hy
            rcases List.mem_append.mp hy with hy | hy
            · exact HP.out y hy
            · obtain rfl : y = x := by simpa using hy
              exact HH.out, KM.out, KF.out, K4.out, K5.out, K6.out, below_then HB'.out HB'.out.size KB.out⟩⟩
  case done =>
    intro W hs hI hD
    obtain ⟨hp, hM, hF, h4, h5, h6, hB⟩ := hI
    have HP := Aside0.mk hp
    have H4' := Aside0.mk h4
    have H5' := Aside0.mk h5
    have HB' := Aside0.mk hB
    have HD := Aside0.mk hD
    have c4 := blk_cell h4 0
    have f4 := blk_frozen h4 0
    have c5 := blk_cell h5 0
    have f5 := blk_frozen h5 0
    clear hp hM hF h4 h5 h6 hB hD
    gi_wp2
    have HRR := HR.out
    rw [Rp.pick_none true floor xs HP.out] at HRR
    obtain ⟨e1, e2⟩ := Prod.mk.inj HRR
    subst e1 e2
    have g4 := blk_far (blk_put H4'.out 0 (.int .i64 0) rfl) (p := ⟨w.heap.size + 1 + 1 + 1, 0, none⟩) (show w.heap.size + 1 + 1 ≠ w.heap.size + 1 + 1 + 1 by omega) (.int .i64 7)
    have g5 := blk_put (blk_far H5'.out (p := ⟨w.heap.size + 1 + 1, 0, none⟩) (show w.heap.size + 1 + 1 + 1 ≠ w.heap.size + 1 + 1 by omega) (.int .i64 0)) 0 (.int .i64 7) rfl
    refine Rp.leave _ rfl w _ wm.heap.size _ 0 7 rfl rfl g4 g5 ((HB'.out.setCell (p := ⟨w.heap.size + 1 + 1, 0, none⟩) (by show w.heap.size ≤ w.heap.size + 1 + 1; omega) _).setCell (p := ⟨w.heap.size + 1 + 1 + 1, 0, none⟩) (by show w.heap.size ≤ w.heap.size + 1 + 1 + 1; omega) _) ?_ (by have := HZ.out; omega)
    exact ((Below.heap_setCell _ _ _ wm.heap.size (show wm.heap.size ≠ w.heap.size + 1 + 1 + 1 by have := HZ.out; omega)).trans (Below.heap_setCell _ _ _ wm.heap.size (show wm.heap.size ≠ w.heap.size + 1 + 1 by have := HZ.out; omega))).trans HD.out
  case stop =>
    intro W hs hI hD
    obtain ⟨g, hg, h4, h5, hB⟩ := hI
    have HG := Aside0.mk hg
    have H4' := Aside0.mk h4
    have H5' := Aside0.mk h5
    have HB' := Aside0.mk hB
    have HD := Aside0.mk hD
    clear hg h4 h5 hB hD
    gi_wp2
    have HRR := HR.out
    rw [HG.out] at HRR
    obtain ⟨e1, e2⟩ := Prod.mk.inj HRR
    subst e1 e2
    exact Rp.leave _ rfl w _ wm.heap.size _ g 0 rfl rfl H4'.out H5'.out HB'.out HD.out (by have := HZ.out; omega)

set_option maxHeartbeats 8000000 in
set_option maxRecDepth 100000 in
theorem Rp.main_hf (kind : Int) (sec : Int) (nxt : Bool) (floor : Int) (w : World) (k1 : decide (floor < 0) = false) (k2 : decide (6000000000 < floor) = false) (k3 : decide (sec < -1099511627776) = false) (k4 : decide (1099511627776 < sec) = false) (k : Nat) (a0 a1 a2 a3 a4 a5 a6 : Int) (HOF : Aside0 (civil_Of.f k sec = some (a0, a1, a2, a3, a4, a5, a6))) (HY0 : Aside0 (0 ≤ a0)) (xs : List Int) (HXS : Aside0 (xs = Rp.years (a0, a1, a2, a3, a4, a5, a6))) (r1 r2 : Int) (HR : Aside0 (Rp.pick false floor xs = (r1, r2))) :
    Calls Try.prog 45 #[.agg #[.int .u8 kind, .bool true, .int .i64 sec, .bool false, .int .i64 100, .bool nxt], .int .i64 floor] w fun e w' => e = .returned (.tuple #[.int .i64 r1, .int .i64 r2]) ∧ Below w.heap.size w w' := by
  have hu61 := Try.underlying61
  refine (callsIn_wide (n := 3)).1 ?_
  refine callsIn_of_wp_marks Try.func45 rfl trivial ?_ rfl
  simp only [Try.ntmps45, List.size_toArray, List.length_cons, List.length_nil, Nat.reduceAdd, Nat.reduceSub, Array.replicate_succ, Array.replicate_zero, List.push_toArray, List.append_toArray, List.nil_append, List.cons_append]
  gi_wp2_with (refine ⟨trivial, ?_⟩; gi_at_call 65; (refine (callsIn_wide.2 (Rp.meant100_calls kind true sec false 100 nxt floor _ rfl)).mono ?_); rintro e wm ⟨⟨bs, rfl, hc⟩, hb⟩
               have HC := Aside0.mk hc
               skip
               have HB := Aside0.mk hb
               have HM := Aside0.mk (blk_below (Rp.five w (.cells #[.int .u8 kind, .bool true, .int .i64 sec, .bool false, .int .i64 100, .bool nxt] 61 (0, 0)) (.cells #[.int .i64 floor] 2 (0, 0)) (.cells #[.int .i64 0] 2 (0, 0)) (.cells #[.int .i64 0] 22 (0, 0)) (.cells #[.int .i64 0] 2 (0, 0))).1 hb)
               have HF := Aside0.mk (blk_below (Rp.five w (.cells #[.int .u8 kind, .bool true, .int .i64 sec, .bool false, .int .i64 100, .bool nxt] 61 (0, 0)) (.cells #[.int .i64 floor] 2 (0, 0)) (.cells #[.int .i64 0] 2 (0, 0)) (.cells #[.int .i64 0] 22 (0, 0)) (.cells #[.int .i64 0] 2 (0, 0))).2.1 hb)
               have H4 := Aside0.mk (blk_below (Rp.five w (.cells #[.int .u8 kind, .bool true, .int .i64 sec, .bool false, .int .i64 100, .bool nxt] 61 (0, 0)) (.cells #[.int .i64 floor] 2 (0, 0)) (.cells #[.int .i64 0] 2 (0, 0)) (.cells #[.int .i64 0] 22 (0, 0)) (.cells #[.int .i64 0] 2 (0, 0))).2.2.1 hb)
               have H5 := Aside0.mk (blk_below (Rp.five w (.cells #[.int .u8 kind, .bool true, .int .i64 sec, .bool false, .int .i64 100, .bool nxt] 61 (0, 0)) (.cells #[.int .i64 floor] 2 (0, 0)) (.cells #[.int .i64 0] 2 (0, 0)) (.cells #[.int .i64 0] 22 (0, 0)) (.cells #[.int .i64 0] 2 (0, 0))).2.2.2.1 hb)
               have H6 := Aside0.mk (blk_below (Rp.five w (.cells #[.int .u8 kind, .bool true, .int .i64 sec, .bool false, .int .i64 100, .bool nxt] 61 (0, 0)) (.cells #[.int .i64 floor] 2 (0, 0)) (.cells #[.int .i64 0] 2 (0, 0)) (.cells #[.int .i64 0] 22 (0, 0)) (.cells #[.int .i64 0] 2 (0, 0))).2.2.2.2.1 hb)
               have HW := Aside0.mk (below_then (Rp.five w (.cells #[.int .u8 kind, .bool true, .int .i64 sec, .bool false, .int .i64 100, .bool nxt] 61 (0, 0)) (.cells #[.int .i64 floor] 2 (0, 0)) (.cells #[.int .i64 0] 2 (0, 0)) (.cells #[.int .i64 0] 22 (0, 0)) (.cells #[.int .i64 0] 2 (0, 0))).2.2.2.2.2 (Rp.five w (.cells #[.int .u8 kind, .bool true, .int .i64 sec, .bool false, .int .i64 100, .bool nxt] 61 (0, 0)) (.cells #[.int .i64 floor] 2 (0, 0)) (.cells #[.int .i64 0] 2 (0, 0)) (.cells #[.int .i64 0] 22 (0, 0)) (.cells #[.int .i64 0] 2 (0, 0))).2.2.2.2.2.size hb)
               clear hc hb)
  have hz : w.heap.size + 1 + 1 + 1 + 1 < wm.heap.size := blk_lt H6.out
  have HZ := Aside0.mk hz
  refine Rf.wpIn_range_set 73 9 (gf := 79) (lb := #[.pointer (some ⟨bs, 0, none⟩)]) rfl (enters_of Try.func79 (by kernel_rfl) rfl) (xs := xs) (by rw [HXS.out]; exact Rp.years_word _ bs k sec a0 a1 a2 a3 a4 a5 a6 _ HC.out HOF.out HY0.out) rfl
    (fun pre W => (∀ y ∈ pre, Rp.hit false floor y = false) ∧ W.heap[w.heap.size]? = some (.cells #[.int .u8 kind, .bool true, .int .i64 sec, .bool false, .int .i64 100, .bool nxt] 61 (0, 0)) ∧ W.heap[w.heap.size + 1]? = some (.cells #[.int .i64 floor] 2 (0, 0)) ∧ W.heap[w.heap.size + 1 + 1]? = some (.cells #[.int .i64 0] 2 (0, 0)) ∧ W.heap[w.heap.size + 1 + 1 + 1]? = some (.cells #[.int .i64 0] 22 (0, 0)) ∧ W.heap[w.heap.size + 1 + 1 + 1 + 1]? = some (.cells #[.int .i64 0] 2 (0, 0)) ∧ Below w.heap.size w W)
    (fun _ W => ∃ g : Int, Rp.pick false floor xs = (g, 0) ∧ W.heap[w.heap.size + 1 + 1]? = some (.cells #[.int .i64 g] 2 (0, 0)) ∧ W.heap[w.heap.size + 1 + 1 + 1]? = some (.cells #[.int .i64 0] 22 (0, 0)) ∧ Below w.heap.size w W)
    ?hI ?hIx ?h0 ?assign ?body ?done ?stop
  case hI => exact fun s A B hs hb => ⟨hs.1, (hb.block _ (by omega)).trans hs.2.1, (hb.block _ (by omega)).trans hs.2.2.1, (hb.block _ (by omega)).trans hs.2.2.2.1, (hb.block _ (by omega)).trans hs.2.2.2.2.1, (hb.block _ (by omega)).trans hs.2.2.2.2.2.1, hs.2.2.2.2.2.2.trans (hb.mono (by omega))⟩
  case hIx =>
    rintro s A B ⟨g, h1, h2, h3, h4⟩ hb
    exact ⟨g, h1, (hb.block _ (by omega)).trans h2, (hb.block _ (by omega)).trans h3, h4.trans (hb.mono (by omega))⟩
  case h0 => exact ⟨fun _ h => absurd h (by simp), HM.out, HF.out, H4.out, H5.out, H6.out, HW.out⟩
  case assign =>
    intro l x W K hK
    gi_wp2
    exact hK
  case body =>
    rintro l pre x W hs ⟨hp, hM, hF, h4, h5, h6, hB⟩ hpre
    have HP := Aside0.mk hp
    have HM' := Aside0.mk hM
    have HF' := Aside0.mk hF
    have H4' := Aside0.mk h4
    have H5' := Aside0.mk h5
    have H6' := Aside0.mk h6
    have HB' := Aside0.mk hB
    have HPRE := Aside0.mk hpre
    have c2 := (blk_cell hM 3).trans (b := some (Value.bool false)) rfl
    have c3 := (blk_cell hF 0).trans (b := some (Value.int .i64 floor)) rfl
    have c6 := (blk_cell h6 0).trans (b := some (Value.int .i64 0)) rfl
    clear hp hM hF h4 h5 h6 hB hpre
    have HS := Aside0.mk hs
    clear hs
    obtain ⟨g, er, hg⟩ : ∃ g er, Rp.gv false x = (g, er) := ⟨_, _, rfl⟩
    have HG : Aside0 (leap_GPS.f (wrap64 x) false = some (g, er)) := ⟨congrArg some hg⟩
    have HGV := Aside0.mk hg
    clear hg
    by_cases her : er = 0
    · subst her
      by_cases hlo : floor ≤ g
      · by_cases hhi : g < wrap64 (floor + 619315200)
        · have HH : Aside0 (Rp.hit false floor x = true) := ⟨by unfold Rp.hit; rw [HGV.out]; simp [hlo, hhi]⟩
          have d2 : decide (floor ≤ g) = true := decide_eq_true hlo
          have d3 : decide (g < wrap64 (floor + 619315200)) = true := decide_eq_true hhi
          clear hlo hhi
          gi_wp2_with (refine ⟨trivial, ?_⟩; gi_at_call 37; (refine (CallsIn.inRound l (callsIn_wide.2 (leap_GPS.calls (wrap64 x) false g 0 _ HG.out))).mono ?_); rintro e w6 ⟨rfl, hb6⟩; have KM := Aside0.mk (blk_below HM'.out hb6); have KF := Aside0.mk (blk_below HF'.out hb6); have K4 := Aside0.mk (blk_below H4'.out hb6); have K5 := Aside0.mk (blk_below H5'.out hb6); have K6 := Aside0.mk (blk_below H6'.out hb6); have KB := Aside0.mk (hb6); clear hb6 c2 c3 c6; have c3 := (blk_cell KF.out 0).trans (b := some (Value.int .i64 floor)) rfl; have c4 := blk_cell K4.out 0; have f4 := blk_frozen K4.out 0; have c5 := blk_cell K5.out 0; have f5 := blk_frozen K5.out 0)
          obtain ⟨t, ht⟩ := HPRE.out
          have g4 := blk_far (blk_put K4.out 0 (.int .i64 g) rfl) (p := ⟨w.heap.size + 1 + 1 + 1, 0, none⟩) (show w.heap.size + 1 + 1 ≠ w.heap.size + 1 + 1 + 1 by omega) (.int .i64 0)
          have g5 := blk_put (blk_far K5.out (p := ⟨w.heap.size + 1 + 1, 0, none⟩) (show w.heap.size + 1 + 1 + 1 ≠ w.heap.size + 1 + 1 by omega) (.int .i64 g)) 0 (.int .i64 0) rfl
          exact ⟨Rp.set_size _ _ _ _ _ _ KB.out.size, fun k q1 q2 => ((Below.heap_setCell _ _ _ k (show k ≠ w.heap.size + 1 + 1 + 1 by have := HZ.out; omega)).trans (Below.heap_setCell _ _ _ k (show k ≠ w.heap.size + 1 + 1 by have := HZ.out; omega))).trans (KB.out.block k q2),
            g, by rw [← ht]; have := Rp.pick_hit false floor x t pre HP.out HH.out; rw [HGV.out] at this; simpa using this, g4, g5,
            ((below_then HB'.out HB'.out.size KB.out).setCell (p := ⟨w.heap.size + 1 + 1, 0, none⟩) (by show w.heap.size ≤ w.heap.size + 1 + 1; omega) _).setCell (p := ⟨w.heap.size + 1 + 1 + 1, 0, none⟩) (by show w.heap.size ≤ w.heap.size + 1 + 1 + 1; omega) _⟩
        · have HH : Aside0 (Rp.hit false floor x = false) := ⟨by unfold Rp.hit; rw [HGV.out]; simp [hhi]⟩
          have d2 : decide (floor ≤ g) = true := decide_eq_true hlo
          have d3 : decide (g < wrap64 (floor + 619315200)) = false := decide_eq_false hhi
          clear hlo hhi
          gi_wp2_with (refine ⟨trivial, ?_⟩; gi_at_call 37; (refine (CallsIn.inRound l (callsIn_wide.2 (leap_GPS.calls (wrap64 x) false g 0 _ HG.out))).mono ?_); rintro e w6 ⟨rfl, hb6⟩; have KM := Aside0.mk (blk_below HM'.out hb6); have KF := Aside0.mk (blk_below HF'.out hb6); have K4 := Aside0.mk (blk_below H4'.out hb6); have K5 := Aside0.mk (blk_below H5'.out hb6); have K6 := Aside0.mk (blk_below H6'.out hb6); have KB := Aside0.mk (hb6); clear hb6 c2 c3 c6; have c3 := (blk_cell KF.out 0).trans (b := some (Value.int .i64 floor)) rfl; have c4 := blk_cell K4.out 0; have f4 := blk_frozen K4.out 0; have c5 := blk_cell K5.out 0; have f5 := blk_frozen K5.out 0)
          exact ⟨KB.out, ⟨by
            intro y hy
            rcases List.mem_append.mp hy with hy | hy
            · exact HP.out y hy
            · obtain rfl : y = x := by simpa using hy
              exact HH.out, KM.out, KF.out, K4.out, K5.out, K6.out, below_then HB'.out HB'.out.size KB.out⟩⟩
      · have HH : Aside0 (Rp.hit false floor x = false) := ⟨by unfold Rp.hit; rw [HGV.out]; simp [hlo]⟩
        have d2 : decide (floor ≤ g) = false := decide_eq_false hlo
        clear hlo
        gi_wp2_with (refine ⟨trivial, ?_⟩; gi_at_call 37; (refine (CallsIn.inRound l (callsIn_wide.2 (leap_GPS.calls (wrap64 x) false g 0 _ HG.out))).mono ?_); rintro e w6 ⟨rfl, hb6⟩; have KM := Aside0.mk (blk_below HM'.out hb6); have KF := Aside0.mk (blk_below HF'.out hb6); have K4 := Aside0.mk (blk_below H4'.out hb6); have K5 := Aside0.mk (blk_below H5'.out hb6); have K6 := Aside0.mk (blk_below H6'.out hb6); have KB := Aside0.mk (hb6); clear hb6 c2 c3 c6; have c3 := (blk_cell KF.out 0).trans (b := some (Value.int .i64 floor)) rfl; have c4 := blk_cell K4.out 0; have f4 := blk_frozen K4.out 0; have c5 := blk_cell K5.out 0; have f5 := blk_frozen K5.out 0)
        exact ⟨KB.out, ⟨by
            intro y hy
            rcases List.mem_append.mp hy with hy | hy
            · exact HP.out y hy
            · obtain rfl : y = x := by simpa using hy
              exact HH.out, KM.out, KF.out, K4.out, K5.out, K6.out, below_then HB'.out HB'.out.size KB.out⟩⟩
    · have HH : Aside0 (Rp.hit false floor x = false) := ⟨by unfold Rp.hit; rw [HGV.out]; simp [her]⟩
      have d1 : (er == 0) = false := beq_eq_false_iff_ne.mpr her
      clear her
      gi_wp2_with (refine ⟨trivial, ?_⟩; gi_at_call 37; (refine (CallsIn.inRound l (callsIn_wide.2 (leap_GPS.calls (wrap64 x) false g er _ HG.out))).mono ?_); rintro e w6 ⟨rfl, hb6⟩; have KM := Aside0.mk (blk_below HM'.out hb6); have KF := Aside0.mk (blk_below HF'.out hb6); have K4 := Aside0.mk (blk_below H4'.out hb6); have K5 := Aside0.mk (blk_below H5'.out hb6); have K6 := Aside0.mk (blk_below H6'.out hb6); have KB := Aside0.mk (hb6); clear hb6 c2 c3 c6; have c3 := (blk_cell KF.out 0).trans (b := some (Value.int .i64 floor)) rfl; have c4 := blk_cell K4.out 0; have f4 := blk_frozen K4.out 0; have c5 := blk_cell K5.out 0; have f5 := blk_frozen K5.out 0)
      exact ⟨KB.out, ⟨by
            intro y hy
            rcases List.mem_append.mp hy with hy | hy
            · exact HP.out y hy
            · obtain rfl : y = x := by simpa using hy
              exact HH.out, KM.out, KF.out, K4.out, K5.out, K6.out, below_then HB'.out HB'.out.size KB.out⟩⟩
  case done =>
    intro W hs hI hD
    obtain ⟨hp, hM, hF, h4, h5, h6, hB⟩ := hI
    have HP := Aside0.mk hp
    have H4' := Aside0.mk h4
    have H5' := Aside0.mk h5
    have HB' := Aside0.mk hB
    have HD := Aside0.mk hD
    have c4 := blk_cell h4 0
    have f4 := blk_frozen h4 0
    have c5 := blk_cell h5 0
    have f5 := blk_frozen h5 0
    clear hp hM hF h4 h5 h6 hB hD
    gi_wp2
    have HRR := HR.out
    rw [Rp.pick_none false floor xs HP.out] at HRR
    obtain ⟨e1, e2⟩ := Prod.mk.inj HRR
    subst e1 e2
    have g4 := blk_far (blk_put H4'.out 0 (.int .i64 0) rfl) (p := ⟨w.heap.size + 1 + 1 + 1, 0, none⟩) (show w.heap.size + 1 + 1 ≠ w.heap.size + 1 + 1 + 1 by omega) (.int .i64 7)
    have g5 := blk_put (blk_far H5'.out (p := ⟨w.heap.size + 1 + 1, 0, none⟩) (show w.heap.size + 1 + 1 + 1 ≠ w.heap.size + 1 + 1 by omega) (.int .i64 0)) 0 (.int .i64 7) rfl
    refine Rp.leave _ rfl w _ wm.heap.size _ 0 7 rfl rfl g4 g5 ((HB'.out.setCell (p := ⟨w.heap.size + 1 + 1, 0, none⟩) (by show w.heap.size ≤ w.heap.size + 1 + 1; omega) _).setCell (p := ⟨w.heap.size + 1 + 1 + 1, 0, none⟩) (by show w.heap.size ≤ w.heap.size + 1 + 1 + 1; omega) _) ?_ (by have := HZ.out; omega)
    exact ((Below.heap_setCell _ _ _ wm.heap.size (show wm.heap.size ≠ w.heap.size + 1 + 1 + 1 by have := HZ.out; omega)).trans (Below.heap_setCell _ _ _ wm.heap.size (show wm.heap.size ≠ w.heap.size + 1 + 1 by have := HZ.out; omega))).trans HD.out
  case stop =>
    intro W hs hI hD
    obtain ⟨g, hg, h4, h5, hB⟩ := hI
    have HG := Aside0.mk hg
    have H4' := Aside0.mk h4
    have H5' := Aside0.mk h5
    have HB' := Aside0.mk hB
    have HD := Aside0.mk hD
    clear hg h4 h5 hB hD
    gi_wp2
    have HRR := HR.out
    rw [HG.out] at HRR
    obtain ⟨e1, e2⟩ := Prod.mk.inj HRR
    subst e1 e2
    exact Rp.leave _ rfl w _ wm.heap.size _ g 0 rfl rfl H4'.out H5'.out HB'.out HD.out (by have := HZ.out; omega)

set_option maxHeartbeats 8000000 in
set_option maxRecDepth 100000 in
theorem Rp.main_ht (kind : Int) (sec : Int) (nxt : Bool) (floor : Int) (w : World) (k1 : decide (floor < 0) = false) (k2 : decide (6000000000 < floor) = false) (k3 : decide (sec < -1099511627776) = false) (k4 : decide (1099511627776 < sec) = false) (k : Nat) (a0 a1 a2 a3 a4 a5 a6 : Int) (HOF : Aside0 (civil_Of.f k sec = some (a0, a1, a2, a3, a4, a5, a6))) (HY0 : Aside0 (0 ≤ a0)) (xs : List Int) (HXS : Aside0 (xs = Rp.years (a0, a1, a2, a3, a4, a5, a6))) (r1 r2 : Int) (HR : Aside0 (Rp.pick true floor xs = (r1, r2))) :
    Calls Try.prog 45 #[.agg #[.int .u8 kind, .bool true, .int .i64 sec, .bool true, .int .i64 100, .bool nxt], .int .i64 floor] w fun e w' => e = .returned (.tuple #[.int .i64 r1, .int .i64 r2]) ∧ Below w.heap.size w w' := by
  have hu61 := Try.underlying61
  refine (callsIn_wide (n := 3)).1 ?_
  refine callsIn_of_wp_marks Try.func45 rfl trivial ?_ rfl
  simp only [Try.ntmps45, List.size_toArray, List.length_cons, List.length_nil, Nat.reduceAdd, Nat.reduceSub, Array.replicate_succ, Array.replicate_zero, List.push_toArray, List.append_toArray, List.nil_append, List.cons_append]
  gi_wp2_with (refine ⟨trivial, ?_⟩; gi_at_call 65; (refine (callsIn_wide.2 (Rp.meant100_calls kind true sec true 100 nxt floor _ rfl)).mono ?_); rintro e wm ⟨⟨bs, rfl, hc⟩, hb⟩
               have HC := Aside0.mk hc
               skip
               have HB := Aside0.mk hb
               have HM := Aside0.mk (blk_below (Rp.five w (.cells #[.int .u8 kind, .bool true, .int .i64 sec, .bool true, .int .i64 100, .bool nxt] 61 (0, 0)) (.cells #[.int .i64 floor] 2 (0, 0)) (.cells #[.int .i64 0] 2 (0, 0)) (.cells #[.int .i64 0] 22 (0, 0)) (.cells #[.int .i64 1] 2 (0, 0))).1 hb)
               have HF := Aside0.mk (blk_below (Rp.five w (.cells #[.int .u8 kind, .bool true, .int .i64 sec, .bool true, .int .i64 100, .bool nxt] 61 (0, 0)) (.cells #[.int .i64 floor] 2 (0, 0)) (.cells #[.int .i64 0] 2 (0, 0)) (.cells #[.int .i64 0] 22 (0, 0)) (.cells #[.int .i64 1] 2 (0, 0))).2.1 hb)
               have H4 := Aside0.mk (blk_below (Rp.five w (.cells #[.int .u8 kind, .bool true, .int .i64 sec, .bool true, .int .i64 100, .bool nxt] 61 (0, 0)) (.cells #[.int .i64 floor] 2 (0, 0)) (.cells #[.int .i64 0] 2 (0, 0)) (.cells #[.int .i64 0] 22 (0, 0)) (.cells #[.int .i64 1] 2 (0, 0))).2.2.1 hb)
               have H5 := Aside0.mk (blk_below (Rp.five w (.cells #[.int .u8 kind, .bool true, .int .i64 sec, .bool true, .int .i64 100, .bool nxt] 61 (0, 0)) (.cells #[.int .i64 floor] 2 (0, 0)) (.cells #[.int .i64 0] 2 (0, 0)) (.cells #[.int .i64 0] 22 (0, 0)) (.cells #[.int .i64 1] 2 (0, 0))).2.2.2.1 hb)
               have H6 := Aside0.mk (blk_below (Rp.five w (.cells #[.int .u8 kind, .bool true, .int .i64 sec, .bool true, .int .i64 100, .bool nxt] 61 (0, 0)) (.cells #[.int .i64 floor] 2 (0, 0)) (.cells #[.int .i64 0] 2 (0, 0)) (.cells #[.int .i64 0] 22 (0, 0)) (.cells #[.int .i64 1] 2 (0, 0))).2.2.2.2.1 hb)
               have HW := Aside0.mk (below_then (Rp.five w (.cells #[.int .u8 kind, .bool true, .int .i64 sec, .bool true, .int .i64 100, .bool nxt] 61 (0, 0)) (.cells #[.int .i64 floor] 2 (0, 0)) (.cells #[.int .i64 0] 2 (0, 0)) (.cells #[.int .i64 0] 22 (0, 0)) (.cells #[.int .i64 1] 2 (0, 0))).2.2.2.2.2 (Rp.five w (.cells #[.int .u8 kind, .bool true, .int .i64 sec, .bool true, .int .i64 100, .bool nxt] 61 (0, 0)) (.cells #[.int .i64 floor] 2 (0, 0)) (.cells #[.int .i64 0] 2 (0, 0)) (.cells #[.int .i64 0] 22 (0, 0)) (.cells #[.int .i64 1] 2 (0, 0))).2.2.2.2.2.size hb)
               clear hc hb)
  have hz : w.heap.size + 1 + 1 + 1 + 1 < wm.heap.size := blk_lt H6.out
  have HZ := Aside0.mk hz
  refine Rf.wpIn_range_set 73 9 (gf := 79) (lb := #[.pointer (some ⟨bs, 0, none⟩)]) rfl (enters_of Try.func79 (by kernel_rfl) rfl) (xs := xs) (by rw [HXS.out]; exact Rp.years_word _ bs k sec a0 a1 a2 a3 a4 a5 a6 _ HC.out HOF.out HY0.out) rfl
    (fun pre W => (∀ y ∈ pre, Rp.hit true floor y = false) ∧ W.heap[w.heap.size]? = some (.cells #[.int .u8 kind, .bool true, .int .i64 sec, .bool true, .int .i64 100, .bool nxt] 61 (0, 0)) ∧ W.heap[w.heap.size + 1]? = some (.cells #[.int .i64 floor] 2 (0, 0)) ∧ W.heap[w.heap.size + 1 + 1]? = some (.cells #[.int .i64 0] 2 (0, 0)) ∧ W.heap[w.heap.size + 1 + 1 + 1]? = some (.cells #[.int .i64 0] 22 (0, 0)) ∧ W.heap[w.heap.size + 1 + 1 + 1 + 1]? = some (.cells #[.int .i64 1] 2 (0, 0)) ∧ Below w.heap.size w W)
    (fun _ W => ∃ g : Int, Rp.pick true floor xs = (g, 0) ∧ W.heap[w.heap.size + 1 + 1]? = some (.cells #[.int .i64 g] 2 (0, 0)) ∧ W.heap[w.heap.size + 1 + 1 + 1]? = some (.cells #[.int .i64 0] 22 (0, 0)) ∧ Below w.heap.size w W)
    ?hI ?hIx ?h0 ?assign ?body ?done ?stop
  case hI => exact fun s A B hs hb => ⟨hs.1, (hb.block _ (by omega)).trans hs.2.1, (hb.block _ (by omega)).trans hs.2.2.1, (hb.block _ (by omega)).trans hs.2.2.2.1, (hb.block _ (by omega)).trans hs.2.2.2.2.1, (hb.block _ (by omega)).trans hs.2.2.2.2.2.1, hs.2.2.2.2.2.2.trans (hb.mono (by omega))⟩
  case hIx =>
    rintro s A B ⟨g, h1, h2, h3, h4⟩ hb
    exact ⟨g, h1, (hb.block _ (by omega)).trans h2, (hb.block _ (by omega)).trans h3, h4.trans (hb.mono (by omega))⟩
  case h0 => exact ⟨fun _ h => absurd h (by simp), HM.out, HF.out, H4.out, H5.out, H6.out, HW.out⟩
  case assign =>
    intro l x W K hK
    gi_wp2
    exact hK
  case body =>
    rintro l pre x W hs ⟨hp, hM, hF, h4, h5, h6, hB⟩ hpre
    have HP := Aside0.mk hp
    have HM' := Aside0.mk hM
    have HF' := Aside0.mk hF
    have H4' := Aside0.mk h4
    have H5' := Aside0.mk h5
    have H6' := Aside0.mk h6
    have HB' := Aside0.mk hB
    have HPRE := Aside0.mk hpre
    have c2 := (blk_cell hM 3).trans (b := some (Value.bool true)) rfl
    have c3 := (blk_cell hF 0).trans (b := some (Value.int .i64 floor)) rfl
    have c6 := (blk_cell h6 0).trans (b := some (Value.int .i64 1)) rfl
    clear hp hM hF h4 h5 h6 hB hpre
    have HS := Aside0.mk hs
    clear hs
    obtain ⟨g, er, hg⟩ : ∃ g er, Rp.gv true x = (g, er) := ⟨_, _, rfl⟩
    have HG : Aside0 (leap_GPS.f (wrap64 (x + 1)) true = some (g, er)) := ⟨congrArg some hg⟩
    have HGV := Aside0.mk hg
    clear hg
    by_cases her : er = 0
    · subst her
      by_cases hlo : floor ≤ g
      · by_cases hhi : g < wrap64 (floor + 619315200)
        · have HH : Aside0 (Rp.hit true floor x = true) := ⟨by unfold Rp.hit; rw [HGV.out]; simp [hlo, hhi]⟩
          have d2 : decide (floor ≤ g) = true := decide_eq_true hlo
          have d3 : decide (g < wrap64 (floor + 619315200)) = true := decide_eq_true hhi
          clear hlo hhi
          gi_wp2_with (refine ⟨trivial, ?_⟩; gi_at_call 37; (refine (CallsIn.inRound l (callsIn_wide.2 (leap_GPS.calls (wrap64 (x + 1)) true g 0 _ HG.out))).mono ?_); rintro e w6 ⟨rfl, hb6⟩; have KM := Aside0.mk (blk_below HM'.out hb6); have KF := Aside0.mk (blk_below HF'.out hb6); have K4 := Aside0.mk (blk_below H4'.out hb6); have K5 := Aside0.mk (blk_below H5'.out hb6); have K6 := Aside0.mk (blk_below H6'.out hb6); have KB := Aside0.mk (hb6); clear hb6 c2 c3 c6; have c3 := (blk_cell KF.out 0).trans (b := some (Value.int .i64 floor)) rfl; have c4 := blk_cell K4.out 0; have f4 := blk_frozen K4.out 0; have c5 := blk_cell K5.out 0; have f5 := blk_frozen K5.out 0)
          obtain ⟨t, ht⟩ := HPRE.out
          have g4 := blk_far (blk_put K4.out 0 (.int .i64 g) rfl) (p := ⟨w.heap.size + 1 + 1 + 1, 0, none⟩) (show w.heap.size + 1 + 1 ≠ w.heap.size + 1 + 1 + 1 by omega) (.int .i64 0)
          have g5 := blk_put (blk_far K5.out (p := ⟨w.heap.size + 1 + 1, 0, none⟩) (show w.heap.size + 1 + 1 + 1 ≠ w.heap.size + 1 + 1 by omega) (.int .i64 g)) 0 (.int .i64 0) rfl
          exact ⟨Rp.set_size _ _ _ _ _ _ KB.out.size, fun k q1 q2 => ((Below.heap_setCell _ _ _ k (show k ≠ w.heap.size + 1 + 1 + 1 by have := HZ.out; omega)).trans (Below.heap_setCell _ _ _ k (show k ≠ w.heap.size + 1 + 1 by have := HZ.out; omega))).trans (KB.out.block k q2),
            g, by rw [← ht]; have := Rp.pick_hit true floor x t pre HP.out HH.out; rw [HGV.out] at this; simpa using this, g4, g5,
            ((below_then HB'.out HB'.out.size KB.out).setCell (p := ⟨w.heap.size + 1 + 1, 0, none⟩) (by show w.heap.size ≤ w.heap.size + 1 + 1; omega) _).setCell (p := ⟨w.heap.size + 1 + 1 + 1, 0, none⟩) (by show w.heap.size ≤ w.heap.size + 1 + 1 + 1; omega) _⟩
        · have HH : Aside0 (Rp.hit true floor x = false) := ⟨by unfold Rp.hit; rw [HGV.out]; simp [hhi]⟩
          have d2 : decide (floor ≤ g) = true := decide_eq_true hlo
          have d3 : decide (g < wrap64 (floor + 619315200)) = false := decide_eq_false hhi
          clear hlo hhi
          gi_wp2_with (refine ⟨trivial, ?_⟩; gi_at_call 37; (refine (CallsIn.inRound l (callsIn_wide.2 (leap_GPS.calls (wrap64 (x + 1)) true g 0 _ HG.out))).mono ?_); rintro e w6 ⟨rfl, hb6⟩; have KM := Aside0.mk (blk_below HM'.out hb6); have KF := Aside0.mk (blk_below HF'.out hb6); have K4 := Aside0.mk (blk_below H4'.out hb6); have K5 := Aside0.mk (blk_below H5'.out hb6); have K6 := Aside0.mk (blk_below H6'.out hb6); have KB := Aside0.mk (hb6); clear hb6 c2 c3 c6; have c3 := (blk_cell KF.out 0).trans (b := some (Value.int .i64 floor)) rfl; have c4 := blk_cell K4.out 0; have f4 := blk_frozen K4.out 0; have c5 := blk_cell K5.out 0; have f5 := blk_frozen K5.out 0)
          exact ⟨KB.out, ⟨by
            intro y hy
            rcases List.mem_append.mp hy with hy | hy
            · exact HP.out y hy
            · obtain rfl : y = x := by simpa using hy
              exact HH.out, KM.out, KF.out, K4.out, K5.out, K6.out, below_then HB'.out HB'.out.size KB.out⟩⟩
      · have HH : Aside0 (Rp.hit true floor x = false) := ⟨by unfold Rp.hit; rw [HGV.out]; simp [hlo]⟩
        have d2 : decide (floor ≤ g) = false := decide_eq_false hlo
        clear hlo
        gi_wp2_with (refine ⟨trivial, ?_⟩; gi_at_call 37; (refine (CallsIn.inRound l (callsIn_wide.2 (leap_GPS.calls (wrap64 (x + 1)) true g 0 _ HG.out))).mono ?_); rintro e w6 ⟨rfl, hb6⟩; have KM := Aside0.mk (blk_below HM'.out hb6); have KF := Aside0.mk (blk_below HF'.out hb6); have K4 := Aside0.mk (blk_below H4'.out hb6); have K5 := Aside0.mk (blk_below H5'.out hb6); have K6 := Aside0.mk (blk_below H6'.out hb6); have KB := Aside0.mk (hb6); clear hb6 c2 c3 c6; have c3 := (blk_cell KF.out 0).trans (b := some (Value.int .i64 floor)) rfl; have c4 := blk_cell K4.out 0; have f4 := blk_frozen K4.out 0; have c5 := blk_cell K5.out 0; have f5 := blk_frozen K5.out 0)
        exact ⟨KB.out, ⟨by
            intro y hy
            rcases List.mem_append.mp hy with hy | hy
            · exact HP.out y hy
            · obtain rfl : y = x := by simpa using hy
              exact HH.out, KM.out, KF.out, K4.out, K5.out, K6.out, below_then HB'.out HB'.out.size KB.out⟩⟩
    · have HH : Aside0 (Rp.hit true floor x = false) := ⟨by unfold Rp.hit; rw [HGV.out]; simp [her]⟩
      have d1 : (er == 0) = false := beq_eq_false_iff_ne.mpr her
      clear her
      gi_wp2_with (refine ⟨trivial, ?_⟩; gi_at_call 37; (refine (CallsIn.inRound l (callsIn_wide.2 (leap_GPS.calls (wrap64 (x + 1)) true g er _ HG.out))).mono ?_); rintro e w6 ⟨rfl, hb6⟩; have KM := Aside0.mk (blk_below HM'.out hb6); have KF := Aside0.mk (blk_below HF'.out hb6); have K4 := Aside0.mk (blk_below H4'.out hb6); have K5 := Aside0.mk (blk_below H5'.out hb6); have K6 := Aside0.mk (blk_below H6'.out hb6); have KB := Aside0.mk (hb6); clear hb6 c2 c3 c6; have c3 := (blk_cell KF.out 0).trans (b := some (Value.int .i64 floor)) rfl; have c4 := blk_cell K4.out 0; have f4 := blk_frozen K4.out 0; have c5 := blk_cell K5.out 0; have f5 := blk_frozen K5.out 0)
      exact ⟨KB.out, ⟨by
            intro y hy
            rcases List.mem_append.mp hy with hy | hy
            · exact HP.out y hy
            · obtain rfl : y = x := by simpa using hy
              exact HH.out, KM.out, KF.out, K4.out, K5.out, K6.out, below_then HB'.out HB'.out.size KB.out⟩⟩
  case done =>
    intro W hs hI hD
    obtain ⟨hp, hM, hF, h4, h5, h6, hB⟩ := hI
    have HP := Aside0.mk hp
    have H4' := Aside0.mk h4
    have H5' := Aside0.mk h5
    have HB' := Aside0.mk hB
    have HD := Aside0.mk hD
    have c4 := blk_cell h4 0
    have f4 := blk_frozen h4 0
    have c5 := blk_cell h5 0
    have f5 := blk_frozen h5 0
    clear hp hM hF h4 h5 h6 hB hD
    gi_wp2
    have HRR := HR.out
    rw [Rp.pick_none true floor xs HP.out] at HRR
    obtain ⟨e1, e2⟩ := Prod.mk.inj HRR
    subst e1 e2
    have g4 := blk_far (blk_put H4'.out 0 (.int .i64 0) rfl) (p := ⟨w.heap.size + 1 + 1 + 1, 0, none⟩) (show w.heap.size + 1 + 1 ≠ w.heap.size + 1 + 1 + 1 by omega) (.int .i64 7)
    have g5 := blk_put (blk_far H5'.out (p := ⟨w.heap.size + 1 + 1, 0, none⟩) (show w.heap.size + 1 + 1 + 1 ≠ w.heap.size + 1 + 1 by omega) (.int .i64 0)) 0 (.int .i64 7) rfl
    refine Rp.leave _ rfl w _ wm.heap.size _ 0 7 rfl rfl g4 g5 ((HB'.out.setCell (p := ⟨w.heap.size + 1 + 1, 0, none⟩) (by show w.heap.size ≤ w.heap.size + 1 + 1; omega) _).setCell (p := ⟨w.heap.size + 1 + 1 + 1, 0, none⟩) (by show w.heap.size ≤ w.heap.size + 1 + 1 + 1; omega) _) ?_ (by have := HZ.out; omega)
    exact ((Below.heap_setCell _ _ _ wm.heap.size (show wm.heap.size ≠ w.heap.size + 1 + 1 + 1 by have := HZ.out; omega)).trans (Below.heap_setCell _ _ _ wm.heap.size (show wm.heap.size ≠ w.heap.size + 1 + 1 by have := HZ.out; omega))).trans HD.out
  case stop =>
    intro W hs hI hD
    obtain ⟨g, hg, h4, h5, hB⟩ := hI
    have HG := Aside0.mk hg
    have H4' := Aside0.mk h4
    have H5' := Aside0.mk h5
    have HB' := Aside0.mk hB
    have HD := Aside0.mk hD
    clear hg h4 h5 hB hD
    gi_wp2
    have HRR := HR.out
    rw [HG.out] at HRR
    obtain ⟨e1, e2⟩ := Prod.mk.inj HRR
    subst e1 e2
    exact Rp.leave _ rfl w _ wm.heap.size _ g 0 rfl rfl H4'.out H5'.out HB'.out HD.out (by have := HZ.out; omega)
end Go.Proofs.Ytjabbppmkepgdaa
