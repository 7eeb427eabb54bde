/- Contracts of leap.Offset, leap.UTC and leap.GPS, walked by hand: each comes to what the plain Lean function of its name tells of the table of leap seconds, at every input. -/
import Derived.Test.YtjabbppmkepgdaaProg
import Derived.Below
import Derived.Deep.Draws
import Derived.OwnWalk
import Derived.Tactics
import Derived.WalkKit
import Derived.WalkSpells
import Derived.WalkLawsBesides
import Derived.KernelRfl
import Derived.RowKit3
import Derived.Deep.LoopGhost
import Derived.Deep.QuietTactic
import Derived.BigQuiet
import Derived.WideLaws
import Derived.Deep.DeepCutAuto
import Derived.Deep.CutBlock
import Derived.Deep.RegionHeld3
import Derived.Lib.Hide
import Derived.IntWalk
import Derived.Outline
import Derived.Test.YtjabbppmkepgdaaWWords
import Derived.Test.YtjabbppmkepgdaaWLast
import Derived.Test.YtjabbppmkepgdaaWMore
import Derived.Test.YtjabbppmkepgdaaH4
namespace Go.Proofs.Ytjabbppmkepgdaa
open Go.RowKit Go.Proofs.YtjabbppmkepgdaaW.PrintWords Go.Proofs.YtjabbppmkepgdaaW.PrintLast Go.Proofs.YtjabbppmkepgdaaW.PrintMore Go.Proofs.Ytjabbppmkepgdaa.QL
set_option linter.unusedVariables false
set_option linter.unusedSimpArgs false

/-- Is a line's last second ahead of it this one? -/
def Lp.isLeap (v : Int) (x : S52) : Bool := decide (0 < x.f2) && (wrap64 (x.f1 - 1) == v)

set_option maxHeartbeats 8000000 in
set_option maxRecDepth 100000 in
theorem Lp.clo61 (x y z v : Int) (b : Nat) (w : World) (hc : w.cell? ⟨b, 0, none⟩ = some (.int .i64 v)) :
    Calls Try.prog 61 #[.agg #[.int .i64 x, .int .i64 y, .int .i64 z], .pointer (some ⟨b, 0, none⟩)] w fun e w' => e = .returned (.bool (decide (0 < z) && (wrap64 (y - 1) == v))) ∧ Below w.heap.size w w' := by
  have hl : b < w.heap.size := World.block_lt_of_cell? w _ hc
  have hu52 := Try.underlying52
  by_cases h : 0 < z
  · have hd : decide (0 < z) = true := decide_eq_true h
    rw [hd, Bool.true_and]
    clear h
    go_enter Try.func61, Try.ntmps61
    go_wp2
    go_ret
    exact ⟨by first | rfl | (simp; done) | (simp [*]; done), by repeat (first | exact Below.refl _ _ | apply pw_below_drewN | apply below_alloc)⟩
  · have hd : decide (0 < z) = false := decide_eq_false h
    rw [hd, Bool.false_and]
    clear h
    go_enter Try.func61, Try.ntmps61
    go_wp2
    go_ret
    exact ⟨by first | rfl | (simp; done) | (simp [*]; done), by repeat (first | exact Below.refl _ _ | apply pw_below_drewN | apply below_alloc)⟩

/-- An index: not below 0 where one is. -/
def Lp.Idx (p : S52 → Bool) (T : List S52) (w : World) (e : Ending) (w' : World) : Prop := ∃ r : Int, decide (0 ≤ r) = T.any p ∧ e = .returned (.int .i64 r) ∧ Below w.heap.size w w'

theorem Lp.any_snoc (p : S52 → Bool) (T : List S52) (i : Nat) (h : i < T.length) : (T.take (i + 1)).any p = ((T.take i).any p || p (rd_T52 T (i : Int))) := by
  rw [Lp.take_snoc T i h, List.any_append]; simp
theorem Lp.any_hit (p : S52 → Bool) (T : List S52) (i : Nat) (h : i < T.length) (hp : p (rd_T52 T (i : Int)) = true) : T.any p = true := by
  rw [List.any_eq_true]
  refine ⟨rd_T52 T (i : Int), ?_, hp⟩
  unfold rd_T52
  rw [Int.toNat_natCast, List.getD_eq_getElem?_getD, List.getElem?_eq_getElem h]
  exact List.getElem_mem h

set_option maxHeartbeats 8000000 in
set_option maxRecDepth 100000 in
theorem Lp.index61 (v : Int) (b : Nat) (T : List S52) (A : Option Addr) (c : Nat) (w : World) (hTl : T.length ≤ 1000) (hC : Kd.C k52 w A T.length T) (hc : w.cell? ⟨b, 0, none⟩ = some (.int .i64 v)) :
    Calls Try.prog 76 #[.slice A T.length c, .func (.func 61) #[] #[.pointer (some ⟨b, 0, none⟩)]] w (Lp.Idx (Lp.isLeap v) T w) := by
  have hu52 := Try.underlying52
  have hl : b < w.heap.size := World.block_lt_of_cell? w _ hc
  have HC := Aside0.mk hc
  have HL := Aside0.mk hl
  have HTL := Aside0.mk hTl
  have HO := Aside0.mk hC
  clear hc hl hTl hC
  go_enter Try.func76, Try.ntmps76
  go_wp2
  go_loopw [8] (fun v8 wr => ∃ (i : Nat), v8 = .int .i64 i ∧ Aside0 (i ≤ T.length) ∧ Aside0 ((T.take i).any (Lp.isLeap v) = false) ∧ Aside0 (Below w.heap.size w wr)) (fun v8 _ => T.length - (intOf v8).toNat)
  case atStart => exact ⟨0, rfl, ⟨Nat.zero_le _⟩, ⟨rfl⟩, ⟨Below.refl _ _⟩⟩
  case round =>
    obtain ⟨i, rfl, HI, HF, HB⟩ := hrel
    by_cases hlt : i < T.length
    · have p0 : 0 ≤ ((i : Nat) : Int) := Int.natCast_nonneg _
      have q0 : ((i : Nat) : Int) < (T.length : Int) := by omega
      obtain ⟨ad, e, hx0, hx1, hx2⟩ := at_T52 (Kd.C_below HO.out HB.out) (i : Int) p0 q0
      cases e
      simp only [Int.toNat_natCast] at hx0 hx1 hx2
      have HAS := Aside0.mk (Lp.any_snoc (Lp.isLeap v) T i hlt)
      have HLT := Aside0.mk hlt
      have hi1 : ((i : Nat) : Int) < 1000 := by have := HTL.out; omega
      clear hlt
      by_cases hp : Lp.isLeap v (rd_T52 T (i : Int)) = true
      · have HH := Aside0.mk (Lp.any_hit _ T i HLT.out hp)
        have hd : (decide (0 < (rd_T52 T (i : Int)).f2) && (wrap64 ((rd_T52 T (i : Int)).f1 - 1) == v)) = true := hp
        have HD := Aside0.mk hd
        clear hp hd
        go_wp2_with (go_at_call 61; (with_reducible refine (Lp.clo61 _ _ _ v b _ ?hc).mono ?_)
                     (case hc => exact (HB.out.cell (p := ⟨b, 0, none⟩) HL.out).trans HC.out)
                     rw [HD.out]
                     rintro e w2 ⟨rfl, hb⟩
                     have B2 := Aside0.mk (below_then HB.out HB.out.size hb)
                     clear hb)
        go_ret
        exact ⟨(i : Int), by rw [HH.out]; exact decide_eq_true p0, by first | rfl | (simp; done), B2.out⟩
      · have hp' := Bool.eq_false_iff.mpr hp
        have hd : (decide (0 < (rd_T52 T (i : Int)).f2) && (wrap64 ((rd_T52 T (i : Int)).f1 - 1) == v)) = false := hp'
        have HD := Aside0.mk hd
        have HP := Aside0.mk hp'
        clear hp hd hp'
        go_wp2_with (go_at_call 61; (with_reducible refine (Lp.clo61 _ _ _ v b _ ?hc2).mono ?_)
                     (case hc2 => exact (HB.out.cell (p := ⟨b, 0, none⟩) HL.out).trans HC.out)
                     rw [HD.out]
                     rintro e w2 ⟨rfl, hb⟩
                     have B2 := Aside0.mk (below_then HB.out HB.out.size hb)
                     clear hb)
        go_roundw
        case rel => exact ⟨i + 1, by go_num, ⟨HLT.out⟩, ⟨by rw [HAS.out, HF.out, HP.out]; rfl⟩, B2⟩
        case measure => have := HLT.out; simp [intOf]; omega
    · have q0 : ¬ ((i : Nat) : Int) < (T.length : Int) := by omega
      have HTK := Aside0.mk (show T.take i = T from List.take_of_length_le (by omega))
      rw [HTK.out] at HF
      clear hlt
      go_wp2
      go_ret
      exact ⟨-1, by rw [HF.out]; rfl, by first | rfl | (simp; done), HB.out⟩

set_option maxHeartbeats 8000000 in
set_option maxRecDepth 100000 in
theorem Lp.contains61 (v : Int) (b : Nat) (T : List S52) (A : Option Addr) (c : Nat) (w : World) (hTl : T.length ≤ 1000) (hC : Kd.C k52 w A T.length T) (hc : w.cell? ⟨b, 0, none⟩ = some (.int .i64 v)) :
    Calls Try.prog 60 #[.slice A T.length c, .func (.func 61) #[] #[.pointer (some ⟨b, 0, none⟩)]] w fun e w' => e = .returned (.bool (T.any (Lp.isLeap v))) ∧ Below w.heap.size w w' := by
  have HX := Aside0.mk (Lp.index61 v b T A c w hTl hC hc)
  clear hTl hC hc
  go_enter Try.func60, Try.ntmps60
  go_wp2_with (go_at_call 76; (with_reducible refine HX.out.mono ?_); rintro e w1 ⟨r, hr, rfl, hb⟩; have HR := Aside0.mk hr; have HB := Aside0.mk hb; clear hr hb)
  go_ret
  exact ⟨by rw [← HR.out]; first | rfl | (simp; done), HB.out⟩

theorem Lp.fld52 (v0 v1 v2 : Value) (w : World) : (Instr.field 52 (.agg #[v0, v1, v2]) 2).run Try.prog w = .ok v2 w := by
  have hu52 := Try.underlying52
  rfl

/-! ### Offset -/
def Lp.off (g : Int) : Int := (Lp.find (fun x => decide (x.f1 ≤ g)) Lp.T).f2
def leap_Offset.f (g : Int) : Option (Int × Int) := some (if g < 0 ∨ 6000000000 < g then (0, 9) else (Lp.off g, 0))

set_option maxHeartbeats 8000000 in
set_option maxRecDepth 100000 in
theorem leap_Offset.calls (g r1 r2 : Int) (w : World) (h : leap_Offset.f g = some (r1, r2)) :
    Calls Try.prog 38 #[.int .i64 g] w fun e w' => e = .returned (.tuple #[.int .i64 r1, .int .i64 r2]) ∧ Below w.heap.size w w' := by
  have HE := Option.some.inj h
  clear h
  have hmf : ∀ (fn : Fn) (first cap : Array Value) (w : World), (Instr.makeFunc fn first cap).run Try.prog w = .ok (.func fn first cap) w := fun _ _ _ _ => rfl
  by_cases h1 : g < 0
  · rw [if_pos (.inl h1)] at HE
    obtain ⟨rfl, rfl⟩ := Prod.mk.inj HE
    have k1 : decide (g < 0) = true := decide_eq_true h1
    clear HE h1
    go_enter Try.func38, Try.ntmps38
    go_wp2
    go_ret2
    exact ⟨by first | rfl | (simp; done), by repeat (first | exact Below.refl _ _ | apply pw_below_drewN | apply below_alloc)⟩
  by_cases h2 : 6000000000 < g
  · rw [if_pos (.inr h2)] at HE
    obtain ⟨rfl, rfl⟩ := Prod.mk.inj HE
    have k1 : decide (g < 0) = false := decide_eq_false h1
    have k2 : decide (6000000000 < g) = true := decide_eq_true h2
    clear HE h1 h2
    go_enter Try.func38, Try.ntmps38
    go_wp2
    go_ret2
    exact ⟨by first | rfl | (simp; done), by repeat (first | exact Below.refl _ _ | apply pw_below_drewN | apply below_alloc)⟩
  rw [if_neg (by omega)] at HE
  obtain ⟨rfl, rfl⟩ := Prod.mk.inj HE
  have k1 : decide (g < 0) = false := decide_eq_false h1
  have k2 : decide (6000000000 < g) = false := decide_eq_false h2
  obtain ⟨k, hk⟩ := Lp.table
  have HK := Aside0.mk hk
  have hu52 := Try.underlying52
  obtain ⟨X, hX⟩ : ∃ X, Lp.find (fun x => decide (x.f1 ≤ g)) Lp.T = X := ⟨_, rfl⟩
  have HX := Aside0.mk hX
  have HXo := Aside0.mk (show Lp.off g = X.f2 from congrArg S52.f2 hX)
  have hf52 := Lp.fld52
  rw [HXo.out]
  clear HE h1 h2 hk hX
  go_enter Try.func38, Try.ntmps38
  go_wp2_with (go_at_call 62; (with_reducible refine (Lp.find64 g _ k Lp.T _ HK.out (by decide) ?hc).mono ?_); (case hc => rw [World.cell?_alloc_new]; rfl); rw [HX.out]; rintro e w1 ⟨rfl, hb⟩; have HB := Aside0.mk (below_then (below_alloc (Below.refl w.heap.size w) _) (below_alloc (Below.refl w.heap.size w) _).size hb); clear hb)
  go_ret2
  exact ⟨by first | rfl | (simp; done), HB.out⟩

/-! ### UTC -/

def leap_UTC.f (g : Int) : Option (Int × Bool × Int) := some (if g < 0 ∨ 6000000000 < g then (0, false, 9) else (wrap64 (wrap64 (g - Lp.off g) + 2524953600), Lp.T.any (Lp.isLeap g), 0))

set_option maxHeartbeats 8000000 in
set_option maxRecDepth 100000 in
theorem leap_UTC.calls (g r1 : Int) (r2 : Bool) (r3 : Int) (w : World) (h : leap_UTC.f g = some (r1, r2, r3)) :
    Calls Try.prog 36 #[.int .i64 g] w fun e w' => e = .returned (.tuple #[.int .i64 r1, .bool r2, .int .i64 r3]) ∧ Below w.heap.size w w' := by
  have HE := Option.some.inj h
  clear h
  have hmf : ∀ (fn : Fn) (first cap : Array Value) (w : World), (Instr.makeFunc fn first cap).run Try.prog w = .ok (.func fn first cap) w := fun _ _ _ _ => rfl
  by_cases h1 : g < 0 ∨ 6000000000 < g
  · rw [if_pos h1] at HE
    obtain ⟨rfl, hE⟩ := Prod.mk.inj HE
    obtain ⟨rfl, rfl⟩ := Prod.mk.inj hE
    have HO := Aside0.mk (show leap_Offset.f g = some (0, 9) from congrArg some (if_pos h1))
    clear HE hE h1
    go_enter Try.func36, Try.ntmps36
    go_wp2_with (go_at_call 38; (with_reducible refine (leap_Offset.calls g 0 9 _ HO.out).mono ?_); rintro e w1 ⟨rfl, hb⟩; have HB := Aside0.mk (below_then (below_alloc (Below.refl w.heap.size w) _) (below_alloc (Below.refl w.heap.size w) _).size hb); clear hb)
    go_ret3
    exact ⟨by first | rfl | (simp; done), HB.out⟩
  · rw [if_neg h1] at HE
    obtain ⟨rfl, hE⟩ := Prod.mk.inj HE
    obtain ⟨rfl, rfl⟩ := Prod.mk.inj hE
    have HO := Aside0.mk (show leap_Offset.f g = some (Lp.off g, 0) from congrArg some (if_neg h1))
    obtain ⟨k, hk⟩ := Lp.table
    have HK := Aside0.mk hk
    have hu52 := Try.underlying52
    clear HE hE h1 hk
    go_enter Try.func36, Try.ntmps36
    go_wp2_with (first
      | (go_at_call 38; (with_reducible refine (leap_Offset.calls g (Lp.off g) 0 _ HO.out).mono ?_); rintro e w1 ⟨rfl, hb⟩
         have HB := Aside0.mk (below_then (below_alloc (Below.refl w.heap.size w) _) (below_alloc (Below.refl w.heap.size w) _).size hb)
         have H1 := Aside0.mk (blk_below (blk_new w _) hb)
         clear hb)
      | (go_at_call 34; (with_reducible refine (leap_Table.calls k Lp.T _ HK.out).mono ?_); rintro e w2 ⟨v0, rfl, ho, hb⟩
         have HB2 := Aside0.mk (below_then HB.out HB.out.size hb)
         have H2 := Aside0.mk (blk_below H1.out hb)
         have c2 := blk_cell H2.out 0
         have HO2 := Aside0.mk ho
         clear ho hb
         obtain ⟨A, c, e⟩ := Kd.R_slice HO2.out
         subst e)
      | (go_at_call 60; (with_reducible refine (Lp.contains61 g w.heap.size Lp.T A c _ ?h1 ?h2 ?h3).mono ?_); (case h1 => decide); (case h2 => exact (Kd.R_reads' HO2.out).2.2); (case h3 => exact c2.trans rfl); rintro e w3 ⟨rfl, hb⟩
         have HB3 := Aside0.mk (below_then HB2.out HB2.out.size hb)
         have H3 := Aside0.mk (blk_below H2.out hb)
         have c3 := blk_cell H3.out 0
         clear hb))
    go_ret3
    exact ⟨by first | rfl | (simp; done), HB3.out⟩

/-! ### GPS -/
def Lp.line0 (s : Int) : S52 := Lp.find (fun x => decide (x.f0 ≤ s)) Lp.T
def Lp.gps (s : Int) (lp : Bool) : Int × Int :=
  if s < 2524953600 ∨ 8524953600 < s ∨ 6000000000 < wrap64 (wrap64 (s - 2524953600) + (Lp.line0 s).f2) then (0, 9)
  else if lp = true ∧ ((Lp.line0 s).f0 ≠ s ∨ (Lp.line0 s).f2 = 0) then (0, 5)
  else if lp = true then (wrap64 ((Lp.line0 s).f1 - 1), 0) else (wrap64 (wrap64 (s - 2524953600) + (Lp.line0 s).f2), 0)
def leap_GPS.f (s : Int) (lp : Bool) : Option (Int × Int) := some (Lp.gps s lp)

set_option maxHeartbeats 8000000 in
set_option maxRecDepth 100000 in
theorem Lp.gps_a (s : Int) (lp : Bool) (X : S52) (k : Nat) (w : World) (HK : Aside0 (leap_Table.f k = some Lp.T)) (HX : Aside0 (Lp.find (fun x => decide (x.f0 ≤ s)) Lp.T = X)) (k1 : decide (s < 2524953600) = true) :
    Calls Try.prog 37 #[.int .i64 s, .bool lp] w fun e w' => e = .returned (.tuple #[.int .i64 0, .int .i64 9]) ∧ Below w.heap.size w w' := by
  have hmf : ∀ (fn : Fn) (first cap : Array Value) (w : World), (Instr.makeFunc fn first cap).run Try.prog w = .ok (.func fn first cap) w := fun _ _ _ _ => rfl
  have hu52 := Try.underlying52
  go_enter Try.func37, Try.ntmps37
  go_wp2_with (go_at_call 62; (with_reducible refine (Lp.find63 s _ k Lp.T _ HK.out (by decide) ?hc).mono ?_); (case hc => rw [World.cell?_alloc_new]; rfl); rw [show Lp.find (fun x => decide (x.f0 ≤ s)) Lp.T = X from HX.out]; rintro e w1 ⟨rfl, hb⟩
               have HB := Aside0.mk (below_then (below_alloc (Below.refl w.heap.size w) _) (below_alloc (Below.refl w.heap.size w) _).size hb)
               have H1 := Aside0.mk (blk_below (blk_new w _) hb)
               have m1 : w.heap.size < w1.heap.size := blk_lt H1.out
               have c1 := blk_cell H1.out 0
               clear hb)
  go_ret2
  exact ⟨by first | rfl | (simp; done) | (simp [*]; done), below_alloc HB.out _⟩

set_option maxHeartbeats 8000000 in
set_option maxRecDepth 100000 in
theorem Lp.gps_b (s : Int) (lp : Bool) (X : S52) (k : Nat) (w : World) (HK : Aside0 (leap_Table.f k = some Lp.T)) (HX : Aside0 (Lp.find (fun x => decide (x.f0 ≤ s)) Lp.T = X)) (k1 : decide (s < 2524953600) = false) (k2 : decide (8524953600 < s) = true) :
    Calls Try.prog 37 #[.int .i64 s, .bool lp] w fun e w' => e = .returned (.tuple #[.int .i64 0, .int .i64 9]) ∧ Below w.heap.size w w' := by
  have hmf : ∀ (fn : Fn) (first cap : Array Value) (w : World), (Instr.makeFunc fn first cap).run Try.prog w = .ok (.func fn first cap) w := fun _ _ _ _ => rfl
  have hu52 := Try.underlying52
  go_enter Try.func37, Try.ntmps37
  go_wp2_with (go_at_call 62; (with_reducible refine (Lp.find63 s _ k Lp.T _ HK.out (by decide) ?hc).mono ?_); (case hc => rw [World.cell?_alloc_new]; rfl); rw [show Lp.find (fun x => decide (x.f0 ≤ s)) Lp.T = X from HX.out]; rintro e w1 ⟨rfl, hb⟩
               have HB := Aside0.mk (below_then (below_alloc (Below.refl w.heap.size w) _) (below_alloc (Below.refl w.heap.size w) _).size hb)
               have H1 := Aside0.mk (blk_below (blk_new w _) hb)
               have m1 : w.heap.size < w1.heap.size := blk_lt H1.out
               have c1 := blk_cell H1.out 0
               clear hb)
  go_ret2
  exact ⟨by first | rfl | (simp; done) | (simp [*]; done), below_alloc HB.out _⟩

set_option maxHeartbeats 8000000 in
set_option maxRecDepth 100000 in
theorem Lp.gps_c (s : Int) (lp : Bool) (X : S52) (k : Nat) (w : World) (HK : Aside0 (leap_Table.f k = some Lp.T)) (HX : Aside0 (Lp.find (fun x => decide (x.f0 ≤ s)) Lp.T = X)) (k1 : decide (s < 2524953600) = false) (k2 : decide (8524953600 < s) = false) (k3 : decide (6000000000 < wrap64 (wrap64 (s - 2524953600) + X.f2)) = true) :
    Calls Try.prog 37 #[.int .i64 s, .bool lp] w fun e w' => e = .returned (.tuple #[.int .i64 0, .int .i64 9]) ∧ Below w.heap.size w w' := by
  have hmf : ∀ (fn : Fn) (first cap : Array Value) (w : World), (Instr.makeFunc fn first cap).run Try.prog w = .ok (.func fn first cap) w := fun _ _ _ _ => rfl
  have hu52 := Try.underlying52
  go_enter Try.func37, Try.ntmps37
  go_wp2_with (go_at_call 62; (with_reducible refine (Lp.find63 s _ k Lp.T _ HK.out (by decide) ?hc).mono ?_); (case hc => rw [World.cell?_alloc_new]; rfl); rw [show Lp.find (fun x => decide (x.f0 ≤ s)) Lp.T = X from HX.out]; rintro e w1 ⟨rfl, hb⟩
               have HB := Aside0.mk (below_then (below_alloc (Below.refl w.heap.size w) _) (below_alloc (Below.refl w.heap.size w) _).size hb)
               have H1 := Aside0.mk (blk_below (blk_new w _) hb)
               have m1 : w.heap.size < w1.heap.size := blk_lt H1.out
               have c1 := blk_cell H1.out 0
               clear hb)
  go_ret2
  exact ⟨by first | rfl | (simp; done) | (simp [*]; done), below_alloc HB.out _⟩

set_option maxHeartbeats 8000000 in
set_option maxRecDepth 100000 in
theorem Lp.gps_d (s : Int) (lp : Bool) (X : S52) (k : Nat) (w : World) (HK : Aside0 (leap_Table.f k = some Lp.T)) (HX : Aside0 (Lp.find (fun x => decide (x.f0 ≤ s)) Lp.T = X)) (k1 : decide (s < 2524953600) = false) (k2 : decide (8524953600 < s) = false) (k3 : decide (6000000000 < wrap64 (wrap64 (s - 2524953600) + X.f2)) = false) (hl : lp = true) (k4 : (X.f0 != s) = true) :
    Calls Try.prog 37 #[.int .i64 s, .bool lp] w fun e w' => e = .returned (.tuple #[.int .i64 0, .int .i64 5]) ∧ Below w.heap.size w w' := by
  have hmf : ∀ (fn : Fn) (first cap : Array Value) (w : World), (Instr.makeFunc fn first cap).run Try.prog w = .ok (.func fn first cap) w := fun _ _ _ _ => rfl
  have hu52 := Try.underlying52
  subst hl
  go_enter Try.func37, Try.ntmps37
  go_wp2_with (go_at_call 62; (with_reducible refine (Lp.find63 s _ k Lp.T _ HK.out (by decide) ?hc).mono ?_); (case hc => rw [World.cell?_alloc_new]; rfl); rw [show Lp.find (fun x => decide (x.f0 ≤ s)) Lp.T = X from HX.out]; rintro e w1 ⟨rfl, hb⟩
               have HB := Aside0.mk (below_then (below_alloc (Below.refl w.heap.size w) _) (below_alloc (Below.refl w.heap.size w) _).size hb)
               have H1 := Aside0.mk (blk_below (blk_new w _) hb)
               have m1 : w.heap.size < w1.heap.size := blk_lt H1.out
               have c1 := blk_cell H1.out 0
               clear hb)
  go_ret2
  exact ⟨by first | rfl | (simp; done) | (simp [*]; done), below_alloc HB.out _⟩

set_option maxHeartbeats 8000000 in
set_option maxRecDepth 100000 in
theorem Lp.gps_e (s : Int) (lp : Bool) (X : S52) (k : Nat) (w : World) (HK : Aside0 (leap_Table.f k = some Lp.T)) (HX : Aside0 (Lp.find (fun x => decide (x.f0 ≤ s)) Lp.T = X)) (k1 : decide (s < 2524953600) = false) (k2 : decide (8524953600 < s) = false) (k3 : decide (6000000000 < wrap64 (wrap64 (s - 2524953600) + X.f2)) = false) (hl : lp = true) (k4 : (X.f0 != s) = false) (k5 : (X.f2 == 0) = true) :
    Calls Try.prog 37 #[.int .i64 s, .bool lp] w fun e w' => e = .returned (.tuple #[.int .i64 0, .int .i64 5]) ∧ Below w.heap.size w w' := by
  have hmf : ∀ (fn : Fn) (first cap : Array Value) (w : World), (Instr.makeFunc fn first cap).run Try.prog w = .ok (.func fn first cap) w := fun _ _ _ _ => rfl
  have hu52 := Try.underlying52
  subst hl
  go_enter Try.func37, Try.ntmps37
  go_wp2_with (go_at_call 62; (with_reducible refine (Lp.find63 s _ k Lp.T _ HK.out (by decide) ?hc).mono ?_); (case hc => rw [World.cell?_alloc_new]; rfl); rw [show Lp.find (fun x => decide (x.f0 ≤ s)) Lp.T = X from HX.out]; rintro e w1 ⟨rfl, hb⟩
               have HB := Aside0.mk (below_then (below_alloc (Below.refl w.heap.size w) _) (below_alloc (Below.refl w.heap.size w) _).size hb)
               have H1 := Aside0.mk (blk_below (blk_new w _) hb)
               have m1 : w.heap.size < w1.heap.size := blk_lt H1.out
               have c1 := blk_cell H1.out 0
               clear hb)
  go_ret2
  exact ⟨by first | rfl | (simp; done) | (simp [*]; done), below_alloc HB.out _⟩

set_option maxHeartbeats 8000000 in
set_option maxRecDepth 100000 in
theorem Lp.gps_f (s : Int) (lp : Bool) (X : S52) (k : Nat) (w : World) (HK : Aside0 (leap_Table.f k = some Lp.T)) (HX : Aside0 (Lp.find (fun x => decide (x.f0 ≤ s)) Lp.T = X)) (k1 : decide (s < 2524953600) = false) (k2 : decide (8524953600 < s) = false) (k3 : decide (6000000000 < wrap64 (wrap64 (s - 2524953600) + X.f2)) = false) (hl : lp = true) (k4 : (X.f0 != s) = false) (k5 : (X.f2 == 0) = false) :
    Calls Try.prog 37 #[.int .i64 s, .bool lp] w fun e w' => e = .returned (.tuple #[.int .i64 (wrap64 (X.f1 - 1)), .int .i64 0]) ∧ Below w.heap.size w w' := by
  have hmf : ∀ (fn : Fn) (first cap : Array Value) (w : World), (Instr.makeFunc fn first cap).run Try.prog w = .ok (.func fn first cap) w := fun _ _ _ _ => rfl
  have hu52 := Try.underlying52
  subst hl
  go_enter Try.func37, Try.ntmps37
  go_wp2_with (go_at_call 62; (with_reducible refine (Lp.find63 s _ k Lp.T _ HK.out (by decide) ?hc).mono ?_); (case hc => rw [World.cell?_alloc_new]; rfl); rw [show Lp.find (fun x => decide (x.f0 ≤ s)) Lp.T = X from HX.out]; rintro e w1 ⟨rfl, hb⟩
               have HB := Aside0.mk (below_then (below_alloc (Below.refl w.heap.size w) _) (below_alloc (Below.refl w.heap.size w) _).size hb)
               have H1 := Aside0.mk (blk_below (blk_new w _) hb)
               have m1 : w.heap.size < w1.heap.size := blk_lt H1.out
               have c1 := blk_cell H1.out 0
               clear hb)
  go_ret2
  exact ⟨by first | rfl | (simp; done) | (simp [*]; done), below_alloc HB.out _⟩

set_option maxHeartbeats 8000000 in
set_option maxRecDepth 100000 in
theorem Lp.gps_g (s : Int) (lp : Bool) (X : S52) (k : Nat) (w : World) (HK : Aside0 (leap_Table.f k = some Lp.T)) (HX : Aside0 (Lp.find (fun x => decide (x.f0 ≤ s)) Lp.T = X)) (k1 : decide (s < 2524953600) = false) (k2 : decide (8524953600 < s) = false) (k3 : decide (6000000000 < wrap64 (wrap64 (s - 2524953600) + X.f2)) = false) (hl : lp = false) :
    Calls Try.prog 37 #[.int .i64 s, .bool lp] w fun e w' => e = .returned (.tuple #[.int .i64 (wrap64 (wrap64 (s - 2524953600) + X.f2)), .int .i64 0]) ∧ Below w.heap.size w w' := by
  have hmf : ∀ (fn : Fn) (first cap : Array Value) (w : World), (Instr.makeFunc fn first cap).run Try.prog w = .ok (.func fn first cap) w := fun _ _ _ _ => rfl
  have hu52 := Try.underlying52
  subst hl
  go_enter Try.func37, Try.ntmps37
  go_wp2_with (go_at_call 62; (with_reducible refine (Lp.find63 s _ k Lp.T _ HK.out (by decide) ?hc).mono ?_); (case hc => rw [World.cell?_alloc_new]; rfl); rw [show Lp.find (fun x => decide (x.f0 ≤ s)) Lp.T = X from HX.out]; rintro e w1 ⟨rfl, hb⟩
               have HB := Aside0.mk (below_then (below_alloc (Below.refl w.heap.size w) _) (below_alloc (Below.refl w.heap.size w) _).size hb)
               have H1 := Aside0.mk (blk_below (blk_new w _) hb)
               have m1 : w.heap.size < w1.heap.size := blk_lt H1.out
               have c1 := blk_cell H1.out 0
               clear hb)
  go_ret2
  exact ⟨by first | rfl | (simp; done) | (simp [*]; done), below_alloc HB.out _⟩

theorem leap_GPS.calls (s : Int) (lp : Bool) (r1 r2 : Int) (w : World) (h : leap_GPS.f s lp = some (r1, r2)) :
    Calls Try.prog 37 #[.int .i64 s, .bool lp] w fun e w' => e = .returned (.tuple #[.int .i64 r1, .int .i64 r2]) ∧ Below w.heap.size w w' := by
  have HE := Option.some.inj h
  clear h
  obtain ⟨k, hk⟩ := Lp.table
  have HK := Aside0.mk hk
  have HX : Aside0 (Lp.find (fun x => decide (x.f0 ≤ s)) Lp.T = Lp.line0 s) := ⟨rfl⟩
  unfold Lp.gps at HE
  by_cases h1 : s < 2524953600
  · rw [if_pos (.inl h1)] at HE
    obtain ⟨rfl, rfl⟩ := Prod.mk.inj HE
    exact Lp.gps_a s lp _ k w HK HX (decide_eq_true h1)
  by_cases h2 : 8524953600 < s
  · rw [if_pos (.inr (.inl h2))] at HE
    obtain ⟨rfl, rfl⟩ := Prod.mk.inj HE
    exact Lp.gps_b s lp _ k w HK HX (decide_eq_false h1) (decide_eq_true h2)
  by_cases h3 : 6000000000 < wrap64 (wrap64 (s - 2524953600) + (Lp.line0 s).f2)
  · rw [if_pos (.inr (.inr h3))] at HE
    obtain ⟨rfl, rfl⟩ := Prod.mk.inj HE
    exact Lp.gps_c s lp _ k w HK HX (decide_eq_false h1) (decide_eq_false h2) (decide_eq_true h3)
  rw [if_neg (by rintro (h | h | h) <;> contradiction)] at HE
  have k1 := decide_eq_false h1
  have k2 := decide_eq_false h2
  have k3 := decide_eq_false h3
  cases lp with
  | true =>
    by_cases h4 : (Lp.line0 s).f0 = s
    · by_cases h5 : (Lp.line0 s).f2 = 0
      · rw [if_pos ⟨rfl, .inr h5⟩] at HE
        obtain ⟨rfl, rfl⟩ := Prod.mk.inj HE
        exact Lp.gps_e s _ _ k w HK HX k1 k2 k3 rfl (bne_eq_false_iff_eq.mpr h4) (beq_iff_eq.mpr h5)
      · rw [if_neg (by rintro ⟨_, h | h⟩ <;> contradiction), if_pos rfl] at HE
        obtain ⟨rfl, rfl⟩ := Prod.mk.inj HE
        exact Lp.gps_f s _ _ k w HK HX k1 k2 k3 rfl (bne_eq_false_iff_eq.mpr h4) (beq_eq_false_iff_ne.mpr h5)
    · rw [if_pos ⟨rfl, .inl h4⟩] at HE
      obtain ⟨rfl, rfl⟩ := Prod.mk.inj HE
      exact Lp.gps_d s _ _ k w HK HX k1 k2 k3 rfl (bne_iff_ne.mpr h4)
  | false =>
    rw [if_neg (by simp), if_neg (by simp)] at HE
    obtain ⟨rfl, rfl⟩ := Prod.mk.inj HE
    exact Lp.gps_g s _ _ k w HK HX k1 k2 k3 rfl
end Go.Proofs.Ytjabbppmkepgdaa
