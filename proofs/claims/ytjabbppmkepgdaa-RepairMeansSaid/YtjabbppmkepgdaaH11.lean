/- repair.GPS's contract, joined of its walks. -/
import Derived.Test.YtjabbppmkepgdaaProg
import Derived.Below
import Derived.Deep.Draws
import Derived.OwnWalk
import Derived.Tactics
import Derived.WalkKit
import Derived.WalkSpells
import Derived.WalkLawsBesides
import Derived.KernelRfl
import Derived.RowKit3
import Derived.Deep.LoopGhost
import Derived.Deep.QuietTactic
import Derived.BigQuiet
import Derived.WideLaws
import Derived.Deep.DeepCutAuto
import Derived.Deep.CutBlock
import Derived.Deep.RegionHeld3
import Derived.Lib.Hide
import Derived.IntWalk
import Derived.Outline
import Derived.Test.YtjabbppmkepgdaaWWords
import Derived.Test.YtjabbppmkepgdaaWLast
import Derived.Test.YtjabbppmkepgdaaWMore
import Derived.Test.YtjabbppmkepgdaaH10
namespace Go.Proofs.Ytjabbppmkepgdaa
open Go.RowKit Go.Shelf Go.Proofs.YtjabbppmkepgdaaW.PrintWords Go.Proofs.YtjabbppmkepgdaaW.PrintLast Go.Proofs.YtjabbppmkepgdaaW.PrintMore Go.Proofs.Ytjabbppmkepgdaa.QC Go.Proofs.Ytjabbppmkepgdaa.Pure
set_option linter.unusedVariables false

theorem Rp.of_spec (sec : Int) : ∃ a : Int × Int × Int × Int × Int × Int × Int, Ev (fun k => civil_Of.f k sec) a ∧ 0 ≤ a.1 := by
  by_cases h : sec < 0 ∨ 9467107200 ≤ sec
  · exact ⟨_, of_no sec h, Int.le_refl _⟩
  · have e22 : Cv.ahead 2200 = 109573 := by decide
    obtain ⟨y, m, d, hd, hn⟩ := date_of (sec / 86400) (by omega) (by omega)
    have hv := len_date hd.1 hd.2
    exact ⟨_, of_yes y m d hd sec (by omega) hn.symm, by show 0 ≤ y; omega⟩
noncomputable def Rp.of (sec : Int) : Int × Int × Int × Int × Int × Int × Int := Classical.epsilon (fun a => Ev (fun k => civil_Of.f k sec) a ∧ 0 ≤ a.1)
theorem Rp.of_ev (sec : Int) : Ev (fun k => civil_Of.f k sec) (Rp.of sec) ∧ 0 ≤ (Rp.of sec).1 := Classical.epsilon_spec (Rp.of_spec sec)

noncomputable def Rp.means (leap : Bool) (cyc sec floor : Int) : Int × Int := Rp.pick leap floor (if cyc = 100 then Rp.years (Rp.of sec) else Rp.three floor sec)
noncomputable def Rp.gps (utc : Bool) (sec : Int) (leap : Bool) (cyc floor : Int) : Int × Int :=
  if floor < 0 ∨ 6000000000 < floor then (0, 2)
  else if cyc ≠ 0 ∧ cyc ≠ 100 ∧ cyc ≠ 1024 then (0, 2)
  else if utc = false ∧ (cyc = 100 ∨ leap = true) then (0, 2)
  else if sec < -1099511627776 ∨ 1099511627776 < sec then (0, 9)
  else if utc = false then (if (Wk.near sec 1024 floor).2 = 0 then ((Wk.near sec 1024 floor).1, 0) else (0, 7))
  else Rp.means leap cyc sec floor
noncomputable def repair_GPS.f (kind : Int) (utc : Bool) (sec : Int) (leap : Bool) (cyc : Int) (nxt : Bool) (floor : Int) : Option (Int × Int) := some (Rp.gps utc sec leap cyc floor)

theorem repair_GPS.calls (kind : Int) (utc : Bool) (sec : Int) (leap : Bool) (cyc : Int) (nxt : Bool) (floor : Int) (r1 r2 : Int) (w : World) (h : repair_GPS.f kind utc sec leap cyc nxt floor = some (r1, r2)) :
    Calls Try.prog 45 #[.agg #[.int .u8 kind, .bool utc, .int .i64 sec, .bool leap, .int .i64 cyc, .bool nxt], .int .i64 floor] w fun e w' => e = .returned (.tuple #[.int .i64 r1, .int .i64 r2]) ∧ Below w.heap.size w w' := by
  have HE := Option.some.inj h
  clear h
  unfold Rp.gps at HE
  by_cases h1 : floor < 0
  · rw [if_pos (.inl h1)] at HE
    obtain ⟨rfl, rfl⟩ := Prod.mk.inj HE
    exact Rp.gps_a kind utc sec leap cyc nxt floor w (decide_eq_true h1)
  by_cases h2 : 6000000000 < floor
  · rw [if_pos (.inr h2)] at HE
    obtain ⟨rfl, rfl⟩ := Prod.mk.inj HE
    exact Rp.gps_b kind utc sec leap cyc nxt floor w (decide_eq_false h1) (decide_eq_true h2)
  rw [if_neg (by omega)] at HE
  have k1 := decide_eq_false h1
  have k2 := decide_eq_false h2
  by_cases hc : cyc ≠ 0 ∧ cyc ≠ 100 ∧ cyc ≠ 1024
  · rw [if_pos hc] at HE
    obtain ⟨rfl, rfl⟩ := Prod.mk.inj HE
    exact Rp.gps_c kind utc sec leap cyc nxt floor w k1 k2 (bne_iff_ne.mpr hc.1) (bne_iff_ne.mpr hc.2.1) (bne_iff_ne.mpr hc.2.2)
  rw [if_neg hc] at HE
  have hcy : cyc = 0 ∨ cyc = 1024 ∨ cyc = 100 := by omega
  clear hc
  cases utc with
  | false =>
    by_cases h100 : cyc = 100
    · rw [if_pos ⟨rfl, .inl h100⟩] at HE
      obtain ⟨rfl, rfl⟩ := Prod.mk.inj HE
      exact Rp.gps_d kind false sec leap cyc nxt floor w k1 k2 rfl h100
    have hcz : cyc = 0 ∨ cyc = 1024 := by omega
    cases leap with
    | true =>
      rw [if_pos ⟨rfl, .inr rfl⟩] at HE
      obtain ⟨rfl, rfl⟩ := Prod.mk.inj HE
      exact Rp.gps_e kind false sec true cyc nxt floor w k1 k2 rfl hcz rfl
    | false =>
      rw [if_neg (by simp [h100])] at HE
      by_cases h3 : sec < -1099511627776
      · rw [if_pos (.inl h3)] at HE
        obtain ⟨rfl, rfl⟩ := Prod.mk.inj HE
        rcases hcz with rfl | rfl
        · exact Rp.over1_f0 kind sec nxt floor w k1 k2 (decide_eq_true h3)
        · exact Rp.over1_fk kind sec nxt floor w k1 k2 (decide_eq_true h3)
      by_cases h4 : 1099511627776 < sec
      · rw [if_pos (.inr h4)] at HE
        obtain ⟨rfl, rfl⟩ := Prod.mk.inj HE
        rcases hcz with rfl | rfl
        · exact Rp.over2_f0 kind sec nxt floor w k1 k2 (decide_eq_false h3) (decide_eq_true h4)
        · exact Rp.over2_fk kind sec nxt floor w k1 k2 (decide_eq_false h3) (decide_eq_true h4)
      rw [if_neg (by omega), if_pos rfl] at HE
      have k3 := decide_eq_false h3
      have k4 := decide_eq_false h4
      obtain ⟨g, er, hg⟩ : ∃ g er, Wk.near sec 1024 floor = (g, er) := ⟨_, _, rfl⟩
      rw [hg] at HE
      have hn : week_Near.f sec 1024 floor = some (g, er) := congrArg some hg
      by_cases he : er = 0
      · subst he
        rw [if_pos rfl] at HE
        obtain ⟨rfl, rfl⟩ := Prod.mk.inj HE
        rcases hcz with rfl | rfl
        · exact Rp.nearok_f0 kind sec nxt floor w k1 k2 k3 k4 g ⟨hn⟩
        · exact Rp.nearok_fk kind sec nxt floor w k1 k2 k3 k4 g ⟨hn⟩
      · rw [if_neg he] at HE
        obtain ⟨rfl, rfl⟩ := Prod.mk.inj HE
        rcases hcz with rfl | rfl
        · exact Rp.near_f0 kind sec nxt floor w k1 k2 k3 k4 g er (bne_iff_ne.mpr he) ⟨hn⟩
        · exact Rp.near_fk kind sec nxt floor w k1 k2 k3 k4 g er (bne_iff_ne.mpr he) ⟨hn⟩
  | true =>
    rw [if_neg (by simp)] at HE
    by_cases h3 : sec < -1099511627776
    · rw [if_pos (.inl h3)] at HE
      obtain ⟨rfl, rfl⟩ := Prod.mk.inj HE
      rcases hcy with rfl | rfl | rfl
      · exact Rp.over1_t0 kind sec leap nxt floor w k1 k2 (decide_eq_true h3)
      · exact Rp.over1_tk kind sec leap nxt floor w k1 k2 (decide_eq_true h3)
      · exact Rp.over1_th kind sec leap nxt floor w k1 k2 (decide_eq_true h3)
    by_cases h4 : 1099511627776 < sec
    · rw [if_pos (.inr h4)] at HE
      obtain ⟨rfl, rfl⟩ := Prod.mk.inj HE
      rcases hcy with rfl | rfl | rfl
      · exact Rp.over2_t0 kind sec leap nxt floor w k1 k2 (decide_eq_false h3) (decide_eq_true h4)
      · exact Rp.over2_tk kind sec leap nxt floor w k1 k2 (decide_eq_false h3) (decide_eq_true h4)
      · exact Rp.over2_th kind sec leap nxt floor w k1 k2 (decide_eq_false h3) (decide_eq_true h4)
    rw [if_neg (by omega), if_neg (by simp)] at HE
    have k3 := decide_eq_false h3
    have k4 := decide_eq_false h4
    unfold Rp.means at HE
    rcases hcy with rfl | rfl | rfl
    · rw [if_neg (by decide)] at HE
      cases leap with
      | false => exact Rp.main_0f kind sec nxt floor w k1 k2 k3 k4 _ ⟨rfl⟩ r1 r2 ⟨HE⟩
      | true => exact Rp.main_0t kind sec nxt floor w k1 k2 k3 k4 _ ⟨rfl⟩ r1 r2 ⟨HE⟩
    · rw [if_neg (by decide)] at HE
      cases leap with
      | false => exact Rp.main_kf kind sec nxt floor w k1 k2 k3 k4 _ ⟨rfl⟩ r1 r2 ⟨HE⟩
      | true => exact Rp.main_kt kind sec nxt floor w k1 k2 k3 k4 _ ⟨rfl⟩ r1 r2 ⟨HE⟩
    · rw [if_pos rfl] at HE
      obtain ⟨ho, h0⟩ := Rp.of_ev sec
      obtain ⟨k, hk⟩ := Ev.rounds ho
      cases leap with
      | false => exact Rp.main_hf kind sec nxt floor w k1 k2 k3 k4 k _ _ _ _ _ _ _ ⟨hk⟩ ⟨h0⟩ _ ⟨rfl⟩ r1 r2 ⟨HE⟩
      | true => exact Rp.main_ht kind sec nxt floor w k1 k2 k3 k4 k _ _ _ _ _ _ _ ⟨hk⟩ ⟨h0⟩ _ ⟨rfl⟩ r1 r2 ⟨HE⟩
end Go.Proofs.Ytjabbppmkepgdaa
