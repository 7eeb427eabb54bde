/- Plain laws of chapter 26: a number out of bytes and back; the document's readings of it. -/
import Derived.Test.YtjldkgcabombhaaPureCrc
import Derived.Test.YtjldkgcabombhaaHD
import Derived.Lib.Bytes
namespace Go.Proofs.Ytjldkgcabombhaa.Rec
set_option linter.unusedVariables false
open Go.RowKit Go.Proofs.Ytjldkgcabombhaa Go.Proofs.Ytjldkgcabombhaa.QJ Go.Proofs.YtjldkgcabombhaaW.PrintWords Go.Proofs.YtjldkgcabombhaaW.PrintLast Go.Proofs.YtjldkgcabombhaaW.PrintMore

def nvF (c : Int) (l : List Int) : Int := l.foldl (fun n x => n * 256 + x) c
def nv (l : List Int) : Int := nvF 0 l
theorem nv_snoc (l : List Int) (x : Int) : nv (l ++ [x]) = nv l * 256 + x := by simp [nv, nvF, List.foldl_append]
theorem nvF_bd : ∀ (l : List Int) (c : Int) (m : Nat), 0 ≤ c → c < 256 ^ m → Bytes l → 0 ≤ nvF c l ∧ nvF c l < 256 ^ (m + l.length)
  | [], c, m, h0, h1, _ => ⟨h0, h1⟩
  | x :: t, c, m, h0, h1, hb => by
    obtain ⟨hx, ht⟩ := bytes_cons hb
    have e : (256 : Int) ^ (m + 1) = 256 ^ m * 256 := Int.pow_succ ..
    have := nvF_bd t (c * 256 + x) (m + 1) (by omega) (by rw [e]; generalize (256 : Int) ^ m = p at h1 ⊢; omega) ht
    rw [show m + (x :: t).length = m + 1 + t.length by rw [List.length_cons]; omega]
    exact this
theorem nv_bd (l : List Int) (hb : Bytes l) : 0 ≤ nv l ∧ nv l < 256 ^ l.length := by
  have := nvF_bd l 0 0 (by decide) (by decide) hb
  rwa [Nat.zero_add] at this
theorem bytes_be (s : Nat) (n : Int) : Bytes (Rc.be s n) := by
  intro x hx
  unfold Rc.be at hx
  obtain ⟨i, _, rfl⟩ := List.mem_map.mp hx
  omega
theorem be_zero (n : Int) : Rc.be 0 n = [] := rfl
theorem be_succ (s : Nat) (n : Int) : Rc.be (s + 1) n = Rc.be s (n / 256) ++ [n % 256] := by
  unfold Rc.be
  rw [List.range_succ, List.map_append]
  congr 1
  · refine List.map_congr_left (fun i hi => ?_)
    have hi := List.mem_range.mp hi
    rw [show 8 * (s + 1 - 1 - i) = 8 + 8 * (s - 1 - i) by omega, Int.pow_add, ← Int.ediv_ediv_of_nonneg (by decide)]
    rfl
  · simp
theorem nv_be : ∀ (s : Nat) (n : Int), 0 ≤ n → n < 256 ^ s → nv (Rc.be s n) = n
  | 0, n, h0, h1 => by
    have : n < 1 := h1
    have : n = 0 := by omega
    subst this
    rfl
  | s + 1, n, h0, h1 => by
    have e : (256 : Int) ^ (s + 1) = 256 ^ s * 256 := Int.pow_succ ..
    rw [be_succ, nv_snoc, nv_be s (n / 256) (by omega) (by rw [e] at h1; generalize (256 : Int) ^ s = p at h1 ⊢; omega)]
    omega
theorem be_nv : ∀ (s : Nat) (l : List Int), l.length = s → Bytes l → Rc.be s (nv l) = l
  | 0, l, h, _ => by rw [List.eq_nil_of_length_eq_zero h]; rfl
  | s + 1, l, h, hb => by
    have hne : l ≠ [] := by intro e; rw [e] at h; cases h
    have el := List.dropLast_concat_getLast hne
    have hd : Bytes l.dropLast := fun x hx => hb x (List.dropLast_subset l hx)
    have hx := hb _ (List.getLast_mem hne)
    have hlen : l.dropLast.length = s := by rw [List.length_dropLast]; omega
    obtain ⟨d, hde⟩ : ∃ d, d = l.dropLast := ⟨_, rfl⟩
    obtain ⟨x, hxe⟩ : ∃ x, x = l.getLast hne := ⟨_, rfl⟩
    rw [← hde] at el hd hlen
    rw [← hxe] at el hx
    rw [← el, nv_snoc, be_succ, show (nv d * 256 + x) / 256 = nv d by omega, show (nv d * 256 + x) % 256 = x by omega, be_nv s d hlen hd]
theorem or64 (a b : Nat) (ha : a < 18446744073709551616) (hb : b < 18446744073709551616) : bits .or .u64 (a : Int) (b : Int) = ((a ||| b : Nat) : Int) := by
  have h : a ||| b < 2 ^ 64 := Nat.or_lt_two_pow ha hb
  have e : bits .or .u64 (a : Int) (b : Int) = IntKind.u64.wrap ((BitVec.ofInt 64 (a : Int) ||| BitVec.ofInt 64 (b : Int)).toNat : Int) := rfl
  rw [e, BitVec.ofInt_natCast, BitVec.ofInt_natCast, BitVec.toNat_or, BitVec.toNat_ofNat, BitVec.toNat_ofNat, Nat.mod_eq_of_lt ha, Nat.mod_eq_of_lt hb, u64s _ (by omega)]
theorem step_eq (n x : Int) (h0 : 0 ≤ n) (h1 : n < 256 ^ 7) (hx : 0 ≤ x ∧ x < 256) : Rd.step n x = n * 256 + x := by
  unfold Rd.step
  have e7 : (256 : Int) ^ 7 = 72057594037927936 := by decide
  rw [e7] at h1
  rw [u64s _ (by omega), u64s _ (by omega)]
  obtain ⟨a, rfl⟩ := Int.eq_ofNat_of_zero_le h0
  obtain ⟨b, rfl⟩ := Int.eq_ofNat_of_zero_le hx.1
  have e := or64 (a * 256) b (by omega) (by omega)
  have o := Nat.two_pow_add_eq_or_of_lt (i := 8) (b := b) (by omega) a
  rw [show 2 ^ 8 * a = a * 256 by omega] at o
  rw [← o] at e
  have c : ((a * 256 : Nat) : Int) = (a : Int) * 256 := by omega
  rw [c] at e
  refine e.trans ?_
  rw [Int.natCast_add, c]
theorem pow256_le {m n : Nat} (h : m ≤ n) : (256 : Int) ^ m ≤ 256 ^ n := by
  have := Nat.pow_le_pow_right (n := 256) (by decide) h
  have e : ∀ k : Nat, ((256 ^ k : Nat) : Int) = (256 : Int) ^ k := fun k => by simp
  rw [← e, ← e]
  omega
theorem numF_eq : ∀ (l : List Int) (c : Int) (m : Nat), 0 ≤ c → c < 256 ^ m → m + l.length ≤ 8 → Bytes l → l.foldl Rd.step c = nvF c l
  | [], c, m, h0, h1, _, _ => rfl
  | x :: t, c, m, h0, h1, hl, hb => by
    obtain ⟨hx, ht⟩ := bytes_cons hb
    have hl' : m + (t.length + 1) ≤ 8 := hl
    have e : (256 : Int) ^ (m + 1) = 256 ^ m * 256 := Int.pow_succ ..
    have hm := pow256_le (show m ≤ 7 by omega)
    rw [List.foldl_cons, step_eq c x h0 (by omega) hx]
    exact numF_eq t (c * 256 + x) (m + 1) (by omega) (by rw [e]; generalize (256 : Int) ^ m = p at h1 ⊢; omega) (by omega) ht
theorem num_eq (l : List Int) (hl : l.length ≤ 8) (hb : Bytes l) : Rd.num l = nv l := numF_eq l 0 0 (by decide) (by decide) (by omega) hb

/-! ### the document's -/
theorem drop_rd (l : List Int) (q : Nat) (h : q < l.length) : l.drop q = rd l (q : Int) :: l.drop (q + 1) := by
  rw [List.drop_eq_getElem_cons h]
  unfold rd
  rw [Int.toNat_natCast, List.getD_eq_getElem?_getD, List.getElem?_eq_getElem h]
  rfl
theorem number_tells (l : List Int) (hl : l.length ≤ 8) (hb : Bytes l) : Ev (fun k => remontoireref26_number.f k l) (nv l) := by
  have key : ∀ j q (c : Int), q + j = l.length → 0 ≤ c → c < 256 ^ q → Ev (fun k => remontoireref26_number.l0 k l c (q : Int)) (nvF c (l.drop q)) := by
    intro j
    induction j with
    | zero =>
      intro q c h h0 h1
      rw [List.drop_of_length_le (by omega)]
      refine Ev.step (f := fun _ => some c) (fun k => ?_) (Ev.now _)
      rw [remontoireref26_number.l0, if_neg (by omega)]
    | succ j ih =>
      intro q c h h0 h1
      have hq : q < l.length := by omega
      have hd := drop_rd l q hq
      have hx : 0 ≤ rd l (q : Int) ∧ rd l (q : Int) < 256 := hb _ (List.mem_of_mem_drop (by rw [hd]; exact List.mem_cons_self ..))
      have e : (256 : Int) ^ (q + 1) = 256 ^ q * 256 := Int.pow_succ ..
      have hm := pow256_le (show q ≤ 7 by omega)
      have hm7 : (256 : Int) ^ 7 = 72057594037927936 := by decide
      rw [hm7] at hm
      have := ih (q + 1) (c * 256 + rd l (q : Int)) (by omega) (by omega) (by rw [e]; generalize (256 : Int) ^ q = p at h1 ⊢; omega)
      rw [hd]
      refine Ev.step (fun k => ?_) this
      rw [remontoireref26_number.l0, if_pos (by omega), if_pos (by omega), u64s (c * 256) (by omega), u64s (rd l (q : Int)) (by omega), u64s _ (by omega), i64s _ (by omega)]
      rfl
  have := key l.length 0 0 (by omega) (by decide) (by decide)
  rwa [List.drop_zero] at this
theorem set_mid (i : Nat) (t : List Int) (v : Int) : (List.replicate (i + 1) 0 ++ t).set i v = List.replicate i 0 ++ v :: t := by
  rw [List.replicate_succ', List.append_assoc, List.set_append_right _ _ (by simp)]
  simp
theorem bytes_tells (n : Int) (s : Nat) (h0 : 0 ≤ n) (h1 : n ≤ 18446744073709551615) (hs : s ≤ 8) : Ev (fun k => remontoireref26_bytes.f k n (s : Int)) (Rc.be s n) := by
  have key : ∀ i, i ≤ s → Ev (fun k => remontoireref26_bytes.l0 k (n / 2 ^ (8 * (s - i))) (List.replicate i 0 ++ (Rc.be s n).drop i) ((i : Int) - 1)) (Rc.be s n) := by
    intro i
    induction i with
    | zero =>
      intro _
      refine Ev.step (f := fun _ => some (Rc.be s n)) (fun k => ?_) (Ev.now _)
      rw [remontoireref26_bytes.l0, if_neg (by omega)]
      rfl
    | succ i ih =>
      intro hi
      have hq : i < (Rc.be s n).length := by rw [Rc.be_length]; omega
      have hp : (0 : Int) < 2 ^ (8 * (s - (i + 1))) := Int.pow_pos (by decide)
      have hd0 : 0 ≤ n / 2 ^ (8 * (s - (i + 1))) := Int.ediv_nonneg h0 (by omega)
      have hd1 : n / 2 ^ (8 * (s - (i + 1))) ≤ n := Int.ediv_le_self _ h0
      have e1 : n / 2 ^ (8 * (s - i)) = n / 2 ^ (8 * (s - (i + 1))) / 256 := by
        rw [show 8 * (s - i) = 8 * (s - (i + 1)) + 8 by omega, Int.pow_add, ← Int.ediv_ediv_of_nonneg (by omega)]
        rfl
      have e2 : (Rc.be s n).drop i = n / 2 ^ (8 * (s - (i + 1))) % 256 :: (Rc.be s n).drop (i + 1) := by
        rw [List.drop_eq_getElem_cons hq, Rc.be_get s n i (by omega), show s - 1 - i = s - (i + 1) by omega]
      have := ih (by omega)
      rw [e1, e2] at this
      generalize n / 2 ^ (8 * (s - (i + 1))) = m at hd0 hd1 this ⊢
      refine Ev.step (fun k => ?_) this
      have hlen : (List.replicate (i + 1) 0 ++ (Rc.be s n).drop (i + 1)).length = s := by rw [List.length_append, List.length_replicate, List.length_drop, Rc.be_length]; omega
      rw [remontoireref26_bytes.l0, if_pos (by omega), if_pos (by omega), if_pos (by rw [hlen]; omega), Int.tdiv_eq_ediv_of_nonneg hd0, Int.tmod_eq_emod_of_nonneg hd0, u64s _ (by omega), i64s _ (by omega),
        show (((i + 1 : Nat) : Int) - 1).toNat = i by omega, set_mid, show m % 256 % 256 = m % 256 by omega, show ((i + 1 : Nat) : Int) - 1 - 1 = (i : Int) - 1 by omega]
  have := key s (Nat.le_refl _)
  rw [Nat.sub_self, Nat.mul_zero, show n / 2 ^ 0 = n by simp, List.drop_of_length_le (by rw [Rc.be_length]; omega), List.append_nil] at this
  refine Ev.congr (fun k => ?_) this
  unfold remontoireref26_bytes.f
  rw [if_pos (by omega), if_pos (by omega), Int.toNat_natCast, i64s _ (by omega)]
theorem word32 (n : Int) (h : 0 ≤ n ∧ n < 256 ^ 4) : nv (Rc.be 4 n) = n := nv_be 4 n h.1 h.2
end Go.Proofs.Ytjldkgcabombhaa.Rec
