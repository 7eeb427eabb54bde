/- Plain laws of the sum CRC: the program's and the document's are one; another byte, or another state, makes another one. -/
import Derived.Test.YtjldkgcabombhaaQJx1
import Derived.Laws.BitsLemmas
namespace Go.Proofs.Ytjldkgcabombhaa.Rec
set_option linter.unusedVariables false
open Go.RowKit Go.Proofs.Ytjldkgcabombhaa Go.Proofs.Ytjldkgcabombhaa.QJ Go.Proofs.YtjldkgcabombhaaW.PrintWords Go.Proofs.YtjldkgcabombhaaW.PrintLast Go.Proofs.YtjldkgcabombhaaW.PrintMore

theorem i64s (n : Int) (h : -9223372036854775808 ≤ n ∧ n ≤ 9223372036854775807) : wrap64 n = n := by unfold wrap64; omega
theorem u64s (n : Int) (h : 0 ≤ n ∧ n ≤ 18446744073709551615) : IntKind.u64.wrap n = n := by simp [IntKind.wrap, IntKind.bits, IntKind.signed]; omega
theorem e_neg {α : Type} {c : Prop} [Decidable c] (hc : ¬ c) {g f : Nat → Option α} {r : α} (h : Ev f r) : Ev (fun n => if c then g n else f n) r := Ev.congr (fun k => if_neg hc) h
theorem e_pos {α : Type} {c : Prop} [Decidable c] (hc : c) {g f : Nat → Option α} {r : α} (h : Ev g r) : Ev (fun n => if c then g n else f n) r := Ev.congr (fun k => if_pos hc) h
theorem xor32 (a b : Nat) (ha : a < 4294967296) (hb : b < 4294967296) : bits .xor .u32 (a : Int) (b : Int) = ((a ^^^ b : Nat) : Int) := by
  have h : a ^^^ b < 2 ^ 32 := Nat.xor_lt_two_pow ha hb
  have e : bits .xor .u32 (a : Int) (b : Int) = IntKind.u32.wrap ((BitVec.ofInt 32 (a : Int) ^^^ BitVec.ofInt 32 (b : Int)).toNat : Int) := rfl
  rw [e, BitVec.ofInt_natCast, BitVec.ofInt_natCast, BitVec.toNat_xor, BitVec.toNat_ofNat, BitVec.toNat_ofNat, Nat.mod_eq_of_lt ha, Nat.mod_eq_of_lt hb, IntKind.wrap_u32]
  omega
theorem mask32n (x : Int) (i : Nat) (hi : i ≤ 32) (h : 0 ≤ x ∧ x < 4294967296) : bits .and .u32 x (2 ^ i - 1) = x % 2 ^ i := bits_mask .u32 32 (by decide) (fun n h0 h1 => by rw [IntKind.wrap_u32]; omega) i hi x h.1 h.2

def bitn (c : Nat) : Nat := (c / 2) ^^^ (if c % 2 = 1 then 3988292384 else 0)
theorem pick_lt (c : Nat) : (if c % 2 = 1 then 3988292384 else 0) < 2 ^ 32 := by split <;> decide
theorem bitn_lt {c : Nat} (h : c < 4294967296) : bitn c < 4294967296 := Nat.xor_lt_two_pow (n := 32) (by omega) (pick_lt c)
theorem bit_nat (c : Nat) (h : c < 4294967296) : Cr.bit (c : Int) = ((bitn c : Nat) : Int) := by
  unfold Cr.bit bitn
  have e1 : bits .and .u32 (c : Int) 1 = (c : Int) % 2 := mask32n c 1 (by decide) (by omega)
  have e0 : bits .and .u32 3988292384 0 = 0 := by
    have := mask32n 3988292384 0 (by decide) (by omega)
    simpa using this
  have e2 : bits .and .u32 3988292384 4294967295 = 3988292384 := mask32n 3988292384 32 (by decide) (by omega)
  rw [e1]
  have hd : (c : Int) / 2 = ((c / 2 : Nat) : Int) := by omega
  by_cases p : c % 2 = 1
  · rw [if_pos p, show (c : Int) % 2 = 1 by omega, show IntKind.u32.wrap (-1) = 4294967295 by decide, e2, hd]
    exact xor32 (c / 2) 3988292384 (by omega) (by decide)
  · rw [if_neg p, show (c : Int) % 2 = 0 by omega, show IntKind.u32.wrap (-0) = 0 by decide, e0, hd]
    exact xor32 (c / 2) 0 (by omega) (by decide)
def bitN (c : Nat) : Nat → Nat
  | 0 => c
  | n + 1 => bitn (bitN c n)
theorem bitN_lt {c : Nat} (h : c < 4294967296) : ∀ n, bitN c n < 4294967296
  | 0 => h
  | n + 1 => bitn_lt (bitN_lt h n)
theorem bitN_nat (c : Nat) (h : c < 4294967296) : ∀ n, Cr.bitN (c : Int) n = ((bitN c n : Nat) : Int)
  | 0 => rfl
  | n + 1 => by
    show Cr.bit (Cr.bitN (c : Int) n) = _
    rw [bitN_nat c h n, bit_nat _ (bitN_lt h n)]
    rfl
def byte (c x : Nat) : Nat := bitN (c ^^^ x) 8
theorem xor_lt {c x : Nat} (h : c < 4294967296) (hx : x < 256) : c ^^^ x < 4294967296 := Nat.xor_lt_two_pow (n := 32) h (by omega)
theorem byte_lt {c x : Nat} (h : c < 4294967296) (hx : x < 256) : byte c x < 4294967296 := bitN_lt (xor_lt h hx) 8
theorem byte_nat (c x : Nat) (h : c < 4294967296) (hx : x < 256) : Cr.byte (c : Int) (x : Int) = ((byte c x : Nat) : Int) := by
  unfold Cr.byte byte
  rw [show (x : Int) % 4294967296 = (x : Int) by omega, xor32 c x h (by omega), bitN_nat _ (xor_lt h hx)]
def Bytes (l : List Int) : Prop := ∀ x ∈ l, 0 ≤ x ∧ x < 256
def fold (c : Nat) (l : List Int) : Nat := l.foldl (fun c x => byte c x.toNat) c
theorem bytes_cons {x : Int} {t : List Int} (h : Bytes (x :: t)) : (0 ≤ x ∧ x < 256) ∧ Bytes t := ⟨h x (List.mem_cons_self ..), fun y hy => h y (List.mem_cons_of_mem _ hy)⟩
theorem fold_nat : ∀ (l : List Int) (c : Nat), c < 4294967296 → Bytes l → l.foldl Cr.byte (c : Int) = ((fold c l : Nat) : Int) ∧ fold c l < 4294967296
  | [], c, h, _ => ⟨rfl, h⟩
  | x :: t, c, h, hb => by
    obtain ⟨hx, ht⟩ := bytes_cons hb
    have e : (x : Int) = ((x.toNat : Nat) : Int) := by omega
    have hn := fold_nat t (byte c x.toNat) (byte_lt h (by omega)) ht
    rw [List.foldl_cons]
    have : Cr.byte (c : Int) x = ((byte c x.toNat : Nat) : Int) := by
      have := byte_nat c x.toNat h (by omega)
      rwa [← e] at this
    rw [this]
    exact hn
theorem sum_nat {l : List Int} (hb : Bytes l) : Cr.sum l = 4294967295 - ((fold 4294967295 l : Nat) : Int) ∧ fold 4294967295 l < 4294967296 := by
  obtain ⟨h1, h2⟩ := fold_nat l 4294967295 (by decide) hb
  refine ⟨?_, h2⟩
  unfold Cr.sum Cr.fold
  rw [show (4294967295 : Int) = ((4294967295 : Nat) : Int) from rfl, h1]
  have hx : (4294967295 : Nat) ^^^ fold 4294967295 l = 4294967295 - fold 4294967295 l := by
    have e : (BitVec.allOnes 32 ^^^ BitVec.ofNat 32 (fold 4294967295 l)).toNat = (~~~ BitVec.ofNat 32 (fold 4294967295 l)).toNat := by rw [BitVec.allOnes_xor]
    rw [BitVec.toNat_xor, BitVec.toNat_not, BitVec.toNat_ofNat, Nat.mod_eq_of_lt h2] at e
    exact e
  have hm : IntKind.u32.max = ((4294967295 : Nat) : Int) := by decide
  rw [hm, xor32 4294967295 _ (by decide) h2, hx]
  omega
theorem sum_bd {l : List Int} (hb : Bytes l) : 0 ≤ Cr.sum l ∧ Cr.sum l < 4294967296 := by
  obtain ⟨h1, h2⟩ := sum_nat hb
  omega

/-! ### the document's, bit by bit -/
def rbit (c b : Nat) : Nat := if c % 2 = b then c / 2 else (c / 2) ^^^ 3988292384
theorem rbit_lt {c b : Nat} (h : c < 4294967296) : rbit c b < 4294967296 := by
  unfold rbit
  split
  · omega
  · exact Nat.xor_lt_two_pow (n := 32) (by omega) (by decide)
theorem bit_step (r y : Nat) : bitn (r ^^^ y) = rbit r (y % 2) ^^^ (y / 2) := by
  unfold bitn rbit
  have hp := @Nat.xor_mod_two_eq_one r y
  rw [Nat.xor_div_two]
  by_cases c : r % 2 = y % 2
  · rw [if_pos c, if_neg (fun h => (hp.mp h) (by omega)), Nat.xor_zero]
  · rw [if_neg c, if_pos (hp.mpr (by omega)), Nat.xor_assoc, Nat.xor_assoc, Nat.xor_comm (y / 2)]
def rbits (c x : Nat) : Nat → Nat
  | 0 => c
  | n + 1 => rbit (rbits c x n) (x / 2 ^ n % 2)
theorem rbits_lt {c x : Nat} (h : c < 4294967296) : ∀ n, rbits c x n < 4294967296
  | 0 => h
  | n + 1 => rbit_lt (rbits_lt h n)
theorem bits_rel (c x : Nat) : ∀ n, bitN (c ^^^ x) n = rbits c x n ^^^ (x / 2 ^ n)
  | 0 => by rw [Nat.pow_zero, Nat.div_one]; rfl
  | n + 1 => by
    show bitn (bitN (c ^^^ x) n) = rbit (rbits c x n) (x / 2 ^ n % 2) ^^^ (x / 2 ^ (n + 1))
    rw [bits_rel c x n, bit_step, Nat.pow_succ, Nat.div_div_eq_div_mul]
theorem byte_rel {c x : Nat} (hx : x < 256) : byte c x = rbits c x 8 := by
  unfold byte
  rw [bits_rel, Nat.div_eq_of_lt (by omega), Nat.xor_zero]

theorem rcrc_bit (l : List Int) (hb : Bytes l) (hl : l.length ≤ 1000000) (q j c : Nat) (hq : q < l.length) (hj : j < 8) (hc : c < 4294967296) (R : Int)
    (h : Ev (fun k => remontoireref07_CRC.l0 k l ((rbit c ((rd l (q : Int)).toNat / 2 ^ j % 2) : Nat) : Int) ((8 * q + (j + 1) : Nat) : Int)) R) :
    Ev (fun k => remontoireref07_CRC.l0 k l (c : Int) ((8 * q + j : Nat) : Int)) R := by
  have hx : 0 ≤ rd l (q : Int) ∧ rd l (q : Int) < 256 := by
    refine hb _ ?_
    unfold rd
    rw [Int.toNat_natCast, List.getD_eq_getElem?_getD, List.getElem?_eq_getElem hq]
    exact List.getElem_mem hq
  have e1 : Int.tdiv ((8 * q + j : Nat) : Int) 8 = (q : Int) := by rw [Int.tdiv_eq_ediv_of_nonneg (by omega)]; omega
  have e2 : Int.tmod ((8 * q + j : Nat) : Int) 8 = (j : Int) := by rw [Int.tmod_eq_emod_of_nonneg (by omega)]; omega
  have hp : 2 ^ j ≤ 128 := by have := Nat.pow_le_pow_right (n := 2) (by decide) (show j ≤ 7 by omega); simpa using this
  have hp0 : 0 < 2 ^ j := Nat.two_pow_pos j
  have e3 : shl .u32 1 ((j : Nat) : Int) = ((2 ^ j : Nat) : Int) := by
    unfold shl
    have hb : IntKind.u32.bits = 32 := rfl
    rw [hb, Int.toNat_natCast, show min j 32 = j by omega, Int.one_mul, show ((2 : Int) ^ j) = ((2 ^ j : Nat) : Int) by simp, IntKind.wrap_u32]
    omega
  have e4 : Int.tmod (c : Int) 2 = ((c % 2 : Nat) : Int) := by rw [Int.tmod_eq_emod_of_nonneg (by omega)]; omega
  have e5 : Int.tdiv (c : Int) 2 = ((c / 2 : Nat) : Int) := by rw [Int.tdiv_eq_ediv_of_nonneg (by omega)]; omega
  obtain ⟨x, hxe⟩ : ∃ x : Nat, rd l (q : Int) = (x : Int) := ⟨(rd l (q : Int)).toNat, by omega⟩
  have hbit : ((rd l (q : Int)) % 4294967296 / ((2 ^ j : Nat) : Int)) % 4294967296 % 2 = ((x / 2 ^ j % 2 : Nat) : Int) := by
    rw [hxe, show (x : Int) % 4294967296 = (x : Int) by omega, ← Int.natCast_ediv]
    have : x / 2 ^ j ≤ x := Nat.div_le_self _ _
    omega
  rw [hxe, Int.toNat_natCast] at h
  refine Ev.step (fun k => ?_) h
  rw [remontoireref07_CRC.l0, i64s _ (by omega), if_pos (by omega), e1, e2, i64s (q : Int) (by omega), if_pos (by omega), if_pos (by omega), u64s (j : Int) (by omega), if_pos (by omega), e3, if_neg (by omega), hbit, e4, e5, i64s _ (by omega)]
  unfold rbit
  by_cases p : c % 2 = x / 2 ^ j % 2
  · rw [if_pos (by omega), if_pos p, show ((c / 2 : Nat) : Int) % 4294967296 = ((c / 2 : Nat) : Int) by omega]
    rfl
  · rw [if_neg (by omega), if_neg p, show ((c / 2 : Nat) : Int) % 4294967296 = ((c / 2 : Nat) : Int) by omega, show (3988292384 : Int) = ((3988292384 : Nat) : Int) from rfl, xor32 _ _ (by omega) (by decide)]
    rfl
theorem rcrc_byte (l : List Int) (hb : Bytes l) (hl : l.length ≤ 1000000) (q c : Nat) (hq : q < l.length) (hc : c < 4294967296) (R : Int)
    (h : Ev (fun k => remontoireref07_CRC.l0 k l ((byte c (rd l (q : Int)).toNat : Nat) : Int) ((8 * (q + 1) : Nat) : Int)) R) :
    Ev (fun k => remontoireref07_CRC.l0 k l (c : Int) ((8 * q : Nat) : Int)) R := by
  have hx : 0 ≤ rd l (q : Int) ∧ rd l (q : Int) < 256 := by
    refine hb _ ?_
    unfold rd
    rw [Int.toNat_natCast, List.getD_eq_getElem?_getD, List.getElem?_eq_getElem hq]
    exact List.getElem_mem hq
  have key : ∀ n : Nat, n ≤ 8 → Ev (fun k => remontoireref07_CRC.l0 k l ((rbits c (rd l (q : Int)).toNat (8 - n) : Nat) : Int) ((8 * q + (8 - n) : Nat) : Int)) R := by
    intro n
    induction n with
    | zero =>
      intro _
      rw [byte_rel (by omega)] at h
      exact h
    | succ n ih =>
      intro hn
      have := ih (by omega)
      refine rcrc_bit l hb hl q (8 - (n + 1)) _ hq (by omega) (rbits_lt hc _) R ?_
      rw [show 8 - (n + 1) + 1 = 8 - n by omega]
      have e : rbits c (rd l (q : Int)).toNat (8 - n) = rbit (rbits c (rd l (q : Int)).toNat (8 - (n + 1))) ((rd l (q : Int)).toNat / 2 ^ (8 - (n + 1)) % 2) := by
        rw [show 8 - n = (8 - (n + 1)) + 1 by omega]
        rfl
      rw [e] at this
      exact this
  exact key 8 (by omega)
theorem rcrc_tells (l : List Int) (hb : Bytes l) (hl : l.length ≤ 1000000) : Ev (fun k => remontoireref07_CRC.f k l) (Cr.sum l) := by
  have key : ∀ j q c : Nat, q + j = l.length → c < 4294967296 → Ev (fun k => remontoireref07_CRC.l0 k l (c : Int) ((8 * q : Nat) : Int)) (4294967295 - ((fold c (l.drop q) : Nat) : Int)) := by
    intro j
    induction j with
    | zero =>
      intro q c h hc
      rw [List.drop_of_length_le (by omega)]
      refine Ev.step (f := fun _ => some (4294967295 - (c : Int))) (fun k => ?_) (Ev.now _)
      rw [remontoireref07_CRC.l0, i64s _ (by omega), if_neg (by omega), show (4294967295 - (c : Int)) % 4294967296 = 4294967295 - (c : Int) by omega]
    | succ j ih =>
      intro q c h hc
      have hq : q < l.length := by omega
      have hd : l.drop q = rd l (q : Int) :: l.drop (q + 1) := by
        rw [List.drop_eq_getElem_cons hq]
        unfold rd
        rw [Int.toNat_natCast, List.getD_eq_getElem?_getD, List.getElem?_eq_getElem hq]
        rfl
      have hx : 0 ≤ rd l (q : Int) ∧ rd l (q : Int) < 256 := hb _ (List.mem_of_mem_drop (by rw [hd]; exact List.mem_cons_self ..))
      refine rcrc_byte l hb hl q c hq hc _ ?_
      have := ih (q + 1) (byte c (rd l (q : Int)).toNat) (by omega) (byte_lt hc (by omega))
      rw [hd]
      exact this
  have := key l.length 0 4294967295 (by omega) (by decide)
  rw [List.drop_zero, ← (sum_nat hb).1] at this
  exact this

/-! ### Another byte makes another sum -/
theorem xor_cancel {a b c : Nat} (h : a ^^^ c = b ^^^ c) : a = b := by
  have := congrArg (· ^^^ c) h
  simpa [Nat.xor_assoc] using this
theorem bitn_top {c : Nat} (h : c < 4294967296) : bitn c / 2147483648 = c % 2 := by
  unfold bitn
  have e := @Nat.xor_div_two_pow (c / 2) (if c % 2 = 1 then 3988292384 else 0) 31
  rw [show (2 : Nat) ^ 31 = 2147483648 from rfl] at e
  rw [e, show c / 2 / 2147483648 = 0 by omega, Nat.zero_xor]
  by_cases p : c % 2 = 1
  · rw [if_pos p, p]
  · rw [if_neg p]; omega
theorem bitn_inj {a b : Nat} (ha : a < 4294967296) (hb : b < 4294967296) (h : bitn a = bitn b) : a = b := by
  have h1 := bitn_top ha
  have h2 := bitn_top hb
  rw [h] at h1
  have hp : a % 2 = b % 2 := by omega
  unfold bitn at h
  rw [hp] at h
  have := xor_cancel h
  omega
theorem bitN_inj {a b : Nat} (ha : a < 4294967296) (hb : b < 4294967296) : ∀ n, bitN a n = bitN b n → a = b
  | 0, h => h
  | n + 1, h => bitN_inj ha hb n (bitn_inj (bitN_lt ha n) (bitN_lt hb n) h)
theorem byte_inj_c {a b x : Nat} (ha : a < 4294967296) (hb : b < 4294967296) (hx : x < 256) (h : byte a x = byte b x) : a = b :=
  xor_cancel (bitN_inj (xor_lt ha hx) (xor_lt hb hx) 8 h)
theorem byte_inj_x {a x y : Nat} (ha : a < 4294967296) (hx : x < 256) (hy : y < 256) (h : byte a x = byte a y) : x = y := by
  have := bitN_inj (xor_lt ha hx) (xor_lt ha hy) 8 h
  rw [Nat.xor_comm a x, Nat.xor_comm a y] at this
  exact xor_cancel this
theorem fold_inj : ∀ (l : List Int) (a b : Nat), a < 4294967296 → b < 4294967296 → Bytes l → fold a l = fold b l → a = b
  | [], a, b, _, _, _, h => h
  | x :: t, a, b, ha, hb, hl, h => by
    obtain ⟨hx, ht⟩ := bytes_cons hl
    exact byte_inj_c ha hb (by omega) (fold_inj t _ _ (byte_lt ha (by omega)) (byte_lt hb (by omega)) ht h)
theorem fold_set : ∀ (l : List Int) (i : Nat) (c : Nat) (y : Int), c < 4294967296 → Bytes l → (0 ≤ y ∧ y < 256) → i < l.length → y ≠ rd l (i : Int) → fold c (l.set i y) ≠ fold c l
  | [], i, c, y, _, _, _, hi, _ => absurd hi (by simp)
  | x :: t, 0, c, y, hc, hl, hy, hi, hne => by
    obtain ⟨hx, ht⟩ := bytes_cons hl
    intro h
    have h2 := fold_inj t _ _ (byte_lt hc (by omega)) (byte_lt hc (by omega)) ht h
    have h3 := byte_inj_x hc (by omega) (by omega) h2
    have : rd (x :: t) ((0 : Nat) : Int) = x := rfl
    rw [this] at hne
    omega
  | x :: t, i + 1, c, y, hc, hl, hy, hi, hne => by
    obtain ⟨hx, ht⟩ := bytes_cons hl
    refine fold_set t i (byte c x.toNat) y (byte_lt hc (by omega)) ht hy (by simpa using hi) ?_
    have : rd (x :: t) ((i + 1 : Nat) : Int) = rd t (i : Int) := by
      unfold rd
      rw [Int.toNat_natCast, Int.toNat_natCast]
      rfl
    rwa [this] at hne
theorem bytes_set {l : List Int} (hl : Bytes l) (i : Nat) {y : Int} (hy : 0 ≤ y ∧ y < 256) : Bytes (l.set i y) := by
  intro x hx
  rcases List.mem_or_eq_of_mem_set hx with h | h
  · exact hl x h
  · rw [h]; exact hy
theorem sum_set {l : List Int} (hl : Bytes l) (i : Nat) {y : Int} (hy : 0 ≤ y ∧ y < 256) (hi : i < l.length) (hne : y ≠ rd l (i : Int)) : Cr.sum (l.set i y) ≠ Cr.sum l := by
  have h1 := (sum_nat hl).1
  have h2 := (sum_nat (bytes_set hl i hy)).1
  have h3 := fold_set l i 4294967295 y (by decide) hl hy hi hne
  intro h
  exact h3 (by omega)
end Go.Proofs.Ytjldkgcabombhaa.Rec
