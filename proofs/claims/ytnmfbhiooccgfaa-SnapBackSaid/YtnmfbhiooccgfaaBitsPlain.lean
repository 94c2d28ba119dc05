/- Plain facts about sets of 256 sectors, kept as 32 bytes: no program in sight. -/
import Derived.WalkKit
namespace Go.Proofs.Ytnmfbhiooccgfaa
open Go.RowKit

def b2 (b : Bool) (k : Nat) : Nat := if b then k else 0
/-- The byte whose bits are f 0 .. f 7. -/
def byteN (f : Nat → Bool) : Nat := b2 (f 0) 1 + b2 (f 1) 2 + b2 (f 2) 4 + b2 (f 3) 8 + b2 (f 4) 16 + b2 (f 5) 32 + b2 (f 6) 64 + b2 (f 7) 128
def byteAt (s : Nat → Bool) (i : Nat) : Nat := byteN fun j => s (8 * i + j)
def enc (s : Nat → Bool) : Array Value := Array.ofFn (n := 32) fun i => Value.int .u8 (byteAt s i.val)

theorem enc_size (s : Nat → Bool) : (enc s).size = 32 := by simp [enc]
theorem enc_get (s : Nat → Bool) (i : Nat) (h : i < 32) : (enc s)[i]? = some (.int .u8 (byteAt s i)) := by
  simp [enc, h]
theorem enc_one (s : Nat → Bool) : (enc s).all (·.oneCell') = true := by
  rw [Array.all_eq_true_iff_forall_mem]
  intro v hv
  simp only [enc, Array.mem_ofFn] at hv
  obtain ⟨i, rfl⟩ := hv
  rfl

theorem b2_lt (b : Bool) (k : Nat) : b2 b k ≤ k := by unfold b2; split <;> omega
theorem byteN_lt (f : Nat → Bool) : byteN f < 256 := by
  unfold byteN
  have h0 := b2_lt (f 0) 1
  have h1 := b2_lt (f 1) 2
  have h2 := b2_lt (f 2) 4
  have h3 := b2_lt (f 3) 8
  have h4 := b2_lt (f 4) 16
  have h5 := b2_lt (f 5) 32
  have h6 := b2_lt (f 6) 64
  have h7 := b2_lt (f 7) 128
  omega
theorem byteAt_lt (s : Nat → Bool) (i : Nat) : byteAt s i < 256 := byteN_lt _

theorem byteN_congr {f g : Nat → Bool} (h : ∀ j, j < 8 → f j = g j) : byteN f = byteN g := by
  unfold byteN
  rw [h 0 (by omega), h 1 (by omega), h 2 (by omega), h 3 (by omega), h 4 (by omega), h 5 (by omega), h 6 (by omega), h 7 (by omega)]

/-- A byte out of eight bits. -/
def by8 (b0 b1 b2' b3 b4 b5 b6 b7 : Bool) : Nat := b2 b0 1 + b2 b1 2 + b2 b2' 4 + b2 b3 8 + b2 b4 16 + b2 b5 32 + b2 b6 64 + b2 b7 128
theorem byteN_by8 (f : Nat → Bool) : byteN f = by8 (f 0) (f 1) (f 2) (f 3) (f 4) (f 5) (f 6) (f 7) := rfl

theorem by8_testBit : ∀ (k : Fin 8) (a b c d e f g h : Bool), (by8 a b c d e f g h).testBit k.val = [a, b, c, d, e, f, g, h].getD k.val false := by decide +kernel
theorem by8_lift : ∀ x : Fin 256, by8 (x.val.testBit 0) (x.val.testBit 1) (x.val.testBit 2) (x.val.testBit 3) (x.val.testBit 4) (x.val.testBit 5) (x.val.testBit 6) (x.val.testBit 7) = x.val := by decide +kernel

theorem byteN_testBit (f : Nat → Bool) (k : Nat) (hk : k < 8) : (byteN f).testBit k = f k := by
  have := by8_testBit ⟨k, hk⟩ (f 0) (f 1) (f 2) (f 3) (f 4) (f 5) (f 6) (f 7)
  rw [byteN_by8, this]
  match k, hk with
  | 0, _ => rfl
  | 1, _ => rfl
  | 2, _ => rfl
  | 3, _ => rfl
  | 4, _ => rfl
  | 5, _ => rfl
  | 6, _ => rfl
  | 7, _ => rfl
  | k + 8, h => omega
theorem testBit_big (x k : Nat) (hx : x < 256) (hk : 8 ≤ k) : x.testBit k = false :=
  Nat.testBit_lt_two_pow (Nat.lt_of_lt_of_le hx (by
    have : 2 ^ 8 ≤ 2 ^ k := Nat.pow_le_pow_right (by omega) hk
    simpa using this))
theorem eq_byteN (x : Nat) (f : Nat → Bool) (hx : x < 256) (h : ∀ k, k < 8 → x.testBit k = f k) : x = byteN f := by
  apply Nat.eq_of_testBit_eq
  intro k
  by_cases hk : k < 8
  · rw [h k hk, byteN_testBit f k hk]
  · rw [testBit_big x k hx (by omega), testBit_big _ k (byteN_lt f) (by omega)]
theorem byteN_inj {f g : Nat → Bool} (h : byteN f = byteN g) (j : Nat) (hj : j < 8) : f j = g j := by
  rw [← byteN_testBit f j hj, ← byteN_testBit g j hj, h]

theorem bits_or8 (a b : Nat) (ha : a < 256) (hb : b < 256) : bits .or .u8 a b = ((a ||| b : Nat) : Int) :=
  (bits_nat .u8 8 (by decide) wraps_u8 a b ha hb).2
theorem bits_and8 (a b : Nat) (ha : a < 256) (hb : b < 256) : bits .and .u8 a b = ((a &&& b : Nat) : Int) :=
  (bits_nat .u8 8 (by decide) wraps_u8 a b ha hb).1
theorem bits_or_byte (f g : Nat → Bool) : bits .or .u8 (byteN f) (byteN g) = (byteN (fun j => f j || g j) : Nat) := by
  rw [bits_or8 _ _ (byteN_lt f) (byteN_lt g)]
  congr 1
  exact eq_byteN _ _ (Nat.or_lt_two_pow (n := 8) (byteN_lt f) (byteN_lt g)) fun k hk => by
    rw [Nat.testBit_or, byteN_testBit f k hk, byteN_testBit g k hk]
theorem bits_andNot_byte (f g : Nat → Bool) : bits .andNot .u8 (byteN f) (byteN g) = (byteN (fun j => f j && !g j) : Nat) := by
  have hf := byteN_lt f
  have hg := byteN_lt g
  have e : bits .andNot .u8 (byteN f) (byteN g) = ((BitVec.ofNat 8 (byteN f) &&& ~~~BitVec.ofNat 8 (byteN g)).toNat : Int) := by
    unfold bits
    simp only [BitVec.ofInt_natCast]
    rw [wraps_u8 _ (Int.natCast_nonneg _)]
    · rfl
    · have := (BitVec.ofNat IntKind.u8.bits (byteN f) &&& ~~~BitVec.ofNat IntKind.u8.bits (byteN g)).isLt
      have h8 : IntKind.u8.bits = 8 := rfl
      simp only [h8] at this ⊢
      omega
  rw [e]
  congr 1
  refine eq_byteN _ _ (BitVec.isLt _) fun k hk => ?_
  have : (BitVec.ofNat 8 (byteN f) &&& ~~~BitVec.ofNat 8 (byteN g)).toNat.testBit k = (BitVec.ofNat 8 (byteN f) &&& ~~~BitVec.ofNat 8 (byteN g)).getLsbD k := rfl
  rw [this, BitVec.getLsbD_and, BitVec.getLsbD_not, BitVec.getLsbD_ofNat, BitVec.getLsbD_ofNat, byteN_testBit f k hk, byteN_testBit g k hk]
  simp [hk]
theorem one_byte : ∀ k : Fin 8, 2 ^ k.val % 256 = byteN (fun j => decide (j = k.val)) := by decide +kernel
theorem one_byte' (k : Nat) (hk : k < 8) : ((2 : Int) ^ k % 256) = (byteN (fun j => decide (j = k)) : Nat) := by
  rw [← one_byte ⟨k, hk⟩]; simp
theorem byteN_shr (f : Nat → Bool) (k : Nat) (hk : k < 8) : bits .and .u8 (((byteN f : Nat) : Int) / 2 ^ k) 1 = if f k then 1 else 0 := by
  have hf := byteN_lt f
  have e : ((byteN f : Nat) : Int) / 2 ^ k = ((byteN f >>> k : Nat) : Int) := by
    rw [Nat.shiftRight_eq_div_pow]; simp
  have hs : byteN f >>> k < 256 := by
    rw [Nat.shiftRight_eq_div_pow]; exact Nat.lt_of_le_of_lt (Nat.div_le_self _ _) hf
  rw [e, show (1 : Int) = ((1 : Nat) : Int) from rfl, bits_and8 _ 1 hs (by omega)]
  have : byteN f >>> k &&& 1 = if f k then 1 else 0 := by
    have ht := byteN_testBit f k hk
    rw [Nat.testBit_eq_decide_div_mod_eq] at ht
    rw [Nat.and_one_is_mod, Nat.shiftRight_eq_div_pow, ← ht]
    by_cases h : byteN f / 2 ^ k % 2 = 1
    · simp [h]
    · have : byteN f / 2 ^ k % 2 = 0 := by omega
      simp [this]
  rw [this]
  split <;> rfl
theorem byteN_bits (x : Nat) (h : x < 256) : byteN (fun j => x.testBit j) = x := by8_lift ⟨x, h⟩


/-- A set with one more, with one less. -/
def ins (s : Nat → Bool) (n : Nat) : Nat → Bool := fun m => s m || decide (m = n)
def del (s : Nat → Bool) (n : Nat) : Nat → Bool := fun m => s m && !decide (m = n)
def join (s t : Nat → Bool) : Nat → Bool := fun m => s m || t m
def less (s t : Nat → Bool) : Nat → Bool := fun m => s m && !t m

theorem byteAt_congr {s t : Nat → Bool} {i : Nat} (h : ∀ j, j < 8 → s (8 * i + j) = t (8 * i + j)) : byteAt s i = byteAt t i := byteN_congr h

theorem enc_put (s t : Nat → Bool) (i : Nat) (hi : i < 32) (ho : ∀ m, m / 8 ≠ i → s m = t m) : (enc s).setIfInBounds i (.int .u8 (byteAt t i)) = enc t := by
  apply Array.ext_getElem?
  intro k
  rw [Array.getElem?_setIfInBounds]
  by_cases hk : k < 32
  · rw [enc_get t k hk]
    by_cases e : i = k
    · subst e; simp [enc_size, hi]
    · rw [if_neg e, enc_get s k hk, byteAt_congr fun j hj => ho _ (by omega)]
  · have h1 : (enc s)[k]? = none := by simp [enc_size]; omega
    have h2 : (enc t)[k]? = none := by simp [enc_size]; omega
    rw [h1, h2]
    split <;> simp [enc_size] <;> omega

theorem enc_ins (s : Nat → Bool) (n : Nat) (hn : n < 256) : (enc s).setIfInBounds (n / 8) (.int .u8 (bits .or .u8 (byteAt s (n / 8)) (2 ^ (n % 8) % 256))) = enc (ins s n) := by
  rw [one_byte' _ (by omega)]
  unfold byteAt
  rw [bits_or_byte]
  have e : byteN (fun j => s (8 * (n / 8) + j) || decide (j = n % 8)) = byteAt (ins s n) (n / 8) := byteN_congr fun j hj => by
    unfold ins
    congr 2
    rw [eq_iff_iff]; omega
  rw [e]
  exact enc_put s (ins s n) (n / 8) (by omega) fun m hm => by
    unfold ins
    rw [decide_eq_false (fun h : m = n => hm (by rw [h])), Bool.or_false]

theorem enc_del (s : Nat → Bool) (n : Nat) (hn : n < 256) : (enc s).setIfInBounds (n / 8) (.int .u8 (bits .andNot .u8 (byteAt s (n / 8)) (2 ^ (n % 8) % 256))) = enc (del s n) := by
  rw [one_byte' _ (by omega)]
  unfold byteAt
  rw [bits_andNot_byte]
  have e : byteN (fun j => s (8 * (n / 8) + j) && !decide (j = n % 8)) = byteAt (del s n) (n / 8) := byteN_congr fun j hj => by
    unfold del
    congr 3
    rw [eq_iff_iff]; omega
  rw [e]
  exact enc_put s (del s n) (n / 8) (by omega) fun m hm => by
    unfold del
    rw [decide_eq_false (fun h : m = n => hm (by rw [h])), Bool.not_false, Bool.and_true]

/-- How many bits of a byte are set; how many sectors below k are in a set. -/
def pop8 (x : Nat) : Nat := b2 (x.testBit 0) 1 + b2 (x.testBit 1) 1 + b2 (x.testBit 2) 1 + b2 (x.testBit 3) 1 + b2 (x.testBit 4) 1 + b2 (x.testBit 5) 1 + b2 (x.testBit 6) 1 + b2 (x.testBit 7) 1
def cntTo (s : Nat → Bool) : Nat → Nat
  | 0 => 0
  | k + 1 => cntTo s k + b2 (s k) 1
theorem pop8_byteAt (s : Nat → Bool) (i : Nat) : cntTo s (8 * i + 8) = cntTo s (8 * i) + pop8 (byteAt s i) := by
  unfold pop8 byteAt
  rw [byteN_testBit _ 0 (by omega), byteN_testBit _ 1 (by omega), byteN_testBit _ 2 (by omega), byteN_testBit _ 3 (by omega), byteN_testBit _ 4 (by omega), byteN_testBit _ 5 (by omega), byteN_testBit _ 6 (by omega), byteN_testBit _ 7 (by omega)]
  simp only [cntTo, Nat.add_zero]
  omega
theorem cntTo_le (s : Nat → Bool) : ∀ k, cntTo s k ≤ k
  | 0 => Nat.le_refl _
  | k + 1 => by have := cntTo_le s k; have := b2_lt (s k) 1; simp only [cntTo]; omega

/-- Two sets are told apart by their 256 elements alone. -/
theorem enc_congr {s t : Nat → Bool} (h : ∀ m, m < 256 → s m = t m) : enc s = enc t := by
  apply Array.ext_getElem?
  intro k
  by_cases hk : k < 32
  · rw [enc_get s k hk, enc_get t k hk, byteAt_congr fun j hj => h _ (by omega)]
  · have h1 : (enc s)[k]? = none := by simp [enc_size]; omega
    have h2 : (enc t)[k]? = none := by simp [enc_size]; omega
    rw [h1, h2]
theorem enc_inj {s t : Nat → Bool} (h : enc s = enc t) (m : Nat) (hm : m < 256) : s m = t m := by
  have h1 : (enc s)[m / 8]? = (enc t)[m / 8]? := by rw [h]
  rw [enc_get s _ (by omega), enc_get t _ (by omega)] at h1
  injection h1 with h1
  injection h1 with _ h1
  have h2 : byteAt s (m / 8) = byteAt t (m / 8) := by exact_mod_cast h1
  have := byteN_inj h2 (m % 8) (by omega)
  rwa [Nat.div_add_mod] at this

/-- Two sets, one after the other: below 8 k the one, from there on the other. -/
def mixTo (s r : Nat → Bool) (k : Nat) : Nat → Bool := fun m => if m < 8 * k then r m else s m
theorem enc_mix (s r : Nat → Bool) (k : Nat) (hk : k < 32) : (enc (mixTo s r k)).setIfInBounds k (.int .u8 (byteAt r k)) = enc (mixTo s r (k + 1)) := by
  have e : byteAt r k = byteAt (mixTo s r (k + 1)) k := byteAt_congr fun j hj => by unfold mixTo; rw [if_pos (by omega)]
  rw [e]
  refine enc_put _ _ k hk fun m hm => ?_
  unfold mixTo
  by_cases h : m < 8 * k
  · rw [if_pos h, if_pos (by omega)]
  · rw [if_neg h, if_neg (by omega)]
theorem byteAt_mix (s r : Nat → Bool) (k : Nat) : byteAt (mixTo s r k) k = byteAt s k := byteAt_congr fun j hj => by unfold mixTo; rw [if_neg (by omega)]
theorem enc_mix0 (s r : Nat → Bool) : enc (mixTo s r 0) = enc s := enc_congr fun m _ => by unfold mixTo; rw [if_neg (by omega)]
theorem enc_mix32 (s r : Nat → Bool) : enc (mixTo s r 32) = enc r := enc_congr fun m hm => by unfold mixTo; rw [if_pos (by omega)]
theorem byteAt_join (s t : Nat → Bool) (k : Nat) : bits .or .u8 (byteAt s k) (byteAt t k) = (byteAt (join s t) k : Nat) := bits_or_byte _ _
theorem byteAt_less (s t : Nat → Bool) (k : Nat) : bits .andNot .u8 (byteAt s k) (byteAt t k) = (byteAt (less s t) k : Nat) := bits_andNot_byte _ _

theorem full_bits : ∀ k : Fin 8, (255 : Nat).testBit k.val = true := by decide
theorem byteAt_full {s : Nat → Bool} {i : Nat} (h : byteAt s i = 255) (j : Nat) (hj : j < 8) : s (8 * i + j) = true := by
  have := byteN_testBit (fun j => s (8 * i + j)) j hj
  rw [show byteN (fun j => s (8 * i + j)) = 255 from h] at this
  rw [← this]
  exact full_bits ⟨j, hj⟩

end Go.Proofs.Ytnmfbhiooccgfaa
