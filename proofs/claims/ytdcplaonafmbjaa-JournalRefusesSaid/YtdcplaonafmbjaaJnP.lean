/- The journal's arithmetic, plainly: sums, and numbers as four bytes. -/
import Derived.Test.YtdcplaonafmbjaaLiftP
import Derived.Laws.Bits64b
namespace Go.Proofs.Ytdcplaonafmbjaa
open Go.RowKit

def sumStep (n c : Int) : Int := bits .xor .u32 n (c % 4294967296) * 16777619 % 4294967296
theorem sumStep_in (n c : Int) : 0 ≤ sumStep n c ∧ sumStep n c < 4294967296 := by unfold sumStep; omega
def sumB (n : Int) (b : List Int) : Int := b.foldl sumStep n
theorem sumB_snoc (n : Int) (b : List Int) (c : Int) : sumB n (b ++ [c]) = sumStep (sumB n b) c := by unfold sumB; rw [List.foldl_append]; rfl
theorem sumB_in {n : Int} (h : 0 ≤ n ∧ n < 4294967296) (b : List Int) : 0 ≤ sumB n b ∧ sumB n b < 4294967296 := by
  unfold sumB
  induction b generalizing n with
  | nil => exact h
  | cons c b ih => exact ih (sumStep_in n c)
def sumW (l : List Wr) : Int := l.foldl (fun n x => sumB (sumB n [(x.1 : Int)]) x.2) 2166136261
theorem sumW_snoc (l : List Wr) (x : Wr) : sumW (l ++ [x]) = sumB (sumB (sumW l) [(x.1 : Int)]) x.2 := by unfold sumW; rw [List.foldl_append]; rfl
theorem sumW_in (l : List Wr) : 0 ≤ sumW l ∧ sumW l < 4294967296 := by
  have key : ∀ k, k ≤ l.length → 0 ≤ sumW (l.take k) ∧ sumW (l.take k) < 4294967296 := by
    intro k
    induction k with
    | zero => intro _; show (0 : Int) ≤ 2166136261 ∧ (2166136261 : Int) < 4294967296; omega
    | succ k ih =>
      intro hk
      rw [← List.take_append_getElem (show k < l.length by omega), sumW_snoc]
      exact sumB_in (sumB_in (ih (by omega)) _) _
  have := key l.length (Nat.le_refl _)
  rwa [List.take_length] at this
def wordB (n : Int) : List Int := [n % 256, n / 256 % 256, n / 65536 % 256, n / 16777216]
def rdB (a b c d : Int) : Int := bits .or .u32 (bits .or .u32 (bits .or .u32 (a % 4294967296) (b % 4294967296 * 256 % 4294967296)) (c % 4294967296 * 65536 % 4294967296)) (d % 4294967296 * 16777216 % 4294967296)
theorem or_u32 (k a b : Nat) (ha : a < 2 ^ k) (hb : b * 2 ^ k + a < 4294967296) : bits .or .u32 (a : Int) ((b * 2 ^ k : Nat) : Int) = ((b * 2 ^ k + a : Nat) : Int) := by
  have ha2 : a < 4294967296 := by omega
  have hb2 : b * 2 ^ k < 4294967296 := by omega
  have h1 : (BitVec.ofInt 32 (a : Int)).toNat = a := by
    rw [BitVec.ofInt_natCast, BitVec.toNat_ofNat]; exact Nat.mod_eq_of_lt (by omega)
  have h2 : (BitVec.ofInt 32 ((b * 2 ^ k : Nat) : Int)).toNat = b * 2 ^ k := by
    rw [BitVec.ofInt_natCast, BitVec.toNat_ofNat]; exact Nat.mod_eq_of_lt (by omega)
  show IntKind.u32.wrap ((BitVec.ofInt 32 (a : Int) ||| BitVec.ofInt 32 ((b * 2 ^ k : Nat) : Int)).toNat : Int) = _
  have h3 : a ||| b * 2 ^ k = b * 2 ^ k + a := by
    have := Nat.shiftLeft_add_eq_or_of_lt (i := k) (b := a) ha b
    rw [Nat.shiftLeft_eq] at this
    rw [Nat.or_comm]
    exact this.symm
  rw [BitVec.toNat_or, h1, h2, h3]
  generalize b * 2 ^ k + a = x at *
  simp [IntKind.wrap, IntKind.signed, IntKind.bits]
  omega
theorem rd_word (n : Int) (h0 : 0 ≤ n) (h1 : n < 4294967296) : rdB (n % 256) (n / 256 % 256) (n / 65536 % 256) (n / 16777216) = n := by
  obtain ⟨m, rfl⟩ : ∃ m : Nat, n = (m : Int) := ⟨n.toNat, by omega⟩
  unfold rdB
  have e1 : (m : Int) % 256 % 4294967296 = ((m % 256 : Nat) : Int) := by omega
  have e2 : (m : Int) / 256 % 256 % 4294967296 * 256 % 4294967296 = ((m / 256 % 256 * 2 ^ 8 : Nat) : Int) := by omega
  have e3 : (m : Int) / 65536 % 256 % 4294967296 * 65536 % 4294967296 = ((m / 65536 % 256 * 2 ^ 16 : Nat) : Int) := by omega
  have e4 : (m : Int) / 16777216 % 4294967296 * 16777216 % 4294967296 = ((m / 16777216 * 2 ^ 24 : Nat) : Int) := by omega
  rw [e1, e2, e3, e4, or_u32 8 _ _ (by omega) (by omega), or_u32 16 _ _ (by omega) (by omega), or_u32 24 _ _ (by omega) (by omega)]
  omega
theorem wordB_in (n : Int) (h0 : 0 ≤ n) (h1 : n < 4294967296) : ∀ x ∈ wordB n, 0 ≤ x ∧ x ≤ 255 := by
  intro x hx
  unfold wordB at hx
  simp at hx
  omega

end Go.Proofs.Ytdcplaonafmbjaa
