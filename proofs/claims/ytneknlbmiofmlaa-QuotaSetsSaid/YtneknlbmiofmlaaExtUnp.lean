/- extent.Unpack: what 16 bytes stand for. -/
import Derived.Test.YtneknlbmiofmlaaExtEqI
import Derived.Test.YtneknlbmiofmlaaU8
import Derived.StillTailTactics
namespace Go.Proofs.Ytneknlbmiofmlaa
open Go.RowKit

/-- The runs that bytes begin with. -/
def runsE : List Int → List (Int × Int)
  | a :: n :: r => if 0 < n then (a, n) :: runsE r else []
  | _ => []
/-- The runs among the first 2 k bytes. -/
theorem runsE_drop (bs : List Int) (k : Nat) (h : 2 * k + 1 < bs.length) : runsE (bs.drop (2 * k)) = if 0 < bs[2 * k + 1] then (bs[2 * k], bs[2 * k + 1]) :: runsE (bs.drop (2 * (k + 1))) else [] := by
  rw [List.drop_eq_getElem_cons (show 2 * k < bs.length by omega), List.drop_eq_getElem_cons h, runsE]
  rfl

def PtsOf (bs : List Int) : List Int × Int := ptsR (runsE bs) []
/-- Do the bytes stand for sectors? -/
def goodB (bs : List Int) : Prop := bs.length = 16 ∧ (PtsOf bs).2 = 0 ∧ packL (ofE (PtsOf bs).1) = bs

theorem exp1_in {x : Int × Int} (h : badX x = false) : ∀ p, p ∈ exp1 x → 0 ≤ p ∧ p ≤ 255 := by
  intro p hp
  simp only [exp1, List.mem_map, List.mem_range] at hp
  obtain ⟨i, hi, rfl⟩ := hp
  simp [badX] at h
  split <;> omega
theorem ptsR_right : ∀ (l : List (Int × Int)) (acc : List Int), acc.length ≤ 8 → (∀ p, p ∈ acc → 0 ≤ p ∧ p ≤ 255) → (ptsR l acc).2 = 0 → (ptsR l acc).1.length ≤ 8 ∧ ∀ p, p ∈ (ptsR l acc).1 → 0 ≤ p ∧ p ≤ 255
  | [], acc, h1, h2, _ => ⟨h1, h2⟩
  | x :: r, acc, h1, h2, h3 => by
    unfold ptsR at h3 ⊢
    split at h3
    · simp at h3
    · rename_i hb
      rw [if_neg hb]
      split at h3
      · simp at h3
      · rename_i h8
        rw [if_neg h8]
        refine ptsR_right r (acc ++ exp1 x) (by simp at *; omega) (fun p hp => ?_) h3
        rcases List.mem_append.1 hp with hp | hp
        · exact h2 p hp
        · exact exp1_in (by simpa using hb) p hp
theorem right_of {l : List Int} (h1 : l.length ≤ 8) (h2 : ∀ p, p ∈ l → 0 ≤ p ∧ p ≤ 255) : rightE l = 0 := by
  unfold rightE
  rw [if_neg (by omega), if_neg]
  intro h
  obtain ⟨p, hp, hb⟩ := List.any_eq_true.1 h
  have := h2 p hp
  simp [badP] at hb
  omega
theorem ptsOf_right {bs : List Int} (h : (PtsOf bs).2 = 0) : rightE (PtsOf bs).1 = 0 := by
  have := ptsR_right (runsE bs) [] (by simp) (by simp) h
  exact right_of this.1 this.2

/-- Strings of bytes are told apart by the bytes. -/
theorem bytesS_data (ns : List Int) : (bytesS ns).data.toList = ns.map fun n => UInt8.ofNat n.toNat := by
  have key : ∀ (l : List Int) (r : ByteArray), (l.foldl (fun r n => r.push (UInt8.ofNat n.toNat)) r).data.toList = r.data.toList ++ l.map fun n => UInt8.ofNat n.toNat := by
    intro l
    induction l with
    | nil => intro r; simp
    | cons a l ih => intro r; rw [List.foldl_cons, ih]; simp [ByteArray.push]
  simpa [bytesS] using key ns ByteArray.empty
theorem bytesS_inj {a b : List Int} (ha : ∀ x, x ∈ a → 0 ≤ x ∧ x ≤ 255) (hb : ∀ x, x ∈ b → 0 ≤ x ∧ x ≤ 255) (h : bytesS a = bytesS b) : a = b := by
  have h1 : a.map (fun n => UInt8.ofNat n.toNat) = b.map fun n => UInt8.ofNat n.toNat := by rw [← bytesS_data, ← bytesS_data, h]
  have key : ∀ (a b : List Int), (∀ x, x ∈ a → 0 ≤ x ∧ x ≤ 255) → (∀ x, x ∈ b → 0 ≤ x ∧ x ≤ 255) → a.map (fun n => UInt8.ofNat n.toNat) = b.map (fun n => UInt8.ofNat n.toNat) → a = b := by
    intro a
    induction a with
    | nil => intro b _ _ h; cases b <;> simp_all
    | cons x a ih =>
      intro b ha hb h
      cases b with
      | nil => simp at h
      | cons y b =>
        simp only [List.map_cons, List.cons.injEq] at h
        have hx := ha x (by simp)
        have hy := hb y (by simp)
        have e : x = y := by
          have := congrArg UInt8.toNat h.1
          simp only [UInt8.toNat_ofNat'] at this
          omega
        rw [e, ih b (fun z hz => ha z (by simp [hz])) (fun z hz => hb z (by simp [hz])) h.2]
  exact key a b ha hb h1

end Go.Proofs.Ytneknlbmiofmlaa
