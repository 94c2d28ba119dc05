/- Two disks, one of which loses its power behind some writes, plainly. -/
import Derived.Test.YtappfgjomndlmaaDiskImage
namespace Go.Proofs.Ytappfgjomndlmaa
open Go.ChangeShapes Go.WideShapes Go.ChangeAt Go.RowKit

/-- A disk of which the power goes behind f writes, behind k of them. -/
def dK (l : List (Int × ByteArray)) (f : Nat) : Nat → Dk
  | 0 => { freshE 16 with fu := (f : Int) }
  | k + 1 => match l[k]? with
    | some x => putOne (dK l f k) x
    | none => dK l f k
def wOne (x : Int × ByteArray) : Nat × List Int := (pkN x.1 16, secS x.2)
theorem dK_inv (l : List (Int × ByteArray)) (f : Nat) (hf : f ≤ l.length) : ∀ k, k ≤ l.length → (dK l f k).S = (freshE 16).S ∧ (dK l f k).W = (l.take (min k f)).map wOne ∧ (dK l f k).fu = (f : Int) - (min k f : Nat)
  | 0, _ => ⟨rfl, by rw [Nat.zero_min]; rfl, by rw [Nat.zero_min]; show (f : Int) = _; omega⟩
  | k + 1, hk => by
    obtain ⟨h1, h2, h3⟩ := dK_inv l f hf k (by omega)
    unfold dK
    rw [List.getElem?_eq_getElem (by omega)]
    simp only
    unfold putOne writeE
    by_cases hkf : k < f
    · rw [if_neg (by rw [h3]; omega)]
      refine ⟨h1, ?_, ?_⟩
      · simp only
        rw [h2, show min (k + 1) f = k + 1 by omega, show min k f = k by omega, ← List.take_append_getElem (by omega : k < l.length), List.map_append]
        rfl
      · simp only
        unfold decF
        rw [if_pos (by rw [h3]; omega), h3]
        omega
    · rw [if_pos (by rw [h3]; omega)]
      refine ⟨h1, ?_, ?_⟩
      · rw [h2, show min (k + 1) f = f by omega, show min k f = f by omega]
      · rw [h3]; omega
theorem spun_inv (l : List (Int × ByteArray)) : ∀ k, k ≤ l.length → (spunK l (-1) k).S = (freshE 16).S ∧ (spunK l (-1) k).W = (l.take k).map wOne ∧ (spunK l (-1) k).fu = -1
  | 0, _ => ⟨rfl, rfl, rfl⟩
  | k + 1, hk => by
    obtain ⟨h1, h2, h3⟩ := spun_inv l k (by omega)
    unfold spunK
    rw [List.getElem?_eq_getElem (by omega)]
    simp only
    rw [if_neg (by omega)]
    unfold putOne
    rw [writeE_yes h3]
    refine ⟨h1, ?_, rfl⟩
    simp only
    rw [h2, ← List.take_append_getElem (by omega : k < l.length), List.map_append]
    rfl
theorem spun_end (l : List (Int × ByteArray)) : (spunE l (-1)).S = (freshE 16).S ∧ (spunE l (-1)).W = l.map wOne := by
  have h := spun_inv l l.length (Nat.le_refl _)
  unfold spunE
  rw [if_neg (by omega)]
  exact ⟨h.1, by rw [h.2.1, List.take_length]⟩
theorem fuse_end (l : List (Int × ByteArray)) (f : Nat) (hf : f ≤ l.length) : (dK l f l.length).S = (freshE 16).S ∧ (dK l f l.length).W = (l.take f).map wOne ∧ (dK l f l.length).fu = 0 := by
  have h := dK_inv l f hf l.length (Nat.le_refl _)
  rw [show min l.length f = f by omega] at h
  exact ⟨h.1, h.2.1, by rw [h.2.2]; omega⟩
theorem fuse_same (l : List (Int × ByteArray)) (f : Nat) (hf : f ≤ l.length) (K : List Bool) : (crashE (dK l f l.length) K).S = (crashE (spunE (l.take f) (-1)) K).S := by
  have h1 := fuse_end l f hf
  have h2 := spun_end (l.take f)
  unfold crashE
  simp only
  rw [h1.1, h1.2.1, h2.1, h2.2]

/-- Two disks that lie apart. -/
def TwoD (w : World) (d e : Value) (s1 s2 : Dk) (F1 F2 : Nat → Prop) (wr : World) : Prop :=
  DiskAt wr d s1 16 F1 ∧ DiskAt wr e s2 16 F2 ∧ (∀ i, F1 i → w.heap.size ≤ i ∧ ¬ F2 i) ∧ (∀ i, F2 i → w.heap.size ≤ i) ∧ Below w.heap.size w wr
theorem TwoD.below {w wr w' : World} {d e : Value} {s1 s2 : Dk} {F1 F2 : Nat → Prop} (h : TwoD w d e s1 s2 F1 F2 wr) (hb : Below wr.heap.size wr w') : TwoD w d e s1 s2 F1 F2 w' :=
  ⟨h.1.below hb, h.2.1.below hb, h.2.2.1, h.2.2.2.1, Below.step h.2.2.2.2 hb⟩
theorem TwoD.did {w wr w' : World} {d e : Value} {s1 s2 s3 : Dk} {F1 F2 : Nat → Prop} (h : TwoD w d e s1 s2 F1 F2 wr) (hd : Did d s3 16 F1 wr w') : ∃ F3, TwoD w d e s3 s2 F3 F2 w' := by
  obtain ⟨h1, h2, h3, h4, h5⟩ := h
  obtain ⟨F3, g1, g2, g3⟩ := hd
  refine ⟨F3, g1, h2.keep g3 (fun i hi hc => (h3 i hc).2 hi), fun i hi => ?_, h4, h5.trans (g3.to_below (fun i hi => (h3 i hi).1) h5.size)⟩
  rcases g2 i hi with g | g
  · exact h3 i g
  · exact ⟨Nat.le_trans h5.size g, fun hc => by have := h2.fin i hc; omega⟩
theorem TwoD.swap {w wr : World} {d e : Value} {s1 s2 : Dk} {F1 F2 : Nat → Prop} (h : TwoD w d e s1 s2 F1 F2 wr) : TwoD w e d s2 s1 F2 F1 wr :=
  ⟨h.2.1, h.1, fun i hi => ⟨h.2.2.2.1 i hi, fun hc => (h.2.2.1 i hc).2 hi⟩, fun i hi => (h.2.2.1 i hi).1, h.2.2.2.2⟩

theorem puts_take {w : World} {p : Option Addr} {N cp : Nat} {l : List (Int × ByteArray)} (h : PutsAt w (.slice p N cp) l) (hN : N = l.length) (f : Nat) (hf : f ≤ N) (cp' : Nat) : PutsAt w (.slice p f cp') (l.take f) := by
  have el : (l.take f).length = f := by rw [List.length_take]; omega
  obtain ⟨_, ⟨h0, a0, c0, he⟩ | ⟨g, o, cap, he, hc⟩⟩ := h
  · exact ⟨by rw [puts_len], Or.inl ⟨by omega, p, cp', by rw [show f = 0 by omega]⟩⟩
  · injection he with e1 e2 e3
    subst e1
    refine ⟨by rw [puts_len], Or.inr ⟨g, o, cp', by rw [el], fun j x hx => hc j x ?_⟩⟩
    have hj := (List.getElem?_eq_some_iff.1 hx).1
    have e : puts l = puts (l.take f) ++ puts (l.drop f) := by
      unfold puts
      rw [← List.flatMap_append, List.take_append_drop]
    rw [e, List.getElem?_append_left hj]
    exact hx

end Go.Proofs.Ytappfgjomndlmaa
