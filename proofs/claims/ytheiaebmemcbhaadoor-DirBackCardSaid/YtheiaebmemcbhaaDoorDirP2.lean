/- Directories, plainly: what is laid is read again; sorting; what is found. -/
import Derived.Test.YtheiaebmemcbhaaDoorDirP
namespace Go.Proofs.YtheiaebmemcbhaaDoor
open Go.RowKit

theorem bytesSL (ns : List Int) : (bytesS ns).data.toList = ns.map fun n => UInt8.ofNat n.toNat := by
  have key : ∀ (l : List Int) (r : ByteArray), (l.foldl (fun r n => r.push (UInt8.ofNat n.toNat)) r).data.toList = r.data.toList ++ l.map fun n => UInt8.ofNat n.toNat := by
    intro l
    induction l with
    | nil => intro r; simp
    | cons a l ih => intro r; rw [List.foldl_cons, ih]; simp [ByteArray.push]
  simpa [bytesS] using key ns ByteArray.empty
theorem bI_back (s : ByteArray) : (bI s).map (fun n => UInt8.ofNat n.toNat) = s.data.toList := by
  unfold bI
  rw [List.map_map]
  conv => rhs; rw [← List.map_id s.data.toList]
  refine List.map_congr_left fun b _ => ?_
  simp
theorem trim_zeros (l : List UInt8) (k : Nat) (h : ∀ b ∈ l, b ≠ 0) : Lib.trimRightB (l ++ List.replicate k 0) 0 = l := by
  unfold Lib.trimRightB
  rw [List.reverse_append, List.reverse_replicate, List.dropWhile_append_of_pos (fun a ha => by rw [List.mem_replicate] at ha; simp [ha.2])]
  have : l.reverse.dropWhile (· == 0) = l.reverse := by
    cases hl : l.reverse with
    | nil => rfl
    | cons b r =>
      have hb : b ∈ l := by rw [← List.mem_reverse, hl]; simp
      have := h b hb
      rw [List.dropWhile_cons_of_neg (by simpa using this)]
  rw [this, List.reverse_reverse]
theorem okE_name {x : En} (h : okE x = true) : nameB x.1 = true ∧ 1 ≤ x.2 ∧ x.2 ≤ 32 := by
  unfold okE at h
  simp only [Bool.and_eq_true, decide_eq_true_eq] at h
  exact ⟨h.1.1, h.1.2, h.2⟩
theorem name_size {s : ByteArray} (h : nameB s = true) : s.size ≤ 14 ∧ ∀ b ∈ s.data.toList, b ≠ 0 := by
  unfold nameB at h
  simp only [Bool.and_eq_true, decide_eq_true_eq, Bool.not_eq_true', List.contains_eq_mem, decide_eq_false_iff_not] at h
  exact ⟨h.1.1.1.1.2, fun b hb e => h.1.2 (by rw [← e]; exact hb)⟩
theorem rdE_row {D : List Int} {q : Nat} {x : En} (h : row16 D q = rowE x) (hx : okE x = true) : rdE D q = x := by
  obtain ⟨h1, h2, h3⟩ := okE_name hx
  obtain ⟨h4, h5⟩ := name_size h1
  have hb : (bI x.1).length = x.1.size := bI_len _
  have e1 : (D.drop (16 * q)).take 14 = bI x.1 ++ List.replicate (14 - x.1.size) 0 := by
    have : (D.drop (16 * q)).take 14 = (row16 D q).take 14 := by unfold row16; rw [List.take_take]; rfl
    rw [this, h]
    unfold rowE
    rw [List.take_append_of_le_length (by simp [hb]; omega), List.take_of_length_le (by simp [hb]; omega)]
  have e2 : D.getD (16 * q + 14) 0 = x.2 := by
    have := congrArg (fun l => l[14]?) h
    simp only [row16_get] at this
    rw [if_pos (by omega)] at this
    rw [List.getD_eq_getElem?_getD, this]
    unfold rowE
    rw [List.getElem?_append_right (by simp [hb]; omega)]
    simp [hb, show 14 - (x.1.size + (14 - x.1.size)) = 0 by omega]
  unfold rdE
  rw [e2]
  refine Prod.ext ?_ rfl
  show rdN D q = x.1
  unfold rdN
  rw [bytesSL, e1, List.map_append, bI_back]
  have e3 : (List.replicate (14 - x.1.size) (0 : Int)).map (fun n => UInt8.ofNat n.toNat) = List.replicate (14 - x.1.size) 0 := by simp
  rw [e3, trim_zeros _ _ h5]

theorem read_lay {S : List En} (hl : S.length ≤ 32) (hs : ∀ x ∈ S, okE x = true) : (ino S.length 0).map (rdE (layS S)) = S := by
  obtain ⟨h1, h2, h3⟩ := ino_ok hl
  obtain ⟨_, k2⟩ := layS_rows hl (fun x hx => (name_size (okE_name (hs x hx)).1).1)
  refine List.ext_getElem (by simp [h2]) fun i hi hi2 => ?_
  rw [List.getElem_map]
  have hi3 : i < (ino S.length 0).length := by simpa using hi
  have hz : ((ino S.length 0)[i], S[i]) ∈ (ino S.length 0).zip S := by
    rw [List.mem_iff_getElem?]
    exact ⟨i, by rw [List.getElem?_zip_eq_some]; simp [hi3, hi2]⟩
  exact rdE_row (k2 _ hz) (hs _ (List.getElem_mem hi2))
theorem layS_len {S : List En} (hl : S.length ≤ 32) (hs : ∀ x ∈ S, okE x = true) : (layS S).length = 16 * S.length := (layS_rows hl (fun x hx => (name_size (okE_name (hs x hx)).1).1)).1

def leE (a b : En) : Bool := !lexB b.1 a.1
def sortD (l : List En) : List En := l.mergeSort leE
theorem sortD_perm (l : List En) : (sortD l).Perm l := List.mergeSort_perm _ _
theorem leE_trans (a b c : En) (h1 : leE a b = true) (h2 : leE b c = true) : leE a c = true := by
  unfold leE at *
  simp only [Bool.not_eq_true'] at *
  cases h : lexB c.1 a.1 with
  | false => rfl
  | true =>
    cases h3 : lexB b.1 c.1 with
    | true => rw [lex_trans h3 h] at h1; cases h1
    | false => rw [lex_total h2 h3] at h; rw [h1] at h; cases h
theorem leE_total (a b : En) : (leE a b || leE b a) = true := by
  unfold leE
  cases h : lexB b.1 a.1 with
  | false => rfl
  | true =>
    cases h2 : lexB a.1 b.1 with
    | false => rfl
    | true => have := lex_trans h h2; rw [lex_irrefl] at this; cases this
theorem sortD_rising {l : List En} (h : (l.map (·.1)).Nodup) : Rising (sortD l) := by
  have h1 : (sortD l).Pairwise fun a b => leE a b = true := List.pairwise_mergeSort leE_trans leE_total l
  refine rising_of (h1.imp fun hab => by unfold leE at hab; simpa using hab) ?_
  exact ((sortD_perm l).map (·.1)).nodup_iff.2 h
theorem sortD_eq {l T : List En} (hp : T.Perm l) (hT : Rising T) : T = sortD l :=
  rising_unique (hp.trans (sortD_perm l).symm) hT (sortD_rising ((hp.map (·.1)).nodup_iff.1 hT.nodup))
theorem sortD_self {S : List En} (h : Rising S) : sortD S = S := (sortD_eq (List.Perm.refl _) h).symm
theorem sortD_len (l : List En) : (sortD l).length = l.length := (sortD_perm l).length_eq
theorem sortD_congr {l m : List En} (hp : l.Perm m) (h : (l.map (·.1)).Nodup) : sortD l = sortD m := sortD_eq ((sortD_perm l).trans hp) (sortD_rising h)
theorem sortD_ok {l : List En} (h : rightD l = 0) : (sortD l).length ≤ 32 ∧ (∀ x ∈ sortD l, okE x = true) ∧ Rising (sortD l) := by
  have h1 := (rightD_zero l).1 h
  exact ⟨by rw [sortD_len]; exact h1.1, fun x hx => h1.2.1 x ((sortD_perm l).mem_iff.1 hx), sortD_rising h1.2.2⟩

/-- Entries as bytes. -/
def layD (l : List En) : List Int := layS (sortD l)
theorem layD_len {l : List En} (h : rightD l = 0) : (layD l).length = 16 * l.length := by
  obtain ⟨h1, h2, _⟩ := sortD_ok h
  unfold layD
  rw [layS_len h1 h2, sortD_len]
theorem layD_perm {l m : List En} (hp : l.Perm m) (h : rightD l = 0) : layD l = layD m := by
  unfold layD; rw [sortD_congr hp ((rightD_zero l).1 h).2.2]
/-- What the walk over bytes gives; whether bytes are entries. -/
def outD (D : List Int) : List En := (ino (D.length / 16) 0).map (rdE D)
def listOk (D : List Int) : Bool := decide (D.length % 16 = 0) && decide (D.length ≤ 512) && decide (rightD (outD D) = 0) && decide (layD (outD D) = D)
theorem listOk_iff (D : List Int) : listOk D = true ↔ D.length % 16 = 0 ∧ D.length ≤ 512 ∧ rightD (outD D) = 0 ∧ layD (outD D) = D := by
  unfold listOk; simp only [Bool.and_eq_true, decide_eq_true_eq]; constructor <;> (intro h; simp [h])
theorem outD_lay {l : List En} (h : rightD l = 0) : outD (layD l) = sortD l := by
  obtain ⟨h1, h2, _⟩ := sortD_ok h
  unfold outD
  rw [layD_len h, show 16 * l.length / 16 = l.length by omega, ← sortD_len l]
  exact read_lay h1 h2
theorem list_lay {l : List En} (h : rightD l = 0) : listOk (layD l) = true := by
  obtain ⟨h1, h2, h3⟩ := sortD_ok h
  have h4 := (rightD_zero l).1 h
  rw [listOk_iff, outD_lay h, layD_len h]
  refine ⟨by omega, by omega, (rightD_perm (sortD_perm l)).2 h, ?_⟩
  exact layD_perm (sortD_perm l) ((rightD_perm (sortD_perm l)).2 h)
/-- Bytes that are entries are those of a sorted list. -/
theorem list_rising {D : List Int} (h : listOk D = true) : Rising (outD D) ∧ rightD (outD D) = 0 ∧ (outD D).length = D.length / 16 ∧ layD (outD D) = D := by
  obtain ⟨h1, h2, h3, h4⟩ := (listOk_iff D).1 h
  have h5 := (rightD_zero _).1 h3
  have h6 := outD_lay h3
  rw [h4] at h6
  refine ⟨by rw [h6]; exact sortD_rising h5.2.2, h3, ?_, h4⟩
  unfold outD
  rw [List.length_map, (ino_ok (by omega)).2.1]

/-- Where a search stands. -/
structure FInv (D : List Int) (n : Nat) (name : ByteArray) (q k : Nat) : Prop where
  seg : ∃ A B, ino n 0 = A ++ ino n q ++ B ∧ (∀ m ∈ A, lexB (rdE D m).1 name = true) ∧ (∀ m ∈ B, lexB name (rdE D m).1 = true)
  pow : 2 ^ k ≤ q + 1
  few : k = 0 ∨ 2 ^ (k - 1) ≤ n
theorem FInv.start (D : List Int) (n : Nat) (name : ByteArray) : FInv D n name 0 0 :=
  ⟨⟨[], [], by simp, by simp, by simp⟩, by simp, Or.inl rfl⟩
section
variable {D : List Int} {n q k : Nat} {name : ByteArray}
theorem FInv.mid (h : FInv D n name q k) (hq : q < n) : ∃ A B, ino n 0 = (A ++ ino n (2 * q + 1)) ++ q :: (ino n (2 * q + 2) ++ B) ∧ (∀ m ∈ A, lexB (rdE D m).1 name = true) ∧ (∀ m ∈ B, lexB name (rdE D m).1 = true) := by
  obtain ⟨A, B, h1, h2, h3⟩ := h.seg
  exact ⟨A, B, by rw [h1, ino_cons hq]; simp, h2, h3⟩
theorem FInv.left (h : FInv D n name q k) (hq : q < n) (hS : Rising ((ino n 0).map (rdE D))) (hlt : lexB name (rdE D q).1 = true) : FInv D n name (2 * q + 1) (k + 1) := by
  obtain ⟨A, B, h1, h2, h3⟩ := h.mid hq
  have hp := h.pow
  refine ⟨⟨A, q :: (ino n (2 * q + 2) ++ B), by rw [h1], h2, fun m hm => ?_⟩, by rw [Nat.pow_succ]; omega, Or.inr (by simp; omega)⟩
  rcases List.mem_cons.1 hm with rfl | hm
  · exact hlt
  · unfold Rising at hS
    rw [h1, List.map_append, List.pairwise_append, List.map_cons, List.pairwise_cons] at hS
    exact lex_trans hlt (hS.2.1.1 _ (List.mem_map.2 ⟨m, hm, rfl⟩))
theorem FInv.right (h : FInv D n name q k) (hq : q < n) (hS : Rising ((ino n 0).map (rdE D))) (hlt : lexB (rdE D q).1 name = true) : FInv D n name (2 * q + 2) (k + 1) := by
  obtain ⟨A, B, h1, h2, h3⟩ := h.mid hq
  have hp := h.pow
  refine ⟨⟨A ++ ino n (2 * q + 1) ++ [q], B, by rw [h1]; simp, fun m hm => ?_, h3⟩, by rw [Nat.pow_succ]; omega, Or.inr (by simp; omega)⟩
  rw [List.mem_append, List.mem_singleton] at hm
  rcases hm with hm | rfl
  · unfold Rising at hS
    rw [h1, List.map_append, List.pairwise_append] at hS
    exact lex_trans (hS.2.2 _ (List.mem_map.2 ⟨m, hm, rfl⟩) _ (by simp)) hlt
  · exact hlt
theorem FInv.found (h : FInv D n name q k) (hq : q < n) (he : name = (rdE D q).1) : ∃ x ∈ (ino n 0).map (rdE D), x.1 = name ∧ x.2 = (rdE D q).2 := by
  obtain ⟨A, B, h1, _, _⟩ := h.mid hq
  exact ⟨rdE D q, List.mem_map.2 ⟨q, by rw [h1]; simp, rfl⟩, he.symm, rfl⟩
theorem FInv.looks (h : FInv D n name q k) (hq : q < n) : 2 ^ k ≤ n := by have := h.pow; omega
theorem FInv.none (h : FInv D n name q k) (hq : n ≤ q) : ∀ x ∈ (ino n 0).map (rdE D), x.1 ≠ name := by
  obtain ⟨A, B, h1, h2, h3⟩ := h.seg
  intro x hx he
  obtain ⟨m, hm, rfl⟩ := List.mem_map.1 hx
  rw [h1, ino_nil hq, List.append_nil, List.mem_append] at hm
  rcases hm with hm | hm
  · have := h2 m hm; rw [he, lex_irrefl] at this; cases this
  · have := h3 m hm; rw [he, lex_irrefl] at this; cases this
end
end Go.Proofs.YtheiaebmemcbhaaDoor
