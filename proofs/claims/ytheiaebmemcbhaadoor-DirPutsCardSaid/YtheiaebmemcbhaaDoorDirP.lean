/- Directories, plainly: names, entries in order, the tree by levels. -/
import Derived.Test.YtheiaebmemcbhaaDoorEnts
import Derived.Test.YtheiaebmemcbhaaDoorDkPlain
import Derived.Lib.TrimByte
import Derived.Lib.Bytealg
import Derived.Lib.IndexLaws
namespace Go.Proofs.YtheiaebmemcbhaaDoor
open Go.RowKit

theorem less_irrefl : ∀ x : List UInt8, Op.bytesLess x x = false
  | [] => rfl
  | a :: x => by
    have h : ¬ a < a := UInt8.lt_irrefl a
    simp [Op.bytesLess, h, less_irrefl x]
theorem less_trans : ∀ x y z : List UInt8, Op.bytesLess x y = true → Op.bytesLess y z = true → Op.bytesLess x z = true
  | _, [], _, h, _ => by simp [Op.bytesLess] at h
  | _, _ :: _, [], _, h => by simp [Op.bytesLess] at h
  | [], _ :: _, _ :: _, _, _ => by simp [Op.bytesLess]
  | a :: x, b :: y, c :: z, h1, h2 => by
    simp only [Op.bytesLess, Bool.or_eq_true, decide_eq_true_eq, Bool.and_eq_true, beq_iff_eq] at *
    rcases h1 with h1 | ⟨rfl, h1⟩
    · rcases h2 with h2 | ⟨rfl, h2⟩
      · exact Or.inl (UInt8.lt_trans h1 h2)
      · exact Or.inl h1
    · rcases h2 with h2 | ⟨rfl, h2⟩
      · exact Or.inl h2
      · exact Or.inr ⟨rfl, less_trans x y z h1 h2⟩
theorem less_total : ∀ x y : List UInt8, Op.bytesLess x y = false → Op.bytesLess y x = false → x = y
  | [], [], _, _ => rfl
  | [], _ :: _, h, _ => by simp [Op.bytesLess] at h
  | _ :: _, [], _, h => by simp [Op.bytesLess] at h
  | a :: x, b :: y, h1, h2 => by
    simp only [Op.bytesLess, Bool.or_eq_false_iff, decide_eq_false_iff_not, Bool.and_eq_false_iff, beq_eq_false_iff_ne] at *
    have hab : a = b := by
      apply UInt8.le_antisymm
      · exact UInt8.not_lt.1 h2.1
      · exact UInt8.not_lt.1 h1.1
    subst hab
    rw [less_total x y (h1.2.resolve_left (by simp)) (h2.2.resolve_left (by simp))]

/-- One name before another. -/
def lexB (a b : ByteArray) : Bool := Op.bytesLess a.toList b.toList
theorem ba_ext {a b : ByteArray} (h : a.toList = b.toList) : a = b := by
  rw [Lib.toList_data, Lib.toList_data] at h
  cases a; cases b
  simp only at h
  rw [Array.toList_inj] at h
  rw [h]
theorem lex_irrefl (a : ByteArray) : lexB a a = false := less_irrefl _
theorem lex_trans {a b c : ByteArray} (h1 : lexB a b = true) (h2 : lexB b c = true) : lexB a c = true := less_trans _ _ _ h1 h2
theorem lex_total {a b : ByteArray} (h1 : lexB a b = false) (h2 : lexB b a = false) : a = b := ba_ext (less_total _ _ h1 h2)
def cmpB (a b : ByteArray) : Int := if lexB a b then -1 else if a = b then 0 else 1

def nameB (s : ByteArray) : Bool := !(s.toList == []) && decide (s.size ≤ 14) && !(s.toList == [46]) && !(s.toList == [46, 46]) && !(s.data.toList.contains 0) && !(s.data.toList.contains 47)
def okE (x : En) : Bool := nameB x.1 && decide (1 ≤ x.2) && decide (x.2 ≤ 32)
def rD (S : List En) : List En → Int
  | [] => 0
  | x :: l => if okE x = false then 3 else if S.any (fun y => decide (y.1 = x.1)) then 5 else rD (S ++ [x]) l
/-- What is wrong with entries. -/
def rightD (l : List En) : Int := if 32 < l.length then 2 else rD [] l
theorem rD_zero (l : List En) : ∀ S : List En, (S.map (·.1)).Nodup → (rD S l = 0 ↔ (∀ x ∈ l, okE x = true) ∧ ((S ++ l).map (·.1)).Nodup) := by
  induction l with
  | nil => intro S hS; simpa [rD] using hS
  | cons x l ih =>
    intro S hS
    unfold rD
    by_cases h1 : okE x = false
    · rw [if_pos h1]
      refine ⟨fun h => absurd h (by decide), fun h => ?_⟩
      have := h.1 x (by simp)
      rw [h1] at this; cases this
    · rw [if_neg h1]
      have h1' : okE x = true := by simpa using h1
      by_cases h2 : (S.any fun y => decide (y.1 = x.1)) = true
      · rw [if_pos h2]
        refine ⟨fun h => absurd h (by decide), fun h => ?_⟩
        obtain ⟨y, hy, he⟩ := List.any_eq_true.1 h2
        have he' : y.1 = x.1 := by simpa using he
        have h3 := h.2
        rw [List.map_append, List.nodup_append] at h3
        exact absurd he' (h3.2.2 y.1 (List.mem_map.2 ⟨y, hy, rfl⟩) x.1 (by simp))
      · rw [if_neg h2, ih (S ++ [x])]
        · rw [List.append_assoc]
          simp only [List.cons_append, List.nil_append, List.mem_cons, forall_eq_or_imp]
          simp [h1']
        · rw [List.map_append, List.nodup_append]
          refine ⟨hS, by simp, fun a ha b hb hab => h2 ?_⟩
          obtain ⟨y, hy, rfl⟩ := List.mem_map.1 ha
          simp at hb
          rw [List.any_eq_true]
          exact ⟨y, hy, by simp [hab, hb]⟩
theorem rightD_zero (l : List En) : rightD l = 0 ↔ l.length ≤ 32 ∧ (∀ x ∈ l, okE x = true) ∧ (l.map (·.1)).Nodup := by
  unfold rightD
  by_cases h : 32 < l.length
  · rw [if_pos h]; exact ⟨fun h => absurd h (by decide), fun h2 => by omega⟩
  · rw [if_neg h, rD_zero l [] (by simp)]
    simp
    omega
theorem rightD_perm {l m : List En} (h : l.Perm m) : rightD l = 0 ↔ rightD m = 0 := by
  rw [rightD_zero, rightD_zero, h.length_eq, (h.map (·.1)).nodup_iff]
  simp only [h.mem_iff]

/-- By rising names. -/
def Rising (S : List En) : Prop := S.Pairwise fun a b => lexB a.1 b.1 = true
theorem rising_unique : ∀ {S T : List En}, S.Perm T → Rising S → Rising T → S = T
  | [], T, h, _, _ => by simpa using h.symm
  | x :: S, [], h, _, _ => by simp at h
  | x :: S, y :: T, h, hS, hT => by
    unfold Rising at hS hT
    rw [List.pairwise_cons] at hS hT
    have hxy : x = y := by
      have h1 : x ∈ y :: T := h.mem_iff.1 (by simp)
      have h2 : y ∈ x :: S := h.mem_iff.2 (by simp)
      rcases List.mem_cons.1 h1 with h1 | h1
      · exact h1
      rcases List.mem_cons.1 h2 with h2 | h2
      · exact h2.symm
      have h3 := lex_trans (hT.1 x h1) (hS.1 y h2)
      rw [lex_irrefl] at h3; cases h3
    subst hxy
    rw [rising_unique (S := S) (T := T) ((List.perm_cons x).1 h) hS.2 hT.2]
/-- What is sorted weakly, with names that differ, is rising. -/
theorem rising_of {S : List En} (h : S.Pairwise fun a b => lexB b.1 a.1 = false) (hd : (S.map (·.1)).Nodup) : Rising S := by
  induction S with
  | nil => exact List.Pairwise.nil
  | cons x S ih =>
    rw [List.pairwise_cons] at h
    rw [List.map_cons, List.nodup_cons] at hd
    refine List.pairwise_cons.2 ⟨fun y hy => ?_, ih h.2 hd.2⟩
    cases hl : lexB x.1 y.1 with
    | true => rfl
    | false => exact absurd (List.mem_map.2 ⟨y, hy, (lex_total hl (h.1 y hy)).symm⟩) hd.1
theorem Rising.nodup {S : List En} (h : Rising S) : (S.map (·.1)).Nodup := by
  unfold Rising at h
  rw [List.Nodup, List.pairwise_map]
  exact h.imp fun hab he => by rw [he, lex_irrefl] at hab; cases hab

/-- The places in the order in which the tree is walked. -/
def inord (n : Nat) : Nat → Nat → List Nat
  | 0, _ => []
  | f + 1, at_ => if at_ < n then inord n f (2 * at_ + 1) ++ at_ :: inord n f (2 * at_ + 2) else []
theorem inord_fuel (n : Nat) : ∀ f g at_, n ≤ at_ + f → n ≤ at_ + g → inord n f at_ = inord n g at_
  | 0, 0, _, _, _ => rfl
  | 0, g + 1, at_, h, _ => by rw [inord, inord, if_neg (by omega)]
  | f + 1, 0, at_, _, h => by rw [inord, inord, if_neg (by omega)]
  | f + 1, g + 1, at_, h1, h2 => by
    rw [inord, inord]
    by_cases h : at_ < n
    · rw [if_pos h, if_pos h, inord_fuel n f g _ (by omega) (by omega), inord_fuel n f g (2 * at_ + 2) (by omega) (by omega)]
    · rw [if_neg h, if_neg h]
def ino (n at_ : Nat) : List Nat := inord n n at_
theorem ino_nil {n at_ : Nat} (h : n ≤ at_) : ino n at_ = [] := by
  unfold ino
  cases n with
  | zero => rfl
  | succ n => rw [inord, if_neg (by omega)]
theorem ino_cons {n at_ : Nat} (h : at_ < n) : ino n at_ = ino n (2 * at_ + 1) ++ at_ :: ino n (2 * at_ + 2) := by
  cases n with
  | zero => omega
  | succ n =>
    show inord (n + 1) (n + 1) at_ = _
    rw [inord, if_pos h]
    unfold ino
    rw [inord_fuel (n + 1) n (n + 1) (2 * at_ + 1) (by omega) (by omega), inord_fuel (n + 1) n (n + 1) (2 * at_ + 2) (by omega) (by omega)]
def inoOk (n : Nat) : Bool := decide (inord n n 0).Nodup && (inord n n 0).length == n && (inord n n 0).all (· < n)
theorem ino_ok_all : (List.range 33).all inoOk = true := by decide +kernel
theorem ino_ok {n : Nat} (h : n ≤ 32) : (ino n 0).Nodup ∧ (ino n 0).length = n ∧ ∀ m ∈ ino n 0, m < n := by
  have := (List.all_eq_true.1 ino_ok_all) n (List.mem_range.2 (by omega))
  unfold inoOk at this
  simp only [Bool.and_eq_true, decide_eq_true_eq, beq_iff_eq, List.all_eq_true] at this
  exact ⟨this.1.1, this.1.2, this.2⟩

/-- An entry laid at a place. -/
def putE (D : List Int) (p : Nat × En) : List Int := (over D (16 * p.1) (bI p.2.1)).set (16 * p.1 + 14) p.2.2
def layF (D : List Int) (P : List (Nat × En)) : List Int := P.foldl putE D
theorem layF_append (D : List Int) (P Q : List (Nat × En)) : layF D (P ++ Q) = layF (layF D P) Q := by unfold layF; rw [List.foldl_append]
/-- Sixteen bytes of an entry; the sixteen bytes of a place. -/
def rowE (x : En) : List Int := bI x.1 ++ List.replicate (14 - x.1.size) 0 ++ [x.2, 0]
def row16 (D : List Int) (q : Nat) : List Int := (D.drop (16 * q)).take 16
theorem over_len {D E : List Int} {o : Nat} (h : o + E.length ≤ D.length) : (over D o E).length = D.length := by
  unfold over; rw [List.length_append, List.length_append, List.length_take, List.length_drop]; omega
theorem putE_len {D : List Int} {q : Nat} {x : En} (h : 16 * q + 16 ≤ D.length) (hx : x.1.size ≤ 14) : (putE D (q, x)).length = D.length := by
  unfold putE; rw [List.length_set, over_len]; rw [bI_len]; show 16 * q + x.1.size ≤ _; omega
theorem putE_get {D : List Int} {q : Nat} {x : En} (h : 16 * q + 16 ≤ D.length) (hx : x.1.size ≤ 14) (j : Nat) : (putE D (q, x))[j]? = if j = 16 * q + 14 then some x.2 else if 16 * q ≤ j ∧ j < 16 * q + x.1.size then (bI x.1)[j - 16 * q]? else D[j]? := by
  have hb : (bI x.1).length = x.1.size := bI_len _
  unfold putE
  rw [List.getElem?_set]
  by_cases h1 : j = 16 * q + 14
  · rw [if_pos h1.symm, if_pos h1, if_pos]
    rw [over_len (by rw [hb]; omega)]; omega
  · rw [if_neg (fun e => h1 e.symm), if_neg h1]
    unfold over
    by_cases h2 : j < 16 * q
    · rw [if_neg (by omega), List.getElem?_append_left (by rw [List.length_take]; omega), List.getElem?_take, if_pos h2]
    · have e1 : (D.take (16 * q)).length = 16 * q := by rw [List.length_take]; omega
      rw [List.getElem?_append_right (by rw [e1]; omega), e1]
      by_cases h3 : j < 16 * q + x.1.size
      · rw [if_pos ⟨by omega, h3⟩, List.getElem?_append_left (by rw [hb]; omega)]
      · rw [if_neg (by omega), List.getElem?_append_right (by rw [hb]; omega), List.getElem?_drop, hb]
        congr 1
        omega
theorem row16_get (D : List Int) (q i : Nat) : (row16 D q)[i]? = if i < 16 then D[16 * q + i]? else none := by
  unfold row16
  rw [List.getElem?_take, List.getElem?_drop]
theorem row_put_other {D : List Int} {q m : Nat} {x : En} (h : 16 * q + 16 ≤ D.length) (hx : x.1.size ≤ 14) (hm : m ≠ q) : row16 (putE D (q, x)) m = row16 D m := by
  apply List.ext_getElem?
  intro i
  rw [row16_get, row16_get]
  split
  · rw [putE_get h hx, if_neg (by omega), if_neg (by omega)]
  · rfl
theorem row_put_same {D : List Int} {q : Nat} {x : En} (h : 16 * q + 16 ≤ D.length) (hx : x.1.size ≤ 14) (hz : row16 D q = List.replicate 16 0) : row16 (putE D (q, x)) q = rowE x := by
  have hb : (bI x.1).length = x.1.size := bI_len _
  apply List.ext_getElem?
  intro i
  rw [row16_get]
  have hz2 : ∀ i, i < 16 → D[16 * q + i]? = some 0 := fun i hi => by
    have := congrArg (fun l => l[i]?) hz
    simp only [row16_get, if_pos hi] at this
    rw [this, List.getElem?_replicate, if_pos hi]
  unfold rowE
  by_cases hi : i < 16
  · rw [if_pos hi, putE_get h hx]
    by_cases h1 : i = 14
    · subst h1
      rw [if_pos rfl, List.getElem?_append_right (by simp [hb]; omega)]
      simp [hb, show 14 - (x.1.size + (14 - x.1.size)) = 0 by omega]
    · rw [if_neg (by omega)]
      by_cases h2 : i < x.1.size
      · rw [if_pos ⟨by omega, by omega⟩, List.append_assoc, List.getElem?_append_left (by rw [hb]; exact h2)]
        congr 1
        omega
      · rw [if_neg (by omega), hz2 i hi]
        by_cases h3 : i < 14
        · rw [List.append_assoc, List.getElem?_append_right (by rw [hb]; omega), List.getElem?_append_left (by simp [hb]; omega), List.getElem?_replicate, if_pos (by rw [hb]; omega)]
        · rw [List.getElem?_append_right (by simp [hb]; omega)]
          have e : i = 15 := by omega
          subst e
          simp [hb, show 15 - (x.1.size + (14 - x.1.size)) = 1 by omega]
  · rw [if_neg hi, List.getElem?_eq_none]
    simp [hb]; omega
theorem row_ext {D E : List Int} {n : Nat} (hD : D.length = 16 * n) (hE : E.length = 16 * n) (h : ∀ q, q < n → row16 D q = row16 E q) : D = E := by
  apply List.ext_getElem?
  intro j
  by_cases hj : j < 16 * n
  · have := congrArg (fun l => l[j % 16]?) (h (j / 16) (by omega))
    simp only [row16_get, if_pos (show j % 16 < 16 by omega), show 16 * (j / 16) + j % 16 = j by omega] at this
    exact this
  · rw [List.getElem?_eq_none (by omega), List.getElem?_eq_none (by omega)]
/-- What lies after entries were laid at places that differ. -/
theorem layF_rows {n : Nat} : ∀ (P : List (Nat × En)) (D : List Int), D.length = 16 * n → (∀ p ∈ P, p.1 < n ∧ p.2.1.size ≤ 14) → (P.map (·.1)).Nodup → (∀ p ∈ P, row16 D p.1 = List.replicate 16 0) →
    (layF D P).length = 16 * n ∧ (∀ p ∈ P, row16 (layF D P) p.1 = rowE p.2) ∧ (∀ q, q ∉ P.map (·.1) → row16 (layF D P) q = row16 D q)
  | [], D, hD, _, _, _ => ⟨hD, by simp, fun q _ => rfl⟩
  | (q, x) :: P, D, hD, hP, hn, hz => by
    rw [List.map_cons, List.nodup_cons] at hn
    have h1 := hP (q, x) (by simp)
    have hq : 16 * q + 16 ≤ D.length := by have := h1.1; simp at this; omega
    have hne : ∀ p ∈ P, p.1 ≠ q := fun p hp e => hn.1 (List.mem_map.2 ⟨p, hp, e⟩)
    obtain ⟨k1, k2, k3⟩ := layF_rows P (putE D (q, x)) (by rw [putE_len hq h1.2]; exact hD) (fun p hp => hP p (by simp [hp])) hn.2 (fun p hp => by
      rw [row_put_other hq h1.2 (hne p hp)]; exact hz p (by simp [hp]))
    refine ⟨k1, fun p hp => ?_, fun m hm => ?_⟩
    · rcases List.mem_cons.1 hp with rfl | hp
      · show row16 (layF (putE D (q, x)) P) q = _
        rw [k3 q hn.1]
        exact row_put_same hq h1.2 (hz (q, x) (by simp))
      · exact k2 p hp
    · rw [List.map_cons, List.mem_cons, not_or] at hm
      show row16 (layF (putE D (q, x)) P) m = _
      rw [k3 m hm.2, row_put_other hq h1.2 hm.1]

/-- Entries as bytes, S being sorted. -/
def layS (S : List En) : List Int := layF (List.replicate (16 * S.length) 0) ((ino S.length 0).zip S)
/-- An entry read. -/
def rdN (D : List Int) (q : Nat) : ByteArray := ⟨(Lib.trimRightB (bytesS ((D.drop (16 * q)).take 14)).data.toList 0).toArray⟩
def rdE (D : List Int) (q : Nat) : En := (rdN D q, D.getD (16 * q + 14) 0)
theorem zeros_row {n q : Nat} (h : q < n) : row16 (List.replicate (16 * n) (0 : Int)) q = List.replicate 16 0 := by
  unfold row16
  rw [List.drop_replicate, List.take_replicate]
  congr 1
  omega
theorem layS_rows {S : List En} (hl : S.length ≤ 32) (hs : ∀ x ∈ S, x.1.size ≤ 14) : (layS S).length = 16 * S.length ∧ ∀ p ∈ (ino S.length 0).zip S, row16 (layS S) p.1 = rowE p.2 := by
  obtain ⟨h1, h2, h3⟩ := ino_ok hl
  have hm : ((ino S.length 0).zip S).map (·.1) = ino S.length 0 := by
    rw [List.map_fst_zip]; omega
  obtain ⟨k1, k2, _⟩ := layF_rows (n := S.length) ((ino S.length 0).zip S) (List.replicate (16 * S.length) 0) (by simp) (fun p hp => by
    have hp1 := (List.of_mem_zip hp)
    exact ⟨h3 _ hp1.1, hs _ hp1.2⟩) (by rw [hm]; exact h1) (fun p hp => zeros_row (h3 _ (List.of_mem_zip hp).1))
  exact ⟨k1, k2⟩
end Go.Proofs.YtheiaebmemcbhaaDoor
