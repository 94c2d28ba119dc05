/- Part of the proofs of CheckFresh, FsCut, FsHoles: the texts DirP, DirP2. -/
import Derived.Test.YtpoglnpjadmbpaaGreatDoorMA3
import Derived.Test.YtpoglnpjadmbpaaGreatDoorMA5
import Derived.Lib.TrimByte
import Derived.Lib.Bytealg
import Derived.Lib.IndexLaws
set_option maxHeartbeats 16000000
namespace Go.Proofs.YtpoglnpjadmbpaaGreatDoor
open Go.RowKit
theorem qsb : ∀ x : List UInt8, Op.bytesLess x x = false
 | [] => rfl
 | a :: x => by
  have h : ¬ a < a := UInt8.lt_irrefl a
  simp [Op.bytesLess, h, qsb x]
theorem qve : ∀ x y z : List UInt8, Op.bytesLess x y = true → Op.bytesLess y z = true → Op.bytesLess x z = true
 | _, [], _, h, _ => by simp [Op.bytesLess] at h
 | _, _ :: _, [], _, h => by simp [Op.bytesLess] at h
 | [], _ :: _, _ :: _, _, _ => by simp [Op.bytesLess]
 | a :: x, b :: y, c :: z, h1, h2 => by
  simp only [Op.bytesLess, Bool.or_eq_true, decide_eq_true_eq, Bool.and_eq_true, beq_iff_eq] at *
  rcases h1 with h1 | ⟨rfl, h1⟩
  ·rcases h2 with h2 | ⟨rfl, h2⟩
   ·exact Or.inl (UInt8.lt_trans h1 h2)
   ·exact Or.inl h1
  ·rcases h2 with h2 | ⟨rfl, h2⟩
   ·exact Or.inl h2
   ·exact Or.inr ⟨rfl, qve x y z h1 h2⟩
theorem qvd : ∀ x y : List UInt8, Op.bytesLess x y = false → Op.bytesLess y x = false → x = y
 | [], [], _, _ => rfl
 | [], _ :: _, h, _ => by simp [Op.bytesLess] at h
 | _ :: _, [], _, h => by simp [Op.bytesLess] at h
 | a :: x, b :: y, h1, h2 => by
  simp only [Op.bytesLess, Bool.or_eq_false_iff, decide_eq_false_iff_not, Bool.and_eq_false_iff, beq_eq_false_iff_ne] at *
  have hab : a = b := by
   apply UInt8.le_antisymm
   ·exact UInt8.not_lt.1 h2.1
   ·exact UInt8.not_lt.1 h1.1
  subst hab
  rw [qvd x y (h1.2.resolve_left (by simp)) (h2.2.resolve_left (by simp))]
def lexB (a b : ByteArray) : Bool := Op.bytesLess a.toList b.toList
theorem ybkr {a b : ByteArray} (h : a.toList = b.toList) : a = b := by
 rw [Lib.toList_data, Lib.toList_data] at h
 cases a; cases b
 simp only at h
 rw [Array.toList_inj] at h
 rw [h]
theorem qkw (a : ByteArray) : lexB a a = false := qsb _
theorem qjz {a b c : ByteArray} (h1 : lexB a b = true) (h2 : lexB b c = true) : lexB a c = true := qve _ _ _ h1 h2
theorem qjy {a b : ByteArray} (h1 : lexB a b = false) (h2 : lexB b a = false) : a = b := ybkr (qvd _ _ h1 h2)
def cmpB (a b : ByteArray) : Int := if lexB a b then -1 else if a = b then 0 else 1
def qos (s : ByteArray) : Bool := !(s.toList == []) && decide (s.size ≤ 14) && !(s.toList == [46]) && !(s.toList == [46, 46]) && !(s.data.toList.contains 0) && !(s.data.toList.contains 47)
def okE (x : En) : Bool := qos x.1 && decide (1 ≤ x.2) && decide (x.2 ≤ 32)
def rD (S : List En) : List En → Int
 | [] => 0
 | x :: l => if okE x = false then 3 else if S.any (fun y => decide (y.1 = x.1)) then 5 else rD (S ++ [x]) l
def qfa (l : List En) : Int := if 32 < l.length then 2 else rD [] l
theorem ybyp (l : List En) : ∀ S : List En, (S.map (·.1)).Nodup → (rD S l = 0 ↔ (∀ x ∈ l, okE x = true) ∧ ((S ++ l).map (·.1)).Nodup) := by
 induction l with
 | nil => intro S hS; simpa [rD] using hS
 | cons x l ih =>
  intro S hS
  unfold rD
  by_cases h1 : okE x = false
  ·rw [if_pos h1]
   refine ⟨fun h => absurd h (by decide), fun h => ?_⟩
   have := h.1 x (by simp)
   rw [h1] at this; cases this
  ·rw [if_neg h1]
   have h1' : okE x = true := by simpa using h1
   by_cases h2 : (S.any fun y => decide (y.1 = x.1)) = true
   ·rw [if_pos h2]
    refine ⟨fun h => absurd h (by decide), fun h => ?_⟩
    obtain ⟨y, hy, he⟩ := List.any_eq_true.1 h2
    have he' : y.1 = x.1 := by simpa using he
    have h3 := h.2
    rw [List.map_append, List.nodup_append] at h3
    exact absurd he' (h3.2.2 y.1 (List.mem_map.2 ⟨y, hy, rfl⟩) x.1 (by simp))
   ·rw [if_neg h2, ih (S ++ [x])]
    ·rw [List.append_assoc]
     simp only [List.cons_append, List.nil_append, List.mem_cons, forall_eq_or_imp]
     simp [h1']
    ·rw [List.map_append, List.nodup_append]
     refine ⟨hS, by simp, fun a ha b hb hab => h2 ?_⟩
     obtain ⟨y, hy, rfl⟩ := List.mem_map.1 ha
     simp at hb
     rw [List.any_eq_true]
     exact ⟨y, hy, by simp [hab, hb]⟩
theorem qgw (l : List En) : qfa l = 0 ↔ l.length ≤ 32 ∧ (∀ x ∈ l, okE x = true) ∧ (l.map (·.1)).Nodup := by
 unfold qfa
 by_cases h : 32 < l.length
 ·rw [if_pos h]; exact ⟨fun h => absurd h (by decide), fun h2 => by omega⟩
 ·rw [if_neg h, ybyp l [] (by simp)]
  simp
  omega
def qjn (S : List En) : Prop := S.Pairwise fun a b => lexB a.1 b.1 = true
theorem qnp : ∀ {S T : List En}, S.Perm T → qjn S → qjn T → S = T
 | [], T, h, _, _ => by simpa using h.symm
 | x :: S, [], h, _, _ => by simp at h
 | x :: S, y :: T, h, hS, hT => by
  unfold qjn at hS hT
  rw [List.pairwise_cons] at hS hT
  have hxy : x = y := by
   have h1 : x ∈ y :: T := h.mem_iff.1 (by simp)
   have h2 : y ∈ x :: S := h.mem_iff.2 (by simp)
   rcases List.mem_cons.1 h1 with h1 | h1
   ·exact h1
   rcases List.mem_cons.1 h2 with h2 | h2
   ·exact h2.symm
   have h3 := qjz (hT.1 x h1) (hS.1 y h2)
   rw [qkw] at h3; cases h3
  subst hxy
  rw [qnp (S := S) (T := T) ((List.perm_cons x).1 h) hS.2 hT.2]
theorem ybaz {S : List En} (h : S.Pairwise fun a b => lexB b.1 a.1 = false) (hd : (S.map (·.1)).Nodup) : qjn S := by
 induction S with
 | nil => exact List.Pairwise.nil
 | cons x S ih =>
  rw [List.pairwise_cons] at h
  rw [List.map_cons, List.nodup_cons] at hd
  refine List.pairwise_cons.2 ⟨fun y hy => ?_, ih h.2 hd.2⟩
  cases hl : lexB x.1 y.1 with
  | true => rfl
  | false => exact absurd (List.mem_map.2 ⟨y, hy, (qjy hl (h.1 y hy)).symm⟩) hd.1
theorem qjn.nodup {S : List En} (h : qjn S) : (S.map (·.1)).Nodup := by
 unfold qjn at h
 rw [List.Nodup, List.pairwise_map]
 exact h.imp fun hab he => by rw [he, qkw] at hab; cases hab
def qjw (n : Nat) : Nat → Nat → List Nat
 | 0, _ => []
 | f + 1, at_ => if at_ < n then qjw n f (2 * at_ + 1) ++ at_ :: qjw n f (2 * at_ + 2) else []
theorem qkt (n : Nat) : ∀ f g at_, n ≤ at_ + f → n ≤ at_ + g → qjw n f at_ = qjw n g at_
 | 0, 0, _, _, _ => rfl
 | 0, g + 1, at_, h, _ => by rw [qjw, qjw, if_neg (by omega)]
 | f + 1, 0, at_, _, h => by rw [qjw, qjw, if_neg (by omega)]
 | f + 1, g + 1, at_, h1, h2 => by
  rw [qjw, qjw]
  by_cases h : at_ < n
  ·rw [if_pos h, if_pos h, qkt n f g _ (by omega) (by omega), qkt n f g (2 * at_ + 2) (by omega) (by omega)]
  ·rw [if_neg h, if_neg h]
def ino (n at_ : Nat) : List Nat := qjw n n at_
theorem ybmx {n at_ : Nat} (h : n ≤ at_) : ino n at_ = [] := by
 unfold ino
 cases n with
 | zero => rfl
 | succ n => rw [qjw, if_neg (by omega)]
theorem ybfx {n at_ : Nat} (h : at_ < n) : ino n at_ = ino n (2 * at_ + 1) ++ at_ :: ino n (2 * at_ + 2) := by
 cases n with
 | zero => omega
 | succ n =>
  show qjw (n + 1) (n + 1) at_ = _
  rw [qjw, if_pos h]
  unfold ino
  rw [qkt (n + 1) n (n + 1) (2 * at_ + 1) (by omega) (by omega), qkt (n + 1) n (n + 1) (2 * at_ + 2) (by omega) (by omega)]
def inoOk (n : Nat) : Bool := decide (qjw n n 0).Nodup && (qjw n n 0).length == n && (qjw n n 0).all (· < n)
theorem ybin : (List.range 33).all inoOk = true := by decide +kernel
theorem quy {n : Nat} (h : n ≤ 32) : (ino n 0).Nodup ∧ (ino n 0).length = n ∧ ∀ m ∈ ino n 0, m < n := by
 have := (List.all_eq_true.1 ybin) n (List.mem_range.2 (by omega))
 unfold inoOk at this
 simp only [Bool.and_eq_true, decide_eq_true_eq, beq_iff_eq, List.all_eq_true] at this
 exact ⟨this.1.1, this.1.2, this.2⟩
def putE (D : List Int) (p : Nat × En) : List Int := (over D (16 * p.1) (bI p.2.1)).set (16 * p.1 + 14) p.2.2
def layF (D : List Int) (P : List (Nat × En)) : List Int := P.foldl putE D
theorem ybdr (D : List Int) (P Q : List (Nat × En)) : layF D (P ++ Q) = layF (layF D P) Q := by unfold layF; rw [List.foldl_append]
def rowE (x : En) : List Int := bI x.1 ++ List.replicate (14 - x.1.size) 0 ++ [x.2, 0]
def qjk (D : List Int) (q : Nat) : List Int := (D.drop (16 * q)).take 16
theorem qov {D E : List Int} {o : Nat} (h : o + E.length ≤ D.length) : (over D o E).length = D.length := by
 unfold over; rw [List.length_append, List.length_append, List.length_take, List.length_drop]; omega
theorem ybue {D : List Int} {q : Nat} {x : En} (h : 16 * q + 16 ≤ D.length) (hx : x.1.size ≤ 14) : (putE D (q, x)).length = D.length := by
 unfold putE; rw [List.length_set, qov]; rw [qui]; show 16 * q + x.1.size ≤ _; omega
theorem ybgm {D : List Int} {q : Nat} {x : En} (h : 16 * q + 16 ≤ D.length) (hx : x.1.size ≤ 14) (j : Nat) : (putE D (q, x))[j]? = if j = 16 * q + 14 then some x.2 else if 16 * q ≤ j ∧ j < 16 * q + x.1.size then (bI x.1)[j - 16 * q]? else D[j]? := by
 have hb : (bI x.1).length = x.1.size := qui _
 unfold putE
 rw [List.getElem?_set]
 by_cases h1 : j = 16 * q + 14
 ·rw [if_pos h1.symm, if_pos h1, if_pos]
  rw [qov (by rw [hb]; omega)]; omega
 ·rw [if_neg (fun e => h1 e.symm), if_neg h1]
  unfold over
  by_cases h2 : j < 16 * q
  ·rw [if_neg (by omega), List.getElem?_append_left (by rw [List.length_take]; omega), List.getElem?_take, if_pos h2]
  ·have e1 : (D.take (16 * q)).length = 16 * q := by rw [List.length_take]; omega
   rw [List.getElem?_append_right (by rw [e1]; omega), e1]
   by_cases h3 : j < 16 * q + x.1.size
   ·rw [if_pos ⟨by omega, h3⟩, List.getElem?_append_left (by rw [hb]; omega)]
   ·rw [if_neg (by omega), List.getElem?_append_right (by rw [hb]; omega), List.getElem?_drop, hb]
    congr 1
    omega
theorem qki (D : List Int) (q i : Nat) : (qjk D q)[i]? = if i < 16 then D[16 * q + i]? else none := by
 unfold qjk
 rw [List.getElem?_take, List.getElem?_drop]
theorem qnr {D : List Int} {q m : Nat} {x : En} (h : 16 * q + 16 ≤ D.length) (hx : x.1.size ≤ 14) (hm : m ≠ q) : qjk (putE D (q, x)) m = qjk D m := by
 apply List.ext_getElem?
 intro i
 rw [qki, qki]
 split
 ·rw [ybgm h hx, if_neg (by omega), if_neg (by omega)]
 ·rfl
theorem ybba {D : List Int} {q : Nat} {x : En} (h : 16 * q + 16 ≤ D.length) (hx : x.1.size ≤ 14) (hz : qjk D q = List.replicate 16 0) : qjk (putE D (q, x)) q = rowE x := by
 have hb : (bI x.1).length = x.1.size := qui _
 apply List.ext_getElem?
 intro i
 rw [qki]
 have hz2 : ∀ i, i < 16 → D[16 * q + i]? = some 0 := fun i hi => by
  have := congrArg (fun l => l[i]?) hz
  simp only [qki, if_pos hi] at this
  rw [this, List.getElem?_replicate, if_pos hi]
 unfold rowE
 by_cases hi : i < 16
 ·rw [if_pos hi, ybgm h hx]
  by_cases h1 : i = 14
  ·subst h1
   rw [if_pos rfl, List.getElem?_append_right (by simp [hb]; omega)]
   simp [hb, show 14 - (x.1.size + (14 - x.1.size)) = 0 by omega]
  ·rw [if_neg (by omega)]
   by_cases h2 : i < x.1.size
   ·rw [if_pos ⟨by omega, by omega⟩, List.append_assoc, List.getElem?_append_left (by rw [hb]; exact h2)]
    congr 1
    omega
   ·rw [if_neg (by omega), hz2 i hi]
    by_cases h3 : i < 14
    ·rw [List.append_assoc, List.getElem?_append_right (by rw [hb]; omega), List.getElem?_append_left (by simp [hb]; omega), List.getElem?_replicate, if_pos (by rw [hb]; omega)]
    ·rw [List.getElem?_append_right (by simp [hb]; omega)]
     have e : i = 15 := by omega
     subst e
     simp [hb, show 15 - (x.1.size + (14 - x.1.size)) = 1 by omega]
 ·rw [if_neg hi, List.getElem?_eq_none]
  simp [hb]; omega
theorem ybac {n : Nat} : ∀ (P : List (Nat × En)) (D : List Int), D.length = 16 * n → (∀ p ∈ P, p.1 < n ∧ p.2.1.size ≤ 14) → (P.map (·.1)).Nodup → (∀ p ∈ P, qjk D p.1 = List.replicate 16 0) →
  (layF D P).length = 16 * n ∧ (∀ p ∈ P, qjk (layF D P) p.1 = rowE p.2) ∧ (∀ q, q ∉ P.map (·.1) → qjk (layF D P) q = qjk D q)
 | [], D, hD, _, _, _ => ⟨hD, by simp, fun q _ => rfl⟩
 | (q, x) :: P, D, hD, hP, hn, hz => by
  rw [List.map_cons, List.nodup_cons] at hn
  have h1 := hP (q, x) (by simp)
  have hq : 16 * q + 16 ≤ D.length := by have := h1.1; simp at this; omega
  have hne : ∀ p ∈ P, p.1 ≠ q := fun p hp e => hn.1 (List.mem_map.2 ⟨p, hp, e⟩)
  obtain ⟨k1, k2, k3⟩ := ybac P (putE D (q, x)) (by rw [ybue hq h1.2]; exact hD) (fun p hp => hP p (by simp [hp])) hn.2 (fun p hp => by
   rw [qnr hq h1.2 (hne p hp)]; exact hz p (by simp [hp]))
  refine ⟨k1, fun p hp => ?_, fun m hm => ?_⟩
  ·rcases List.mem_cons.1 hp with rfl | hp
   ·show qjk (layF (putE D (q, x)) P) q = _
    rw [k3 q hn.1]
    exact ybba hq h1.2 (hz (q, x) (by simp))
   ·exact k2 p hp
  ·rw [List.map_cons, List.mem_cons, not_or] at hm
   show qjk (layF (putE D (q, x)) P) m = _
   rw [k3 m hm.2, qnr hq h1.2 hm.1]
def layS (S : List En) : List Int := layF (List.replicate (16 * S.length) 0) ((ino S.length 0).zip S)
def rdN (D : List Int) (q : Nat) : ByteArray := ⟨(Lib.trimRightB (qce ((D.drop (16 * q)).take 14)).data.toList 0).toArray⟩
def rdE (D : List Int) (q : Nat) : En := (rdN D q, D.getD (16 * q + 14) 0)
theorem ybqo {n q : Nat} (h : q < n) : qjk (List.replicate (16 * n) (0 : Int)) q = List.replicate 16 0 := by
 unfold qjk
 rw [List.drop_replicate, List.take_replicate]
 congr 1
 omega
theorem ybad {S : List En} (hl : S.length ≤ 32) (hs : ∀ x ∈ S, x.1.size ≤ 14) : (layS S).length = 16 * S.length ∧ ∀ p ∈ (ino S.length 0).zip S, qjk (layS S) p.1 = rowE p.2 := by
 obtain ⟨h1, h2, h3⟩ := quy hl
 have hm : ((ino S.length 0).zip S).map (·.1) = ino S.length 0 := by
  rw [List.map_fst_zip]; omega
 obtain ⟨k1, k2, _⟩ := ybac (n := S.length) ((ino S.length 0).zip S) (List.replicate (16 * S.length) 0) (by simp) (fun p hp => by
  have hp1 := (List.of_mem_zip hp)
  exact ⟨h3 _ hp1.1, hs _ hp1.2⟩) (by rw [hm]; exact h1) (fun p hp => ybqo (h3 _ (List.of_mem_zip hp).1))
 exact ⟨k1, k2⟩
theorem yblf (ns : List Int) : (qce ns).data.toList = ns.map fun n => UInt8.ofNat n.toNat := by
 have key : ∀ (l : List Int) (r : ByteArray), (l.foldl (fun r n => r.push (UInt8.ofNat n.toNat)) r).data.toList = r.data.toList ++ l.map fun n => UInt8.ofNat n.toNat := by
  intro l
  induction l with
  | nil => intro r; simp
  | cons a l ih => intro r; rw [List.foldl_cons, ih]; simp [ByteArray.push]
 simpa [qce] using key ns ByteArray.empty
theorem ybwl (s : ByteArray) : (bI s).map (fun n => UInt8.ofNat n.toNat) = s.data.toList := by
 unfold bI
 rw [List.map_map]
 conv => rhs; rw [← List.map_id s.data.toList]
 refine List.map_congr_left fun b _ => ?_
 simp
theorem ybka (l : List UInt8) (k : Nat) (h : ∀ b ∈ l, b ≠ 0) : Lib.trimRightB (l ++ List.replicate k 0) 0 = l := by
 unfold Lib.trimRightB
 rw [List.reverse_append, List.reverse_replicate, List.dropWhile_append_of_pos (fun a ha => by rw [List.mem_replicate] at ha; simp [ha.2])]
 have : l.reverse.dropWhile (· == 0) = l.reverse := by
  cases hl : l.reverse with
  | nil => rfl
  | cons b r =>
   have hb : b ∈ l := by rw [← List.mem_reverse, hl]; simp
   have := h b hb
   rw [List.dropWhile_cons_of_neg (by simpa using this)]
 rw [this, List.reverse_reverse]
theorem qqk {x : En} (h : okE x = true) : qos x.1 = true ∧ 1 ≤ x.2 ∧ x.2 ≤ 32 := by
 unfold okE at h
 simp only [Bool.and_eq_true, decide_eq_true_eq] at h
 exact ⟨h.1.1, h.1.2, h.2⟩
theorem qnh {s : ByteArray} (h : qos s = true) : s.size ≤ 14 ∧ ∀ b ∈ s.data.toList, b ≠ 0 := by
 unfold qos at h
 simp only [Bool.and_eq_true, decide_eq_true_eq, Bool.not_eq_true', List.contains_eq_mem, decide_eq_false_iff_not] at h
 exact ⟨h.1.1.1.1.2, fun b hb e => h.1.2 (by rw [← e]; exact hb)⟩
theorem ybys {D : List Int} {q : Nat} {x : En} (h : qjk D q = rowE x) (hx : okE x = true) : rdE D q = x := by
 obtain ⟨h1, h2, h3⟩ := qqk hx
 obtain ⟨h4, h5⟩ := qnh h1
 have hb : (bI x.1).length = x.1.size := qui _
 have e1 : (D.drop (16 * q)).take 14 = bI x.1 ++ List.replicate (14 - x.1.size) 0 := by
  have : (D.drop (16 * q)).take 14 = (qjk D q).take 14 := by unfold qjk; rw [List.take_take]; rfl
  rw [this, h]
  unfold rowE
  rw [List.take_append_of_le_length (by simp [hb]; omega), List.take_of_length_le (by simp [hb]; omega)]
 have e2 : D.getD (16 * q + 14) 0 = x.2 := by
  have := congrArg (fun l => l[14]?) h
  simp only [qki] at this
  rw [if_pos (by omega)] at this
  rw [List.getD_eq_getElem?_getD, this]
  unfold rowE
  rw [List.getElem?_append_right (by simp [hb]; omega)]
  simp [hb, show 14 - (x.1.size + (14 - x.1.size)) = 0 by omega]
 unfold rdE
 rw [e2]
 refine Prod.ext ?_ rfl
 show rdN D q = x.1
 unfold rdN
 rw [yblf, e1, List.map_append, ybwl]
 have e3 : (List.replicate (14 - x.1.size) (0 : Int)).map (fun n => UInt8.ofNat n.toNat) = List.replicate (14 - x.1.size) 0 := by simp
 rw [e3, ybka _ _ h5]
theorem ybuf {S : List En} (hl : S.length ≤ 32) (hs : ∀ x ∈ S, okE x = true) : (ino S.length 0).map (rdE (layS S)) = S := by
 obtain ⟨h1, h2, h3⟩ := quy hl
 obtain ⟨_, k2⟩ := ybad hl (fun x hx => (qnh (qqk (hs x hx)).1).1)
 refine List.ext_getElem (by simp [h2]) fun i hi hi2 => ?_
 rw [List.getElem_map]
 have hi3 : i < (ino S.length 0).length := by simpa using hi
 have hz : ((ino S.length 0)[i], S[i]) ∈ (ino S.length 0).zip S := by
  rw [List.mem_iff_getElem?]
  exact ⟨i, by rw [List.getElem?_zip_eq_some]; simp [hi3, hi2]⟩
 exact ybys (k2 _ hz) (hs _ (List.getElem_mem hi2))
theorem ybtf {S : List En} (hl : S.length ≤ 32) (hs : ∀ x ∈ S, okE x = true) : (layS S).length = 16 * S.length := (ybad hl (fun x hx => (qnh (qqk (hs x hx)).1).1)).1
def leE (a b : En) : Bool := !lexB b.1 a.1
def qtd (l : List En) : List En := l.mergeSort leE
theorem qlf (l : List En) : (qtd l).Perm l := List.mergeSort_perm _ _
theorem ybnd (a b c : En) (h1 : leE a b = true) (h2 : leE b c = true) : leE a c = true := by
 unfold leE at *
 simp only [Bool.not_eq_true'] at *
 cases h : lexB c.1 a.1 with
 | false => rfl
 | true =>
  cases h3 : lexB b.1 c.1 with
  | true => rw [qjz h3 h] at h1; cases h1
  | false => rw [qjy h2 h3] at h; rw [h1] at h; cases h
theorem ybnc (a b : En) : (leE a b || leE b a) = true := by
 unfold leE
 cases h : lexB b.1 a.1 with
 | false => rfl
 | true =>
  cases h2 : lexB a.1 b.1 with
  | false => rfl
  | true => have := qjz h h2; rw [qkw] at this; cases this
theorem qkm {l : List En} (h : (l.map (·.1)).Nodup) : qjn (qtd l) := by
 have h1 : (qtd l).Pairwise fun a b => leE a b = true := List.pairwise_mergeSort ybnd ybnc l
 refine ybaz (h1.imp fun hab => by unfold leE at hab; simpa using hab) ?_
 exact ((qlf l).map (·.1)).nodup_iff.2 h
theorem ybun {l T : List En} (hp : T.Perm l) (hT : qjn T) : T = qtd l :=
 qnp (hp.trans (qlf l).symm) hT (qkm ((hp.map (·.1)).nodup_iff.1 hT.nodup))
theorem qte (l : List En) : (qtd l).length = l.length := (qlf l).length_eq
theorem ybgw {l : List En} (h : qfa l = 0) : (qtd l).length ≤ 32 ∧ (∀ x ∈ qtd l, okE x = true) ∧ qjn (qtd l) := by
 have h1 := (qgw l).1 h
 exact ⟨by rw [qte]; exact h1.1, fun x hx => h1.2.1 x ((qlf l).mem_iff.1 hx), qkm h1.2.2⟩
def layD (l : List En) : List Int := layS (qtd l)
theorem ybfz {l : List En} (h : qfa l = 0) : (layD l).length = 16 * l.length := by
 obtain ⟨h1, h2, _⟩ := ybgw h
 unfold layD
 rw [ybtf h1 h2, qte]
def outD (D : List Int) : List En := (ino (D.length / 16) 0).map (rdE D)
def qdq (D : List Int) : Bool := decide (D.length % 16 = 0) && decide (D.length ≤ 512) && decide (qfa (outD D) = 0) && decide (layD (outD D) = D)
theorem qdo (D : List Int) : qdq D = true ↔ D.length % 16 = 0 ∧ D.length ≤ 512 ∧ qfa (outD D) = 0 ∧ layD (outD D) = D := by
 unfold qdq; simp only [Bool.and_eq_true, decide_eq_true_eq]; constructor <;> (intro h; simp [h])
theorem ybtt {l : List En} (h : qfa l = 0) : outD (layD l) = qtd l := by
 obtain ⟨h1, h2, _⟩ := ybgw h
 unfold outD
 rw [ybfz h, show 16 * l.length / 16 = l.length by omega, ← qte l]
 exact ybuf h1 h2
theorem qsc {D : List Int} (h : qdq D = true) : qjn (outD D) ∧ qfa (outD D) = 0 ∧ (outD D).length = D.length / 16 ∧ layD (outD D) = D := by
 obtain ⟨h1, h2, h3, h4⟩ := (qdo D).1 h
 have h5 := (qgw _).1 h3
 have h6 := ybtt h3
 rw [h4] at h6
 refine ⟨by rw [h6]; exact qkm h5.2.2, h3, ?_, h4⟩
 unfold outD
 rw [List.length_map, (quy (by omega)).2.1]
section
variable {D : List Int} {n q k : Nat} {name : ByteArray}
end
end Go.Proofs.YtpoglnpjadmbpaaGreatDoor
