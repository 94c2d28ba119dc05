/- Part of the proofs of FsCut: the texts FsD, FsP, CutP, CutOps, CutLaw. -/
import Derived.Test.YtpoglnpjadmbpaaGreatDoorMB1
import Derived.Test.YtpoglnpjadmbpaaGreatDoorMB6
import Derived.Test.YtpoglnpjadmbpaaGreatDoorMC4
set_option maxHeartbeats 16000000
namespace Go.Proofs.YtpoglnpjadmbpaaGreatDoor
open Go.RowKit
set_option maxRecDepth 100000 in
theorem qww {w : World} {gf : Nat} {s : Fs} {F : Nat → Prop} {B : Nat} {a : Addr} (h : FsAt w gf s F B a) (X : Pn) (hX : s.nodes[1]? = some X) (hk : X.k = 1) (p : Nat) (hp : p ≤ 512) (q : Option Addr) (c : Nat) :
  Calls Tryz.prog 16 #[.pointer (some ⟨gf, 0, none⟩), .int .i64 2, .int .i64 (p : Int), .slice q 0 c] w
   (fun e w' => e = .returned (.tuple #[.int .i64 0, .int .i64 0]) ∧ w = w') := by
 have hHF := qoo h 1 (by omega) X hX
 rw [hk, if_neg (by omega), if_pos rfl] at hHF
 have HFI : Hid (Calls Tryz.prog 47 #[.pointer (some ⟨gf, 0, none⟩), .int .i64 2] w (fun e w' => e = .returned (.int .i64 0) ∧ w = w')) := hHF
 have p1 : decide ((p : Int) < 0) = false := decide_eq_false (by omega)
 have p2 : ¬ ((p : Int) < 0) := by omega
 have p6 : decide ((512 : Int) < (p : Int)) = false := decide_eq_false (by omega)
 have p7 : ¬ ((512 : Int) < (p : Int)) := by omega
 have p8 : ¬ 512 < p := by omega
 clear h hHF hX hk
 go_enter Tryz.func16, Tryz.ntmps16
 go_wp2_with fail
 refine HFI.out.mono ?_
 rintro e w1 ⟨rfl, rfl⟩
 go_wp2
 go_ret2
 simp
end Go.Proofs.YtpoglnpjadmbpaaGreatDoor
namespace Go.Proofs.YtpoglnpjadmbpaaGreatDoor
section
variable {α : Type}
theorem quu {k : Int} : ∀ {l : List (Int × α)}, (∀ y ∈ l, k < y.1) → getZ l k = none
 | [], _ => rfl
 | y :: r, h => by
  unfold getZ
  have := h y List.mem_cons_self
  rw [if_neg (by omega)]
  exact quu fun z hz => h z (List.mem_cons_of_mem _ hz)
theorem qhw (y : Int × α) (r : List (Int × α)) (k : Int) : getZ (y :: r) k = if y.1 = k then some y.2 else getZ r k := rfl
theorem qut (k : Int) : ∀ {p : List (Int × α)} (t : List (Int × α)), qdc p → getZ (qbx t p) k = (getZ p k).or (getZ t k)
 | [], t, _ => by simp [qbx, getZ]
 | y :: r, t, h => by
  have ih := qut k (putZ t y.1 y.2) h.tail
  show getZ (qbx (putZ t y.1 y.2) r) k = _
  rw [ih]
  by_cases hk : y.1 = k
  ·subst hk
   rw [quu h.head, qis]
   show _ = (getZ (y :: r) y.1).or _
   unfold getZ
   rw [if_pos rfl]; rfl
  ·rw [qcr _ (Ne.symm hk), qhw, if_neg hk]
theorem qsf : ∀ {p t : List (Int × α)}, qdc t → qdc (qbx t p)
 | [], _, h => h
 | _ :: r, _, h => qsf (p := r) (qfu _ _ h)
theorem qvg : ∀ {p t : List (Int × α)} {z : Int × α}, z ∈ qbx t p → z ∈ p ∨ z ∈ t
 | [], _, _, h => Or.inr h
 | y :: r, t, z, h => by
  rcases qvg (p := r) (t := putZ t y.1 y.2) h with h | h
  ·exact Or.inl (List.mem_cons_of_mem _ h)
  ·rcases qer h with h | h
   ·exact Or.inl (h ▸ List.mem_cons_self)
   ·exact Or.inr h
theorem qlm {k j : Int} (hj : j ≠ k) : ∀ (l : List (Int × α)), getZ (delZ l k) j = getZ l j
 | [] => rfl
 | y :: r => by
  have ih := qlm hj r
  unfold delZ at ih ⊢
  rw [List.filter_cons]
  by_cases h : y.1 = k
  ·rw [if_neg (by simp [h]), ih, qhw, if_neg (by omega)]
  ·rw [if_pos (by simp [h]), qhw, qhw, ih]
theorem ybgp {l : List (Int × α)} (h : qdc l) (K : List Int) (hK : ∀ z ∈ l, z.1 ∈ K) : l.length ≤ K.length := by
 have h1 : (l.map (·.1)).Nodup := by
  refine List.Pairwise.imp (R := fun a b => a < b) (fun {a b} hab => by omega) ?_
  exact List.pairwise_map.2 h
 have h3 := qni h1 (ys := K) fun x hx => by
  obtain ⟨z, hz, rfl⟩ := List.mem_map.1 hx
  exact hK z hz
 simpa using h3
end
theorem qzt : ∀ (g : List Int) {put : List (Int × List Int)}, qdc put → qdc (gonP put g)
 | [], _, h => h
 | _ :: g, _, h => qzt g (qyz _ h)
theorem qwz : ∀ (g : List Int) {put : List (Int × List Int)} {z : Int × List Int}, z ∈ gonP put g → z ∈ put
 | [], _, _, h => h
 | _ :: g, _, _, h => ybfb (qwz g h)
theorem ybft {k : Int} : ∀ (g : List Int) (put : List (Int × List Int)), k ∉ g → getZ (gonP put g) k = getZ put k
 | [], _, _ => rfl
 | p :: g, put, h => by
  show getZ (gonP (delZ put p) g) k = _
  rw [ybft g _ fun hc => h (List.mem_cons_of_mem _ hc), qlm (fun e => h (by rw [e]; exact List.mem_cons_self))]
theorem qqb (s : Fs) (b : List Int) {put : List (Int × List Int)} (h : qdc put) : ∀ j, qdc (dfK s b put j)
 | 0 => h
 | j + 1 => by
  unfold dfK
  split
  ·exact qqb s b h j
  ·exact qfu _ _ (qqb s b h j)
theorem qwl (s : Fs) (b : List Int) {put : List (Int × List Int)} {z : Int × List Int} : ∀ j, z ∈ dfK s b put j → (∃ i, i < j ∧ z = (((1 + i : Nat) : Int), sec b i)) ∨ z ∈ put
 | 0, h => Or.inr h
 | j + 1, h => by
  unfold dfK at h
  split at h
  ·rcases qwl s b j h with ⟨i, hi, e⟩ | h
   ·exact Or.inl ⟨i, by omega, e⟩
   ·exact Or.inr h
  ·rcases qer h with h | h
   ·exact Or.inl ⟨j, by omega, h⟩
   ·rcases qwl s b j h with ⟨i, hi, e⟩ | h
    ·exact Or.inl ⟨i, by omega, e⟩
    ·exact Or.inr h
theorem qwk (s : Fs) (b : List Int) {put : List (Int × List Int)} {k : Int} : ∀ j : Nat, (k < 1 ∨ (j : Int) < k) → getZ (dfK s b put j) k = getZ put k
 | 0, _ => rfl
 | j + 1, h => by
  unfold dfK
  split
  ·exact qwk s b j (by omega)
  ·rw [qcr _ (by omega)]
   exact qwk s b j (by omega)
theorem ybna (x : Tx) (s : Fs) (h : qdc x.put) : qdc (qbi x s) := by
 unfold qbi dfQ
 split
 ·exact qqb s _ h 3
 ·exact qfu _ _ (qqb s _ h 3)
theorem ybfy (x : Tx) (s : Fs) {z : Int × List Int} (h : z ∈ qbi x s) : z = (4, qfe x.rows.length x.rows) ∨ (∃ i, i < 3 ∧ z = (((1 + i : Nat) : Int), sec (qbv x.fo) i)) ∨ z ∈ x.put := by
 unfold qbi dfQ at h
 split at h
 ·exact Or.inr (qwl s _ 3 h)
 ·rcases qer h with h | h
  ·exact Or.inl h
  ·exact Or.inr (qwl s _ 3 h)
theorem ybta (x : Tx) (s : Fs) {k : Int} (h : k < 1 ∨ 4 < k) : getZ (qbi x s) k = getZ x.put k := by
 unfold qbi dfQ
 split
 ·exact qwk s _ 3 (by omega)
 ·rw [qcr _ (by omega)]
  exact qwk s _ 3 (by omega)
theorem qmu (s : Fs) (x : Tx) (h : qdc s.todo) : qdc (qiq s x).todo := qsf h
theorem qpf (s : Fs) (x : Tx) {z : Int × List Int} (h : z ∈ (qiq s x).todo) : z = (4, qfe x.rows.length x.rows) ∨ (∃ i, i < 3 ∧ z = (((1 + i : Nat) : Int), sec (qbv x.fo) i)) ∨ z ∈ x.put ∨ z ∈ s.todo := by
 rcases qvg h with h | h
 ·rcases ybfy x s h with h | h | h
  ·exact Or.inl h
  ·exact Or.inr (Or.inl h)
  ·exact Or.inr (Or.inr (Or.inl h))
 ·exact Or.inr (Or.inr (Or.inr h))
theorem ybbh (s : Fs) (x : Tx) (hp : qdc x.put) (n : Nat) : secE (qiq s x) n = (getZ (qbi x s) (n : Int)).getD (secE s n) := by
 show (getZ (qbx s.todo (qbi x s)) (n : Int)).getD (sec s.dk.N n) = _
 rw [qut _ _ (ybna x s hp)]
 unfold secE
 cases getZ (qbi x s) (n : Int) <;> rfl
theorem ybgt (s : Fs) (x : Tx) (hp : qdc x.put) (n : Nat) (hn : n = 0 ∨ 4 < n) : secE (qiq s x) n = (getZ x.put (n : Int)).getD (secE s n) := by
 rw [ybbh s x hp, ybta x s (by omega)]
theorem ybez (s : Fs) (x : Tx) (hp : qdc x.put) (hs : qvz s) (h1 : ∀ z ∈ x.put, qeb z.2) (h2 : qeb (qbv x.fo)) (h3 : x.rows = []) : qvz (qiq s x) := by
 intro n hn y hy
 rw [ybbh s x hp] at hy
 cases hg : getZ (qbi x s) (n : Int) with
 | none => rw [hg] at hy; exact hs n hn y hy
 | some v =>
  rw [hg, Option.getD_some] at hy
  rcases ybfy x s (qwx hg) with h | ⟨i, hi, h⟩ | h
  ·injection h with _ e
   rw [e, h3] at hy
   have : (qfe (([] : List (Int × Int)).length : Int) []).all (fun x => decide (0 ≤ x) && decide (x ≤ 255)) = true := by kernel_rfl
   simpa using List.all_eq_true.1 this y hy
  ·injection h with _ e
   rw [e] at hy
   exact h2 y (by unfold sec at hy; exact List.mem_of_mem_drop (List.mem_of_mem_take hy))
  ·exact h1 _ h y hy
theorem ybap (f : Fo) (s : Nat → Bool) (h : qeb (qbv f)) : qeb (qbv (hasF f s)) := by
 intro x hx
 unfold qbv at hx
 rcases List.mem_append.1 hx with hx | hx
 ·exact h x (List.mem_append_left _ hx)
 ·unfold Ls at hx
  obtain ⟨m, _, rfl⟩ := List.mem_map.1 hx
  have := qyq ((hasF f s).hs (m / 32)) (m % 32)
  omega
end Go.Proofs.YtpoglnpjadmbpaaGreatDoor
namespace Go.Proofs.YtpoglnpjadmbpaaGreatDoor
open Go.RowKit
def pmP (m K : Nat) : List Int := (List.range m).map (fun i => ((54 + i : Nat) : Int)) ++ List.replicate (K - m) 0
theorem qhm {m K : Nat} (h : m ≤ K) : (pmP m K).length = K := by unfold pmP; simp; omega
theorem qoy {m K j : Nat} : (pmP m K).getD j 0 = if j < m then ((54 + j : Nat) : Int) else 0 := by
 unfold pmP
 by_cases h : j < m
 ·rw [if_pos h, List.getD_eq_getElem?_getD, List.getElem?_append_left (by simpa using h), List.getElem?_map, List.getElem?_range h]; rfl
 ·rw [if_neg h, List.getD_eq_getElem?_getD, List.getElem?_append_right (by simp; omega), List.getElem?_replicate]
  split <;> rfl
theorem ybyk {m K : Nat} {x : Int} (h : x ∈ pmP m K) : x = 0 ∨ ∃ i, i < m ∧ x = ((54 + i : Nat) : Int) := by
 unfold pmP at h
 rcases List.mem_append.1 h with h | h
 ·obtain ⟨i, hi, rfl⟩ := List.mem_map.1 h
  exact Or.inr ⟨i, List.mem_range.1 hi, rfl⟩
 ·exact Or.inl (List.eq_of_mem_replicate h)
theorem ybas : ∀ K, K ≤ 8 → ∀ m, m ≤ K → qbm (pmP m K) = 0 := by decide
theorem ybop : ∀ K0, K0 ≤ 8 → ∀ m, m ≤ K0 → ∀ K, K ≤ 8 → resP (pmP m K0) K = pmP (min m K) K := by decide
theorem ybuc : ∀ K0, K0 ≤ 8 → ∀ m, m ≤ K0 → ∀ K, K ≤ 8 → ∀ x ∈ qed (pmP m K0) K, ((54 + K : Nat) : Int) ≤ x := by decide
def cN (m sz : Nat) : Pn := { newN 420 0 0 with P := pmP m (blkN (sz : Int)), s := (sz : Int) }
theorem qwh (m sz : Nat) (hm : m ≤ blkN (sz : Int)) (h : sz ≤ 512) : qfv (cN m sz) = 0 := by
 show qal 1 420 0 0 (sz : Int) 1 0 (pmP m (blkN (sz : Int))) = 0
 have hP := ybas _ (qcq (sz := (sz : Int)) (by omega)) m hm
 unfold qal
 rw [if_neg (by decide), if_neg (by decide), if_neg (by omega), if_neg (by decide), if_neg (by rw [hP]; decide), if_neg (by rw [qhm hm, qqw]; simp)]
theorem yblh (m sz : Nat) (hm : m ≤ blkN (sz : Int)) (h : sz ≤ 512) : qeb (qcf (cN m sz)) := by
 intro y hy
 have hP := ybas _ (qcq (sz := (sz : Int)) (by omega)) m hm
 have hy2 : y ∈ qgv 1 420 0 0 (sz : Int) 1 0 (pmP m (blkN (sz : Int))) := hy
 unfold qgv at hy2
 rw [if_neg (by decide)] at hy2
 rcases List.mem_append.1 hy2 with hy2 | hy2
 ·rcases List.mem_append.1 hy2 with hy2 | hy2
  ·simp only [List.mem_cons, List.not_mem_nil, or_false] at hy2
   omega
  ·exact qsl hP y hy2
 ·have := List.eq_of_mem_replicate hy2; omega
theorem ybvr (m sz : Nat) (hm : m ≤ 8) : qgp (cN m sz).P 80 := fun x hx => by
 rcases ybyk hx with rfl | ⟨i, hi, rfl⟩ <;> omega
def blkC (c : Nat → Int) (j : Nat) : List Int := (List.range 64).map fun i => c (64 * j + i)
theorem qwe (c : Nat → Int) (j : Nat) : (blkC c j).length = 64 := by simp [blkC]
theorem qmn (c : Nat → Int) (j i : Nat) : (blkC c j)[i]? = if i < 64 then some (c (64 * j + i)) else none := by
 unfold blkC
 by_cases h : i < 64
 ·rw [if_pos h, List.getElem?_map, List.getElem?_range h]; rfl
 ·rw [if_neg h, List.getElem?_eq_none (by simp; omega)]
theorem ybkv {c d : Nat → Int} {j : Nat} (h : ∀ i, i < 64 → c (64 * j + i) = d (64 * j + i)) : blkC c j = blkC d j := List.map_congr_left fun i hi => h i (List.mem_range.1 hi)
theorem ybkw {c : Nat → Int} {j : Nat} (h : ∀ i, i < 64 → c (64 * j + i) = 0) : blkC c j = List.replicate 64 0 := by
 rw [ybkv (d := fun _ => 0) h]
 unfold blkC
 rw [List.map_const', List.length_range]
theorem ybey (c : Nat → Int) : ∀ K, (List.range K).flatMap (blkC c) = (List.range (64 * K)).map c
 | 0 => rfl
 | K + 1 => by
  rw [List.range_succ, List.flatMap_append, ybey c K, show 64 * (K + 1) = 64 * K + 64 by omega, List.range_add, List.map_append]
  simp [blkC]
def ybcp : List Int := [1, 2, 3, 4, 37, 53, 54, 55, 56, 57, 58, 59, 60, 61]
structure CutS (s : Fs) (m sz : Nat) (c : Nat → Int) : Prop where
 k : s.k = 80
 rows : s.rows = []
 fo : ∃ S, s.fo = hasF fs1.fo S
 n0 : s.nodes[0]? = some fX0
 n1 : s.nodes[1]? = some (cN m sz)
 hm : m ≤ blkN (sz : Int)
 hsz : sz ≤ 512
 rise : qdc s.todo
 keys : ∀ z ∈ s.todo, z.1 ∈ ybcp
 byte : qvz s
 blk : ∀ j, j < m → secE s (54 + j) = blkC c j
 zero : ∀ i, sz ≤ i → c i = 0
 hole : ∀ i, 64 * m ≤ i → c i = 0
section
variable {s : Fs} {m sz : Nat} {c : Nat → Int}
theorem CutS.m8 (h : CutS s m sz c) : m ≤ 8 := Nat.le_trans h.hm (qcq (by have := h.hsz; omega))
theorem CutS.len (h : CutS s m sz c) : s.todo.length ≤ 14 := ybgp h.rise ybcp h.keys
theorem qzo : qbd fs1.fo 0 = true := by kernel_rfl
theorem qzn : qbn fs1.fo = 0 := by kernel_rfl
theorem qzm : qeb (qbv fs1.fo) := qin (by kernel_rfl)
theorem CutS.snap (h : CutS s m sz c) : qcj s.fo := by
 obtain ⟨S, e⟩ := h.fo
 rw [e]
 exact fun k h1 h2 => qjq k h1 h2
theorem CutS.nd (h : CutS s m sz c) : s.fo.nd 0 0 = 37 := by
 obtain ⟨S, e⟩ := h.fo
 rw [e]
 show fs1.fo.nd 0 0 = 37
 kernel_rfl
theorem CutS.right (h : CutS s m sz c) (S : Nat → Bool) : qbn (hasF s.fo S) = 0 := by
 obtain ⟨T, e⟩ := h.fo
 rw [e, qep, qlc _ _ qzo]; exact qzn
theorem CutS.bytes (h : CutS s m sz c) (S : Nat → Bool) : qeb (qbv (hasF s.fo S)) := by
 obtain ⟨T, e⟩ := h.fo
 rw [e, qep]; exact ybap _ _ qzm
theorem CutS.text (h : CutS s m sz c) : qbl (secE s) (cN m sz).P (cN m sz).s = (List.range sz).map c := by
 have hf : (pmP m (blkN (sz : Int))).flatMap (qcs (secE s)) = (List.range (64 * blkN (sz : Int))).map c := by
  rw [← ybey]
  have e : pmP m (blkN (sz : Int)) = (List.range (blkN (sz : Int))).map fun j => if j < m then ((54 + j : Nat) : Int) else 0 := by
   apply List.ext_getElem?
   intro j
   by_cases hj : j < blkN (sz : Int)
   ·have h1 := qoy (m := m) (K := blkN (sz : Int)) (j := j)
    rw [List.getElem?_map, List.getElem?_range hj, List.getElem?_eq_getElem (by rw [qhm h.hm]; exact hj)]
    rw [List.getD_eq_getElem?_getD, List.getElem?_eq_getElem (by rw [qhm h.hm]; exact hj), Option.getD_some] at h1
    rw [h1]; rfl
   ·rw [List.getElem?_eq_none (by rw [qhm h.hm]; omega), List.getElem?_eq_none (by simp; omega)]
  rw [e, List.flatMap_map]
  rw [List.flatMap_def, List.flatMap_def]
  congr 1
  refine List.map_congr_left fun j hj => ?_
  show qcs (secE s) _ = _
  unfold qcs
  by_cases hjm : j < m
  ·rw [if_pos hjm, if_neg (by omega), Int.toNat_natCast, h.blk j hjm]
  ·rw [if_neg hjm, if_pos rfl, ybkw fun i _ => h.hole _ (by omega)]
 show List.take _ (List.flatMap _ (pmP m (blkN (sz : Int)))) = _
 rw [hf, ← List.map_take, List.take_range]
 congr 2
 have : sz ≤ 64 * blkN (sz : Int) := by unfold blkN qbq; split <;> omega
 show min (Int.toNat (sz : Int)) _ = _
 omega
end
theorem qre : CutS fs1 0 0 (fun _ => 0) where
 k := rfl
 rows := rfl
 fo := ⟨_, (qnb _).symm⟩
 n0 := ybfp
 n1 := by kernel_rfl
 hm := Nat.zero_le _
 hsz := by decide
 rise := by
  have h : fs1.todo.map (fun x => x.1) = [2, 37, 53] := by kernel_rfl
  have : (fs1.todo.map (fun x => x.1)).Pairwise (· < ·) := by rw [h]; decide
  exact List.pairwise_map.1 this
 keys := by
  have h : (fs1.todo.all fun x => ybcp.contains x.1) = true := by kernel_rfl
  intro z hz
  simpa using List.all_eq_true.1 h z hz
 byte := by
  have h : ((List.range 80).all fun n => yble (secE fs1 n)) = true := by kernel_rfl
  exact fun n hn => qin (List.all_eq_true.1 h n (List.mem_range.2 hn))
 blk := fun j hj => by omega
 zero := fun _ _ => rfl
 hole := fun _ _ => rfl
def foC : Nat → Fo
 | 0 => fs1.fo
 | j + 1 => useF (foC j) (54 + j)
def putC (Dt : List Int) : Nat → List (Int × List Int)
 | 0 => []
 | j + 1 => putZ (putC Dt j) ((54 + j : Nat) : Int) (qev (List.replicate 64 0) Dt 0 j 64)
theorem qrp : ∀ j, ∃ S, foC j = hasF fs1.fo S
 | 0 => ⟨_, (qnb _).symm⟩
 | j + 1 => by
  obtain ⟨S, e⟩ := qrp j
  exact ⟨_, by show hasF (foC j) _ = _; rw [e, qep]⟩
theorem yblw : ((List.range 8).all fun j => qtx (foC j) 80 == some (54 + j)) = true := by kernel_rfl
theorem ybse (j : Nat) (hj : j < 8) : qtx (foC j) 80 = some (54 + j) := by
 have := List.all_eq_true.1 yblw j (List.mem_range.2 hj)
 simpa using this
theorem ybyl {m K : Nat} (h : m < K) : (pmP m K).set m ((54 + m : Nat) : Int) = pmP (m + 1) K := by
 apply List.ext_getElem?
 intro j
 by_cases hj : j < K
 ·have h1 : (pmP m K)[j]? = some (if j < m then ((54 + j : Nat) : Int) else 0) := by
   rw [← qoy (m := m) (K := K) (j := j), List.getD_eq_getElem?_getD, List.getElem?_eq_getElem (by rw [qhm (by omega)]; exact hj)]; rfl
  have h2 : (pmP (m + 1) K)[j]? = some (if j < m + 1 then ((54 + j : Nat) : Int) else 0) := by
   rw [← qoy (m := m + 1) (K := K) (j := j), List.getD_eq_getElem?_getD, List.getElem?_eq_getElem (by rw [qhm (by omega)]; exact hj)]; rfl
  rw [h2, List.getElem?_set]
  by_cases e : m = j
  ·subst e
   rw [if_pos rfl, if_pos (by rw [qhm (by omega)]; exact hj), if_pos (by omega)]
  ·rw [if_neg e, h1]
   by_cases hjm : j < m
   ·rw [if_pos hjm, if_pos (by omega)]
   ·rw [if_neg hjm, if_neg (by omega)]
 ·rw [List.getElem?_eq_none (by rw [List.length_set, qhm (by omega)]; omega), List.getElem?_eq_none (by rw [qhm (by omega)]; omega)]
theorem yblk (Dt : List Int) (n : Nat) (hn : n ≤ 8) : ∀ j, j ≤ n → fwrE fs1 (tx0 fs1) Dt 0 0 ⟨fs1.fo, [], pmP 0 n⟩ j = some ⟨foC j, putC Dt j, pmP j n⟩
 | 0, _ => rfl
 | j + 1, hj => by
  unfold fwrE
  rw [yblk Dt n hn j (by omega), Option.bind_some]
  show (ownE (foC j) 80 ((pmP j n).getD (0 + j) 0)).map _ = _
  have h0 : (pmP j n).getD (0 + j) 0 = 0 := by rw [Nat.zero_add, qoy, if_neg (by omega)]
  have h1 : ownE (foC j) 80 0 = some (54 + j, useF (foC j) (54 + j)) := by
   unfold ownE
   rw [if_pos rfl, ybse j (by omega)]; rfl
  rw [h0, h1, Option.map_some]
  have h2 : qck { tx0 fs1 with fo := foC j, put := putC Dt j } fs1 (pmP j n) (0 + j) = List.replicate 64 0 := by
   unfold qck
   rw [if_pos h0]
  show some (Fw.mk _ (putZ (putC Dt j) _ (qev (qck _ _ (pmP j n) (0 + j)) Dt 0 (0 + j) 64)) ((pmP j n).set (0 + j) _)) = _
  rw [h2, Nat.zero_add, ybyl (by omega)]
  rfl
theorem qsr (Dt : List Int) : ∀ j, qdc (putC Dt j)
 | 0 => List.Pairwise.nil
 | j + 1 => qfu _ _ (qsr Dt j)
theorem qql (Dt : List Int) {z : Int × List Int} : ∀ {n}, z ∈ putC Dt n → ∃ j, j < n ∧ z = (((54 + j : Nat) : Int), qev (List.replicate 64 0) Dt 0 j 64)
 | 0, h => by cases h
 | n + 1, h => by
  rcases qer h with h | h
  ·exact ⟨n, by omega, h⟩
  ·obtain ⟨j, hj, e⟩ := qql Dt h
   exact ⟨j, by omega, e⟩
theorem ybgl (Dt : List Int) (j : Nat) : ∀ n, j < n → getZ (putC Dt n) ((54 + j : Nat) : Int) = some (qev (List.replicate 64 0) Dt 0 j 64)
 | 0, h => by omega
 | n + 1, h => by
  by_cases e : j = n
  ·subst e
   exact qis _ _ _
  ·show getZ (putZ (putC Dt n) _ _) _ = _
   rw [qcr _ (by omega)]
   exact ybgl Dt j n (by omega)
theorem qyp (old Dt : List Int) (k : Nat) (ho : old.length = 64) : ∀ n, n ≤ 64 → ∀ i, i < 64 → (qev old Dt 0 k n)[i]? = if i < n ∧ 64 * k + i < Dt.length then some (Dt.getD (64 * k + i) 0) else old[i]?
 | 0, _, i, _ => by rw [if_neg (by omega)]; rfl
 | n + 1, hn, i, hi => by
  have ih := qyp old Dt k ho n (by omega) i hi
  unfold qev
  by_cases h : 0 ≤ 64 * k + n ∧ 64 * k + n < 0 + Dt.length
  ·rw [if_pos h, List.getElem?_set]
   by_cases e : n = i
   ·subst e
    rw [if_pos rfl, if_pos (by rw [qhq, ho]; omega), if_pos (by omega), Nat.sub_zero]
   ·rw [if_neg e, ih]
    by_cases h2 : i < n ∧ 64 * k + i < Dt.length
    ·rw [if_pos h2, if_pos (by omega)]
    ·rw [if_neg h2, if_neg (by omega)]
  ·rw [if_neg h, ih]
   by_cases h2 : i < n ∧ 64 * k + i < Dt.length
   ·rw [if_pos h2, if_pos (by omega)]
   ·rw [if_neg h2, if_neg (by omega)]
theorem ybkx (Dt : List Int) (j : Nat) : qev (List.replicate 64 0) Dt 0 j 64 = blkC (fun i => Dt.getD i 0) j := by
 apply List.ext_getElem?
 intro i
 by_cases hi : i < 64
 ·rw [qyp _ _ _ (by simp) 64 (by omega) i hi, qmn, if_pos hi]
  by_cases h : i < 64 ∧ 64 * j + i < Dt.length
  ·rw [if_pos h]
  ·rw [if_neg h, List.getElem?_replicate, if_pos hi]
   simp only [List.getD_eq_getElem?_getD]
   rw [List.getElem?_eq_none (by omega)]; rfl
 ·rw [List.getElem?_eq_none (by rw [qhq]; simp; omega), qmn, if_neg hi]
theorem yboq {put : List (Int × List Int)} {v : List Int} (g : List Int) {n : Nat} (h : ((n : Int)) ∉ g) (h37 : n ≠ 37) : getZ (gonP (putZ put 37 v) g) (n : Int) = getZ put (n : Int) := by
 rw [ybft g _ h, qcr _ (by omega)]
theorem ybfj : qeb (qcf fX0) := qin (by kernel_rfl)
def qrf (Dt : List Int) : Fw := ⟨foC (blkN (Dt.length : Int)), putC Dt (blkN (Dt.length : Int)), pmP (blkN (Dt.length : Int)) (blkN (Dt.length : Int))⟩
def cut_w (Dt : List Int) : Fs := qiq fs1 (qde (qeu fs1 (cN (blkN (Dt.length : Int)) Dt.length) (qrf Dt)) fX0 (cN (blkN (Dt.length : Int)) Dt.length))
theorem qiu {z : Int} (h : z = 4 ∨ (∃ i : Nat, i < 3 ∧ z = ((1 + i : Nat) : Int)) ∨ z = 37 ∨ ∃ j : Nat, j < 8 ∧ z = ((54 + j : Nat) : Int)) : z ∈ ybcp := by
 have h2 : z = 4 ∨ (z = 1 ∨ z = 2 ∨ z = 3) ∨ z = 37 ∨ (z = 54 ∨ z = 55 ∨ z = 56 ∨ z = 57 ∨ z = 58 ∨ z = 59 ∨ z = 60 ∨ z = 61) := by
  rcases h with h | ⟨i, hi, h⟩ | h | ⟨j, hj, h⟩
  ·exact Or.inl h
  ·omega
  ·omega
  ·omega
 unfold ybcp
 simp only [List.mem_cons]
 omega
theorem ybll (Dt : List Int) (hD : qeb Dt) (h5 : Dt.length ≤ 512) : CutS (cut_w Dt) (blkN (Dt.length : Int)) Dt.length (fun i => Dt.getD i 0) := by
 obtain ⟨n, hn⟩ : ∃ n, blkN (Dt.length : Int) = n := ⟨_, rfl⟩
 have hn8 : n ≤ 8 := by rw [← hn]; exact qcq (by omega)
 have h0 := qre
 unfold cut_w qrf
 rw [hn]
 have hput : (qde (qeu fs1 (cN n Dt.length) ⟨foC n, putC Dt n, pmP n n⟩) fX0 (cN n Dt.length)).put = putZ (putC Dt n) 37 (qcf fX0 ++ qcf (cN n Dt.length)) := by
  show gonP (putZ (putC Dt n) ((foC n).nd 0 0) _) [] = _
  obtain ⟨S, e⟩ := qrp n
  rw [e]
  have : (hasF fs1.fo S).nd 0 0 = 37 := h0.nd
  rw [this]; rfl
 have hrise : qdc (qde (qeu fs1 (cN n Dt.length) ⟨foC n, putC Dt n, pmP n n⟩) fX0 (cN n Dt.length)).put := by
  rw [hput]; exact qfu _ _ (qsr Dt n)
 have hzero : ∀ i, Dt.length ≤ i → Dt.getD i 0 = 0 := fun i hi => by
  rw [List.getD_eq_getElem?_getD, List.getElem?_eq_none hi]; rfl
 have hDt : Dt.length ≤ 64 * n := by rw [← hn]; unfold blkN qbq; split <;> omega
 have hc : ∀ j, qeb (blkC (fun i => Dt.getD i 0) j) := fun j y hy => by
  obtain ⟨i, _, rfl⟩ := List.mem_map.1 hy
  show 0 ≤ Dt.getD _ 0 ∧ Dt.getD _ 0 ≤ 255
  rw [List.getD_eq_getElem?_getD]
  by_cases hi : 64 * j + i < Dt.length
  ·rw [List.getElem?_eq_getElem hi]; exact hD _ (List.getElem_mem hi)
  ·rw [List.getElem?_eq_none (by omega)]; decide
 refine ⟨rfl, rfl, ?_, ?_, ?_, by rw [hn]; exact Nat.le_refl _, h5, ?_, ?_, ?_, ?_, hzero, fun i hi => hzero i (by omega)⟩
 ·obtain ⟨S, e⟩ := qrp n
  exact ⟨_, by show hasF (foC n) _ = _; rw [e, qep]⟩
 ·show (fs1.nodes.set 1 _)[0]? = _
  rw [List.getElem?_set_ne (by omega)]; exact ybfp
 ·show (fs1.nodes.set 1 _)[1]? = _
  rw [List.getElem?_set_self (by have := h0.n1; exact (List.getElem?_eq_some_iff.1 this).1)]
 ·exact qmu _ _ h0.rise
 ·intro z hz
  rcases qpf _ _ hz with h | ⟨i, hi, h⟩ | h | h
  ·exact qiu (Or.inl (by rw [h]))
  ·exact qiu (Or.inr (Or.inl ⟨i, hi, by rw [h]⟩))
  ·rw [hput] at h
   rcases qer h with h | h
   ·exact qiu (Or.inr (Or.inr (Or.inl (by rw [h]))))
   ·obtain ⟨j, hj, e⟩ := qql Dt h
    exact qiu (Or.inr (Or.inr (Or.inr ⟨j, by omega, by rw [e]⟩)))
  ·exact h0.keys z h
 ·refine ybez _ _ hrise h0.byte (fun z hz => ?_) ?_ rfl
  ·rw [hput] at hz
   rcases qer hz with h | h
   ·rw [h]
    intro y hy
    rcases List.mem_append.1 hy with hy | hy
    ·exact ybfj y hy
    ·exact yblh n Dt.length (by rw [hn]; exact Nat.le_refl _) h5 y hy
   ·obtain ⟨j, hj, e⟩ := qql Dt h
    rw [e, ybkx]
    exact hc j
  ·obtain ⟨S, e⟩ := qrp n
   show qeb (qbv (hasF (foC n) _))
   rw [e, qep]; exact ybap _ _ qzm
 ·intro j hj
  rw [ybgt _ _ hrise _ (by omega), hput, qcr _ (by omega), ybgl Dt j n hj, Option.getD_some, ybkx]
def cut_s (s : Fs) (m sz z : Nat) : Fs := qiq s (qde (qjp s (cN m sz) (cN (min m (blkN (z : Int))) z) (z : Int)) fX0 (cN (min m (blkN (z : Int))) z))
theorem ybwq {s : Fs} {m sz : Nat} {c : Nat → Int} (h : CutS s m sz c) (z : Nat) (hz : z ≤ 512) : CutS (cut_s s m sz z) (min m (blkN (z : Int))) z (fun i => if i < z then c i else 0) := by
 have hm8 := h.m8
 obtain ⟨K, hK⟩ : ∃ K, blkN (z : Int) = K := ⟨_, rfl⟩
 obtain ⟨K0, hK0⟩ : ∃ K0, blkN (sz : Int) = K0 := ⟨_, rfl⟩
 have hK8 : K ≤ 8 := by rw [← hK]; exact qcq (by omega)
 have hK08 : K0 ≤ 8 := by rw [← hK0]; exact qcq (by have := h.hsz; omega)
 have hmK0 : m ≤ K0 := by rw [← hK0]; exact h.hm
 have hzK : z ≤ 64 * K ∧ (0 < K → 64 * (K - 1) < z) := by rw [← hK]; unfold blkN qbq; split <;> omega
 have hres : resP (pmP m K0) K = pmP (min m K) K := ybop K0 hK08 m hmK0 K hK8
 have hgone := ybuc K0 hK08 m hmK0 K hK8
 unfold cut_s
 rw [hK]
 obtain ⟨x, hx⟩ : ∃ x, x = qde (qjp s (cN m sz) (cN (min m K) z) (z : Int)) fX0 (cN (min m K) z) := ⟨_, rfl⟩
 obtain ⟨g, hg⟩ : ∃ g, g = srtI (qed (cN m sz).P (blkN (z : Int))) := ⟨_, rfl⟩
 have hgm : ∀ p ∈ g, ((54 + K : Nat) : Int) ≤ p := fun p hp => by
  rw [hg] at hp
  have h1 := (qny _).mem_iff.1 hp
  rw [hK] at h1
  refine hgone p ?_
  rw [← hK0]; exact h1
 obtain ⟨put, hp⟩ : ∃ put, put = (cutY s (cN m sz) (z : Int)).put := ⟨_, rfl⟩
 have hput : x.put = gonP (putZ put 37 (qcf fX0 ++ qcf (cN (min m K) z))) g := by
  rw [hx, hp, hg]
  show gonP (putZ _ (s.fo.nd 0 0) _) _ = _
  rw [h.nd]; rfl
 -- what is put: nothing, or the last block
 have hlast : (put = [] ∧ ¬ (z < sz ∧ z % 64 ≠ 0 ∧ K - 1 < min m K)) ∨ (put = [(((54 + (K - 1) : Nat) : Int), blkC (fun i => if i < z then c i else 0) (K - 1))] ∧ K - 1 < min m K) := by
  have ht : qez (cN m sz).P (blkN (z : Int)) (cN m sz).s (z : Int) = if z < sz ∧ z % 64 ≠ 0 ∧ K - 1 < min m K then ((z % 64 : Nat) : Int) else 0 := by
   show qez (pmP m (blkN (sz : Int))) (blkN (z : Int)) (sz : Int) (z : Int) = _
   rw [hK, hK0]
   unfold qez
   rw [hres, qoy]
   by_cases hc : z < sz ∧ z % 64 ≠ 0 ∧ K - 1 < min m K
   ·rw [if_pos hc, if_pos hc.2.2, if_pos ⟨by omega, by omega, by omega⟩]; rfl
   ·rw [if_neg hc, if_neg]
    rintro ⟨h1, h2, h3⟩
    by_cases h4 : K - 1 < min m K
    ·exact hc ⟨by omega, by omega, h4⟩
    ·rw [if_neg h4] at h3; exact h3 rfl
  have hcy : put = if (qez (cN m sz).P (blkN (z : Int)) (cN m sz).s (z : Int)).toNat = 0 then [] else [((resP (cN m sz).P (blkN (z : Int))).getD (blkN (z : Int) - 1) 0, (qck (tx0 s) s (resP (cN m sz).P (blkN (z : Int))) (blkN (z : Int) - 1)).take (qez (cN m sz).P (blkN (z : Int)) (cN m sz).s (z : Int)).toNat ++ List.replicate (64 - (qez (cN m sz).P (blkN (z : Int)) (cN m sz).s (z : Int)).toNat) 0)] := hp
  rw [ht] at hcy
  by_cases hc : z < sz ∧ z % 64 ≠ 0 ∧ K - 1 < min m K
  ·right
   refine ⟨?_, hc.2.2⟩
   rw [if_pos hc, Int.toNat_natCast, if_neg hc.2.1] at hcy
   rw [hcy]
   have e1 : (resP (cN m sz).P (blkN (z : Int))).getD (blkN (z : Int) - 1) 0 = ((54 + (K - 1) : Nat) : Int) := by
    show (resP (pmP m (blkN (sz : Int))) (blkN (z : Int))).getD _ 0 = _
    rw [hK, hK0, hres, qoy, if_pos hc.2.2]
   have e2 : qck (tx0 s) s (resP (cN m sz).P (blkN (z : Int))) (blkN (z : Int) - 1) = blkC c (K - 1) := by
    unfold qck
    rw [e1, if_neg (by omega), Int.toNat_natCast]
    show (none : Option (List Int)).getD (secE s (54 + (K - 1))) = _
    rw [Option.getD_none, h.blk _ (by omega)]
   rw [e1, e2]
   congr 2
   apply List.ext_getElem?
   intro i
   have hz64 : z % 64 = z - 64 * (K - 1) := by have := hc.2.2; omega
   by_cases hi : i < z % 64
   ·rw [List.getElem?_append_left (by rw [List.length_take, qwe]; omega), List.getElem?_take, if_pos hi, qmn, qmn, if_pos (by omega), if_pos (by omega), if_pos (by omega)]
   ·rw [List.getElem?_append_right (by rw [List.length_take, qwe]; omega), List.length_take, qwe, List.getElem?_replicate, qmn]
    by_cases hi2 : i < 64
    ·rw [if_pos (by omega), if_pos hi2, if_neg (by omega)]
    ·rw [if_neg (by omega), if_neg hi2]
  ·left
   rw [if_neg hc] at hcy
   exact ⟨hcy, hc⟩
 have hputr : qdc put := by
  rcases hlast with ⟨e, _⟩ | ⟨e, _⟩ <;> rw [e]
  ·exact List.Pairwise.nil
  ·exact List.pairwise_singleton _ _
 have hrise : qdc x.put := by rw [hput]; exact qzt _ (qfu _ _ hputr)
 have hcb : ∀ j, j < m → qeb (blkC c j) := fun j hj => by
  have := h.byte (54 + j) (by have := h.k; omega)
  rw [h.blk j hj] at this
  exact this
 have hpm : ∀ y ∈ put, ∃ j : Nat, j < 8 ∧ y.1 = ((54 + j : Nat) : Int) := fun y hy => by
  rcases hlast with ⟨e, _⟩ | ⟨e, h1⟩ <;> rw [e] at hy
  ·cases hy
  ·rw [List.mem_singleton] at hy
   exact ⟨K - 1, by omega, by rw [hy]⟩
 have hblk2 : ∀ j, j < min m K → qeb (blkC (fun i => if i < z then c i else 0) j) := fun j hj y hy => by
  obtain ⟨i, hi, rfl⟩ := List.mem_map.1 hy
  show 0 ≤ (if 64 * j + i < z then c (64 * j + i) else 0) ∧ (if 64 * j + i < z then c (64 * j + i) else 0) ≤ 255
  split
  ·exact hcb j (by omega) _ (List.mem_map.2 ⟨i, hi, rfl⟩)
  ·decide
 rw [← hx]
 refine ⟨h.k, ?_, ?_, ?_, ?_, by rw [hK]; omega, hz, ?_, ?_, ?_, ?_, fun i hi => if_neg (by omega), fun i hi => ?_⟩
 ·rw [hx]; exact h.rows
 ·obtain ⟨S, e⟩ := h.fo
  rw [hx]
  exact ⟨_, by show hasF s.fo _ = _; rw [e, qep]⟩
 ·rw [hx]
  show (s.nodes.set 1 _)[0]? = _
  rw [List.getElem?_set_ne (by omega)]; exact h.n0
 ·rw [hx]
  show (s.nodes.set 1 _)[1]? = _
  rw [List.getElem?_set_self ((List.getElem?_eq_some_iff.1 h.n1).1)]
 ·exact qmu _ _ h.rise
 ·intro y hy
  rcases qpf _ _ hy with h1 | ⟨i, hi, h1⟩ | h1 | h1
  ·exact qiu (Or.inl (by rw [h1]))
  ·exact qiu (Or.inr (Or.inl ⟨i, hi, by rw [h1]⟩))
  ·rw [hput] at h1
   rcases qer (qwz g h1) with h2 | h2
   ·exact qiu (Or.inr (Or.inr (Or.inl (by rw [h2]))))
   ·exact qiu (Or.inr (Or.inr (Or.inr (hpm y h2))))
  ·exact h.keys y h1
 ·refine ybez _ _ hrise h.byte (fun y hy => ?_) ?_ (by rw [hx]; exact h.rows)
  ·rw [hput] at hy
   rcases qer (qwz g hy) with h2 | h2
   ·rw [h2]
    intro v hv
    rcases List.mem_append.1 hv with hv | hv
    ·exact ybfj v hv
    ·exact yblh (min m K) z (by rw [hK]; omega) hz v hv
   ·rcases hlast with ⟨e, _⟩ | ⟨e, h1⟩ <;> rw [e] at h2
    ·cases h2
    ·rw [List.mem_singleton] at h2
     rw [h2]
     exact hblk2 _ h1
  ·rw [hx]
   exact h.bytes _
 ·intro j hj
  have hng : (((54 + j : Nat)) : Int) ∉ g := fun hc => by
   have := hgm _ hc
   omega
  rw [ybgt _ _ hrise _ (by omega), hput, yboq g hng (by omega)]
  have hkeep : j ≠ K - 1 ∨ ¬ (z < sz ∧ z % 64 ≠ 0 ∧ K - 1 < min m K) → blkC (fun i => if i < z then c i else 0) j = blkC c j := fun hj2 => ybkv fun i hi => by
   by_cases hiz : 64 * j + i < z
   ·rw [if_pos hiz]
   ·rw [if_neg hiz]
    refine (h.zero _ ?_).symm
    rcases hj2 with hj2 | hj2 <;> omega
  rcases hlast with ⟨e, h1⟩ | ⟨e, h1⟩ <;> rw [e]
  ·show (none : Option (List Int)).getD _ = _
   rw [Option.getD_none, h.blk j (by omega), hkeep (Or.inr h1)]
  ·by_cases hjK : j = K - 1
   ·subst hjK
    rw [qhw, if_pos rfl]; rfl
   ·rw [qhw, if_neg (by show ¬ (((54 + (K - 1) : Nat)) : Int) = ((54 + j : Nat) : Int); omega)]
    show (none : Option (List Int)).getD _ = _
    rw [Option.getD_none, h.blk j (by omega), hkeep (Or.inl hjK)]
 ·show (if i < z then c i else 0) = 0
  by_cases hiz : i < z
  ·rw [if_pos hiz]
   exact h.hole i (by omega)
  ·rw [if_neg hiz]
theorem ybws {s : Fs} {m sz : Nat} {c : Nat → Int} (h : CutS s m sz c) (z : Nat) (hz : z ≤ 512) : cN (min m (blkN (z : Int))) z = { cN m sz with P := resP (cN m sz).P (blkN (z : Int)), s := (z : Int) } := by
 have : resP (pmP m (blkN (sz : Int))) (blkN (z : Int)) = pmP (min m (blkN (z : Int))) (blkN (z : Int)) := ybop _ (qcq (by have := h.hsz; omega)) m h.hm _ (qcq (by omega))
 unfold cN
 rw [this]
theorem ybhp {s : Fs} {m sz : Nat} {c : Nat → Int} (h : CutS s m sz c) (z : Nat) (X1 X0 X2 : Pn) : qbn (qde (qjp s (cN m sz) X1 (z : Int)) X0 X2).fo = 0 := h.right _
end Go.Proofs.YtpoglnpjadmbpaaGreatDoor
namespace Go.Proofs.YtpoglnpjadmbpaaGreatDoor
open Go.RowKit
def qyg (Dt : List Int) : List Int := over (List.replicate 512 0) 0 Dt
theorem qih {Dt : List Int} (h : Dt.length ≤ 512) : (qyg Dt).length = 512 := by
 unfold qyg over
 simp only [List.take_zero, List.nil_append, List.length_append, List.length_drop, List.length_replicate]
 omega
theorem ybqf {Dt : List Int} (_h : Dt.length ≤ 512) (i : Nat) (hi : i < 512) : (qyg Dt)[i]? = some (Dt.getD i 0) := by
 unfold qyg over
 rw [List.take_zero, List.nil_append]
 by_cases h1 : i < Dt.length
 ·rw [List.getElem?_append_left h1, List.getElem?_eq_getElem h1, List.getD_eq_getElem?_getD, List.getElem?_eq_getElem h1]; rfl
 ·rw [List.getElem?_append_right (by omega), List.getElem?_drop, List.getElem?_replicate, if_pos (by omega), List.getD_eq_getElem?_getD, List.getElem?_eq_none (by omega)]; rfl
def qqa (Dt : List Int) (o : Nat) : List Int := (qyg Dt).take o ++ List.replicate (512 - o) 0
theorem ybbx {Dt : List Int} (h : Dt.length ≤ 512) {o : Nat} (ho : o ≤ 512) : (qqa Dt o).length = 512 := by
 unfold qqa
 rw [List.length_append, List.length_take, qih h, List.length_replicate]; omega
theorem ybqg {Dt : List Int} (h : Dt.length ≤ 512) {a b : Nat} (ha : a ≤ 512) (hb : b ≤ 512) : (List.range b).map (fun i => if i < b then (if i < a then Dt.getD i 0 else 0) else 0) = (qqa Dt a).take b := by
 apply List.ext_getElem?
 intro i
 by_cases hi : i < b
 ·rw [List.getElem?_map, List.getElem?_range hi, List.getElem?_take, if_pos hi, Option.map_some, if_pos hi]
  unfold qqa
  by_cases hia : i < a
  ·rw [if_pos hia, List.getElem?_append_left (by rw [List.length_take, qih h]; omega), List.getElem?_take, if_pos hia, ybqf h i (by omega)]
  ·rw [if_neg hia, List.getElem?_append_right (by rw [List.length_take, qih h]; omega), List.getElem?_replicate, if_pos (by rw [List.length_take, qih h]; omega)]
 ·rw [List.getElem?_eq_none (by simp; omega), List.getElem?_take, if_neg hi]
theorem qnt {P : Program} (w : World) (dT sT ty e : TypeId) (he : P.underlying dT = some (.slice e)) (es : (P.info? e).map (·.size) = some 1) (a : Option Addr) (n m : Nat) (q : Option Addr) (c : Nat) : (Builtin.copy_ #[dT, sT] ty #[.slice a n m, .slice q 0 c]).run P w = .ok (.int .i64 0) w := by
 cases hq : P.info? e with
 | none => rw [hq] at es; cases es
 | some i =>
  cases q <;> cases a <;> simp [Builtin.copy_, run_underlying he, run_sizeOf w hq, Builtin.lenOf, Builtin.firstCells, loadCells, loadCellsFrom, storeCells, goInt]
theorem ybzg : (Tryz.prog.info? 5).map (·.size) = some 1 := by kernel_rfl
theorem qxu {w : World} {g : Nat} {v : Value} {Dt : List Int} (hg : w.heap[g]? = some (.cells (u8s (List.replicate 512 0)).toArray 5 (0, 0))) (hv : qae w v Dt) (h5 : Dt.length ≤ 512) (ty : TypeId) :
  ∃ n W', (Builtin.copy_ #[38, 38] ty #[.slice (some ⟨g, 0, none⟩) 512 512, v]).run Tryz.prog w = .ok n W' ∧ W'.heap[g]? = some (.cells (u8s (qyg Dt)).toArray 5 (0, 0)) ∧ ∀ (B : Nat) (w0 : World), Below B w0 w → B ≤ g → Below B w0 W' := by
 by_cases h0 : 0 < Dt.length
 ·have hrun := qdx (P := Tryz.prog) w 38 38 ty 5 qtn ybzg g 0 512 512 v (List.replicate 512 0) Dt 5 hg hv h0 h5 (by rw [List.length_replicate]; omega)
  exact ⟨_, _, hrun, setRow_heap _ _ _ _ _ _ hg, fun B w0 hb hB => Below.setRow hb hB _⟩
 ·obtain rfl : Dt = [] := List.length_eq_zero_iff.1 (by omega)
  have hrow : qyg [] = List.replicate 512 0 := by unfold qyg over; rw [List.take_zero, List.nil_append, List.nil_append, List.length_nil, Nat.add_zero, List.drop_zero]
  obtain ⟨_, ⟨_, q, c, rfl⟩ | ⟨g', o', c, rfl, _⟩⟩ := hv
  ·exact ⟨.int .i64 0, w, qnt w _ _ _ _ qtn ybzg _ _ _ _ _, by rw [hrow]; exact hg, fun _ _ hb _ => hb⟩
  ·exact ⟨.int .i64 0, w, qnt w _ _ _ _ qtn ybzg _ _ _ _ _, by rw [hrow]; exact hg, fun _ _ hb _ => hb⟩
set_option maxRecDepth 100000 in
theorem qug {w : World} {g : Nat} {D : List Int} (hg : w.heap[g]? = some (.cells (u8s D).toArray 5 (0, 0))) (hD : D.length = 512) (o : Nat) (ho : o ≤ 512) (ty : TypeId) :
  ∃ W', (Builtin.clear_ #[38] ty #[.slice (some ⟨g, o, none⟩) (512 - o) (512 - o)]).run Tryz.prog w = .ok (.tuple #[]) W' ∧ W'.heap[g]? = some (.cells (u8s (D.take o ++ List.replicate (512 - o) 0)).toArray 5 (0, 0)) ∧ ∀ (B : Nat) (w0 : World), Below B w0 w → B ≤ g → Below B w0 W' := by
 by_cases h0 : o < 512
 ·have hrun := qpk (P := Tryz.prog) w 38 5 qtn u8Zv g o (512 - o) (512 - o) _ _ hg (by rw [List.size_toArray, qak, hD]; omega) (by omega) ty
  refine ⟨_, hrun, ?_, fun B w0 hb hB => Below.setRow hb hB _⟩
  rw [setRow_heap _ _ _ _ _ _ hg]
  congr 3
  rw [List.toList_toArray, qbf, qci, List.drop_of_length_le (l := u8s D) (by rw [qak, hD]; omega), List.append_nil]
  congr 1
  unfold u8s
  rw [List.map_replicate]
 ·obtain rfl : o = 512 := by omega
  refine ⟨w, ?_, ?_, fun _ _ hb _ => hb⟩
  ·simp [Builtin.clear_, run_underlying qtn]
  ·rw [hg, Nat.sub_self, List.replicate_zero, List.append_nil, List.take_of_length_le (by omega)]
theorem qmp (l : List Int) {w : World} {v : Value} (hv : qae w v l) : (convert 38 9 v).run Tryz.prog w = .ok (.string (qce l)) w := by
 by_cases h : 0 < l.length
 ·exact qqy l h hv
 ·obtain rfl : l = [] := List.length_eq_zero_iff.1 (by omega)
  obtain ⟨_, ⟨_, q, c, rfl⟩ | ⟨g', o', c, rfl, _⟩⟩ := hv
  ·rw [run_convert_bytes_string w 38 9 5 q 0 c qtn qyr qoa]
   cases q <;> rfl
  ·show (convert 38 9 (.slice (some ⟨g', o', none⟩) 0 c)).run Tryz.prog w = _
   rw [run_convert_bytes_string w 38 9 5 (some ⟨g', o', none⟩) 0 c qtn qyr qoa]
   rfl
theorem qwj {w : World} {gf : Nat} {F : Nat → Prop} {B : Nat} {a : Addr} (h : FsAt w gf fs1 F B a) (hB : B ≤ w.heap.size) (v : Value) (Dt : List Int) (hv : qbp w v Dt) (hD : qeb Dt) (h5 : Dt.length ≤ 512) :
  Calls Tryz.prog 16 #[.pointer (some ⟨gf, 0, none⟩), .int .i64 2, .int .i64 0, v] w
   (fun e w' => e = .returned (.tuple #[.int .i64 (Dt.length : Int), .int .i64 0]) ∧ ∃ s' m, CutS s' m Dt.length (fun i => Dt.getD i 0) ∧ FsAt w' gf s' F B a ∧ qac F w w') := by
 by_cases h0 : 0 < Dt.length
 ·obtain ⟨n, hn⟩ : ∃ n, blkN (Dt.length : Int) = n := ⟨_, rfl⟩
  have hn8 : n ≤ 8 := by rw [← hn]; exact qcq (by omega)
  have hn2 : (Dt.length + 63) / 64 = n := by rw [← hn]; unfold blkN qbq; split <;> omega
  have hcw := ybll Dt hD h5
  have hy : fwrE fs1 (tx0 fs1) Dt 0 (0 / 64) ⟨fs1.fo, [], [] ++ List.replicate ((0 + Dt.length + 63) / 64 - ([] : List Int).length) 0⟩ ((0 + Dt.length - 1) / 64 + 1 - 0 / 64) = some (qrf Dt) := by
   have e1 : (0 + Dt.length + 63) / 64 - ([] : List Int).length = n := by rw [← hn2]; simp
   have e2 : (0 + Dt.length - 1) / 64 + 1 - 0 / 64 = n := by omega
   rw [e1, e2]
   unfold qrf
   rw [hn]
   have := yblk Dt n hn8 n (Nat.le_refl _)
   have e3 : pmP 0 n = [] ++ List.replicate n 0 := by unfold pmP; simp
   rw [e3] at this
   exact this
  obtain ⟨S, eS⟩ := qrp n
  have hns : qcj (foC n) := by rw [eS]; exact fun k h1 h2 => qjq k h1 h2
  have hnd : (foC n).nd 0 0 = 37 := by rw [eS]; exact qre.nd
  have hfo : (qrf Dt).fo = foC n := by unfold qrf; rw [hn]
  have hcr := qwh (blkN (Dt.length : Int)) Dt.length (Nat.le_refl _) h5
  have e4 : cN 0 0 = { newN 420 0 0 with P := [], s := 0 } := by kernel_rfl
  refine (qwv h hB (cN 0 0) qre.n1 rfl (fun p hp => by rw [e4] at hp; cases hp) (by rw [e4]; decide) 0 rfl (by omega) 0 v Dt hv h0 (by omega) qjq (qrf Dt) (by rw [e4]; exact hy) rfl 37 (by rw [hfo]; exact hnd) (by omega) (by omega) (by rw [hfo]; exact hns) fX0 ybfp (cN (blkN (Dt.length : Int)) Dt.length) (by
   unfold cN qrf
   simp) qps.1 hcr qps.2.2.1 (qkd hcr) (by
    show qbn (hasF (qrf Dt).fo _) = 0
    rw [hfo, eS, qep, qlc _ _ qzo]; exact qzn) (by
    have h1 := ybgp (qsr Dt n) ybcp (fun z hz => by
     obtain ⟨j, hj, e⟩ := qql Dt hz
     exact qiu (Or.inr (Or.inr (Or.inr ⟨j, by omega, by rw [e]⟩))))
    have h2 : (qrf Dt).put = putC Dt n := by unfold qrf; rw [hn]
    rw [ybme, h2]
    have h3 : ybcp.length = 14 := rfl
    omega)).mono ?_
  rintro e w1 ⟨rfl, h1, k1⟩
  exact ⟨rfl, _, _, hcw, h1, k1⟩
 ·obtain rfl : Dt = [] := List.length_eq_zero_iff.1 (by omega)
  obtain ⟨p, cp, rfl⟩ := qdm hv.1 0 rfl
  refine (qww h (cN 0 0) qre.n1 rfl 0 (by omega) p cp).mono ?_
  rintro e w1 ⟨rfl, rfl⟩
  exact ⟨rfl, fs1, 0, by simpa using qre, h, qac.refl _ _⟩
theorem qrd {w : World} {gf : Nat} {s : Fs} {F : Nat → Prop} {B : Nat} {a : Addr} (h : FsAt w gf s F B a) (hB : B ≤ w.heap.size) {m sz : Nat} {c : Nat → Int} (hs : CutS s m sz c) (z : Nat) (hz : z ≤ 512) :
  Calls Tryz.prog 17 #[.pointer (some ⟨gf, 0, none⟩), .int .i64 2, .int .i64 (z : Int)] w
   (fun e w' => e = .returned (.int .i64 0) ∧ ∃ s' m', CutS s' m' z (fun i => if i < z then c i else 0) ∧ FsAt w' gf s' F B a ∧ qac F w w') := by
 by_cases h0 : sz = z
 ·subst h0
  refine (qrt h (cN m sz) hs.n1 rfl sz hz rfl).mono ?_
  rintro e w1 ⟨rfl, hb⟩
  have e1 : (fun i => if i < sz then c i else 0) = c := by
   funext i
   by_cases hi : i < sz
   ·rw [if_pos hi]
   ·rw [if_neg hi, hs.zero i (by omega)]
  exact ⟨rfl, s, m, by rw [e1]; exact hs, h.below hb, qac.of_below hb⟩
 ·have hm' : min m (blkN (z : Int)) ≤ blkN (z : Int) := Nat.min_le_right _ _
  have hr1 := qwh m sz hs.hm hs.hsz
  have hr2 := qwh (min m (blkN (z : Int))) z hm' hz
  refine (ybvw h hB (cN m sz) hs.n1 rfl (by rw [hs.k]; exact ybvr m sz hs.m8) hr1 z hz (by show (sz : Int) ≠ (z : Int); omega) hs.snap hs.rows 37 hs.nd (by omega) (by omega) fX0 hs.n0 (cN (min m (blkN (z : Int))) z) (ybws hs z hz) qps.1 hr2 qps.2.2.1 (qkd hr2) (ybhp hs z _ _ _) (by have := hs.len; omega)).mono ?_
  rintro e w1 ⟨rfl, h1, k1⟩
  exact ⟨rfl, _, _, ybwq hs z hz, h1, k1⟩
theorem qyy {w : World} {gf : Nat} {s : Fs} {F : Nat → Prop} {B : Nat} {a : Addr} (h : FsAt w gf s F B a) {m sz : Nat} {c : Nat → Int} (hs : CutS s m sz c) :
  Calls Tryz.prog 18 #[.pointer (some ⟨gf, 0, none⟩), .int .i64 2, .int .i64 0, .int .i64 512] w
   (fun e w' => ∃ v, e = .returned (.tuple #[v, .int .i64 0]) ∧ qae w' v ((List.range sz).map c) ∧ (∀ b, v.ownBlock = some b → w.heap.size ≤ b) ∧ Below w.heap.size w w') := by
 have h1 := qlx h hs.byte 1 (by omega) (cN m sz) hs.n1 rfl (by rw [hs.k]; exact ybvr m sz hs.m8) (by show (pmP _ _).length ≤ 8; rw [qhm hs.hm]; exact qcq (by have := hs.hsz; omega)) ⟨by show (0 : Int) ≤ (sz : Int); omega, by show (sz : Int) ≤ 512; have := hs.hsz; omega⟩ 0 512 (by omega) (by omega) (by omega)
 rw [hs.text, show qgc ((List.range sz).map c) 0 512 = (List.range sz).map c by unfold qgc; rw [List.drop_zero, List.take_of_length_le (by simp; exact hs.hsz)]] at h1
 exact h1
set_option maxRecDepth 100000 in
theorem ybwr (v : Value) (Dt : List Int) (n1 n2 : Int) (w : World) (hv : qbp w v Dt) (hD : qeb Dt) :
  Calls Tryz.prog 4 #[v, .int .i64 n1, .int .i64 n2] w (fun e w' => e = .returned (.bool true) ∧ Below w.heap.size w w') := by
 obtain ⟨L, HL⟩ : ∃ L, Hid (Dt.length = L) := ⟨_, rfl⟩
 obtain ⟨q, cp, rfl⟩ := qdm hv.1 L HL.out
 have HV := Lib.hid hv
 have HDB := Lib.hid hD
 have HFL := Lib.hid (qrl w)
 have HFR := Lib.hid (fun W => qmy 80 (by omega) (by omega) W)
 obtain ⟨a, ha, ha2⟩ := ybar n1 513 (by omega) (by omega)
 obtain ⟨b, hb, hb2⟩ := ybar n2 513 (by omega) (by omega)
 have HP0 : Hid (∀ W : World, Calls Tryz.prog 8 #[.int .i64 n1, .int .i64 513] W (fun e w' => e = .returned (.int .i64 (a : Int)) ∧ W = w')) := fun W => by rw [← ha]; exact qno n1 513 W (by omega) (by omega)
 have HP1 : Hid (∀ W : World, Calls Tryz.prog 8 #[.int .i64 n2, .int .i64 513] W (fun e w' => e = .returned (.int .i64 (b : Int)) ∧ W = w')) := fun W => by rw [← hb]; exact qno n2 513 W (by omega) (by omega)
 have HAB : Hid (a ≤ 512 ∧ b ≤ 512) := ⟨by omega, by omega⟩
 clear ha ha2 hb hb2 hv hD
 by_cases h5 : L ≤ 512
 ·have d1 : decide ((512 : Int) < (L : Int)) = false := decide_eq_false (by omega)
  have d2 : ¬ (512 : Int) < (L : Int) := by omega
  have d3 : ¬ 512 < L := by omega
  have HL5 : Hid (Dt.length ≤ 512) := by show _ ≤ _; rw [HL.out]; exact h5
  go_enter Tryz.func4, Tryz.ntmps4
  go_wp2_with fail
  refine HFL.out.mono ?_
  rintro e w1 ⟨rfl, hb1⟩
  have HB1 := Lib.hid hb1
  clear hb1
  go_wp2_with fail
  refine (HFR.out w1).mono ?_
  rintro e w2 ⟨gf, ad, F, rfl, h2, hb2, hF2⟩
  have HB2 := Lib.hid (Below.step HB1.out hb2)
  have HF : Hid (∀ i, F i → w.heap.size ≤ i) := fun i hi => Nat.le_trans HB1.out.size (hF2 i hi)
  have HMK : Hid (Calls Tryz.prog 15 #[.pointer (some ⟨gf, 0, none⟩), .int .i64 1, .string ⟨#[97]⟩, .int .i64 1, .int .i64 420, .int .i64 0, .int .i64 0] w2
    (fun e w' => e = .returned (.tuple #[.int .i64 2, .int .i64 0]) ∧ FsAt w' gf fs1 F w2.heap.size ad ∧ qac F w2 w')) := Lib.hid (ybdf h2 (Nat.le_refl _) qup (by omega) (by omega) (by omega))
  clear h2 hb2 hF2
  go_wp2_with fail
  refine HMK.out.mono ?_
  rintro e w3 ⟨rfl, h3, k3⟩
  have HK3 := Lib.hid k3
  have HBB3 : Hid (Below w.heap.size w w3) := HB2.out.trans (k3.to_below HF.out HB2.out.size)
  have HWR := Lib.hid (qwj h3 k3.size (.slice q L cp) Dt ⟨HV.out.1.below HBB3.out, HV.out.2⟩ HDB.out HL5.out)
  clear h3 k3
  go_wp2_with fail
  refine HWR.out.mono ?_
  rintro e w4 ⟨rfl, s4, m4, hs4, h4, k4⟩
  have HK4 : Hid (qac F w2 w4) := HK3.out.trans k4 (fun _ h => Or.inl h)
  have HS4 := Lib.hid hs4
  have HC4 := Lib.hid (qrd h4 HK4.out.size hs4 a HAB.out.1)
  clear h4 k4 hs4
  go_wp2_with fail
  refine (HP0.out w4).mono ?_
  rintro e w4' ⟨rfl, rfl⟩
  go_wp2_with fail
  refine (HP1.out w4).mono ?_
  rintro e w4' ⟨rfl, rfl⟩
  go_wp2_with fail
  refine HC4.out.mono ?_
  rintro e w5 ⟨rfl, s5, m5, hs5, h5', k5⟩
  have HK5 : Hid (qac F w2 w5) := HK4.out.trans k5 (fun _ h => Or.inl h)
  have HC5 := Lib.hid (qrd h5' HK5.out.size hs5 b HAB.out.2)
  clear h5' k5 hs5
  go_wp2_with fail
  refine HC5.out.mono ?_
  rintro e w6 ⟨rfl, s6, m6, hs6, h6, k6⟩
  have HK6 : Hid (qac F w2 w6) := HK5.out.trans k6 (fun _ h => Or.inl h)
  have HR6 := Lib.hid (qyy h6 hs6)
  have HBB6 : Hid (Below w.heap.size w w6) := HB2.out.trans (HK6.out.to_below HF.out HB2.out.size)
  clear h6 k6 hs6
  go_wp2_with fail
  refine HR6.out.mono ?_
  rintro e w7 ⟨v7, rfl, hv7, ho7, hb7⟩
  rw [ybqg HL5.out HAB.out.1 HAB.out.2] at hv7
  have HBB7 : Hid (Below w.heap.size w w7) := Below.step HBB6.out hb7
  have HV7 := Lib.hid hv7
  clear hv7 ho7 hb7
  obtain ⟨Z, HZ⟩ : ∃ Z, Hid (Z = List.replicate 512 (0 : Int)) := ⟨_, rfl⟩
  have hmk : ∀ W : World, (Instr.makeSlice 38 (.int .i64 512) (.int .i64 512)).run Tryz.prog W = .ok (.slice (some ⟨W.heap.size, 0, none⟩) 512 512) (W.alloc (.cells (u8s Z).toArray 5)) := fun W => by
   rw [HZ.out]; exact qhl 512 512 rfl (by omega) W
  have HBB8 : Hid (Below w.heap.size w (w7.alloc (.cells (u8s Z).toArray 5))) := HBB7.out.alloc HBB7.out.size _
  have HB78 : Hid (Below w7.heap.size w7 (w7.alloc (.cells (u8s Z).toArray 5))) := (Below.refl _ _).alloc (Nat.le_refl _) _
  obtain ⟨nc, w9, hcp, hg9, hb9⟩ := qxu (w := w7.alloc (.cells (u8s Z).toArray 5)) (g := w7.heap.size) (by rw [← HZ.out]; exact heap_alloc_new _ _) (HV.out.1.below HBB8.out) HL5.out 3
  have HBB9 := Lib.hid (hb9 _ _ HBB8.out HBB7.out.size)
  have HB79 := Lib.hid (hb9 _ _ HB78.out (Nat.le_refl _))
  have HG9 := Lib.hid hg9
  clear hg9 hb9
  rcases (by have := HAB.out.1; omega : a = 512 ∨ a < 512) with rfl | ha
  ·obtain ⟨w10, hw10⟩ : ∃ W, Hid (w9 = W) := ⟨_, rfl⟩
   have hg10 : w10.heap[w7.heap.size]? = some (.cells (u8s (qqa Dt 512)).toArray 5 (0, 0)) := by
    rw [← hw10.out]
    have : qqa Dt 512 = qyg Dt := by unfold qqa; rw [Nat.sub_self, List.replicate_zero, List.append_nil, List.take_of_length_le (by rw [qih HL5.out]; exact Nat.le_refl _)]
    rw [this]; exact HG9.out
   have hb10 : ∀ (B : Nat) (w0 : World), Below B w0 w9 → B ≤ w7.heap.size → Below B w0 w10 := fun B w0 h _ => by rw [← hw10.out]; exact h
   have hcl : (Builtin.clear_ #[38] 0 #[.slice (some ⟨w7.heap.size, 0, none⟩) 0 0]).run Tryz.prog w9 = .ok (.tuple #[]) w10 := by rw [← hw10.out]; simp [Builtin.clear_, run_underlying qtn]
   have HBA := Lib.hid (hb10 _ _ HBB9.out (HBB7.out.size))
   have HB7A := Lib.hid (hb10 _ _ HB79.out (Nat.le_refl _))
   have hwb : qae w10 (.slice (some ⟨w7.heap.size, 0, none⟩) b 512) ((qqa Dt 512).take b) := qaw (by rw [List.length_take, ybbx HL5.out (by omega)]; have := HAB.out.2; omega) hg10 (by rw [List.toList_toArray, qci])
   obtain ⟨S, HS⟩ : ∃ S, Hid (qce ((qqa Dt 512).take b) = S) := ⟨_, rfl⟩
   have HC1 : Hid (∀ W : World, Below w10.heap.size w10 W → (convert 38 9 v7).run Tryz.prog W = .ok (.string S) W) := fun W hW => by
    rw [← HS.out]; exact qmp _ (HV7.out.below (Below.step HB7A.out hW))
   have HC2 : Hid (∀ W : World, Below w10.heap.size w10 W → (convert 38 9 (.slice (some ⟨w7.heap.size, 0, none⟩) b 512)).run Tryz.prog W = .ok (.string S) W) := fun W hW => by
    rw [← HS.out]; exact qmp _ (hwb.below hW)
   have hb512 : (b : Int) ≤ 512 := by have := HAB.out.2; omega
   go_wp2_with fail
   refine wp_region_quiet_below (by kernel_rfl) (by kernel_rfl) ?_
   repeat (first
    | go_big_quiet_skip
    | (refine qbz rfl (.string S) (fun w' hw' => qmq 38 9 (.tmp 88) rfl v7 (.string S) rfl (HC1.out w' (qaq hw'))) ?_; simp only [Act.put, List.setIfInBounds_toArray, List.set_cons_zero, List.set_cons_succ])
    | (refine qbz rfl (.string S) (fun w' hw' => qmq 38 9 (.tmp 92) rfl (.slice (some ⟨w7.heap.size, 0, none⟩) b 512) (.string S) rfl (HC2.out w' (qaq hw'))) ?_; simp only [Act.put, List.setIfInBounds_toArray, List.set_cons_zero, List.set_cons_succ])
    | (go_big_quiet_want; go_big_quiet_op; go_big_quiet_on))
   refine wpQuiet_nil ?_
   intro w11 hw11
   have HB11 : Hid (Below w.heap.size w w11) := Below.step HBA.out (qaq hw11)
   go_wp2
   go_ret
   exact ⟨rfl, HB11.out⟩
  ·have hmin : min (512 : Int) (a : Int) = (a : Int) := by omega
   have hmin2 : ¬ (512 : Int) ≤ (a : Int) := by omega
   have ha2 : ¬ 512 = a := by omega
   have ha3 : ¬ a = 512 := by omega
   obtain ⟨w10, hcl, hg10, hb10⟩ := qug HG9.out (qih HL5.out) a (by omega) 0
   have hg10 : w10.heap[w7.heap.size]? = some (.cells (u8s (qqa Dt a)).toArray 5 (0, 0)) := hg10
   have HBA := Lib.hid (hb10 _ _ HBB9.out (HBB7.out.size))
   have HB7A := Lib.hid (hb10 _ _ HB79.out (Nat.le_refl _))
   have hwb : qae w10 (.slice (some ⟨w7.heap.size, 0, none⟩) b 512) ((qqa Dt a).take b) := qaw (by rw [List.length_take, ybbx HL5.out (by omega)]; have := HAB.out.2; omega) hg10 (by rw [List.toList_toArray, qci])
   obtain ⟨S, HS⟩ : ∃ S, Hid (qce ((qqa Dt a).take b) = S) := ⟨_, rfl⟩
   have HC1 : Hid (∀ W : World, Below w10.heap.size w10 W → (convert 38 9 v7).run Tryz.prog W = .ok (.string S) W) := fun W hW => by
    rw [← HS.out]; exact qmp _ (HV7.out.below (Below.step HB7A.out hW))
   have HC2 : Hid (∀ W : World, Below w10.heap.size w10 W → (convert 38 9 (.slice (some ⟨w7.heap.size, 0, none⟩) b 512)).run Tryz.prog W = .ok (.string S) W) := fun W hW => by
    rw [← HS.out]; exact qmp _ (hwb.below hW)
   have hb512 : (b : Int) ≤ 512 := by have := HAB.out.2; omega
   go_wp2_with fail
   refine wp_region_quiet_below (by kernel_rfl) (by kernel_rfl) ?_
   repeat (first
    | go_big_quiet_skip
    | (refine qbz rfl (.string S) (fun w' hw' => qmq 38 9 (.tmp 88) rfl v7 (.string S) rfl (HC1.out w' (qaq hw'))) ?_; simp only [Act.put, List.setIfInBounds_toArray, List.set_cons_zero, List.set_cons_succ])
    | (refine qbz rfl (.string S) (fun w' hw' => qmq 38 9 (.tmp 92) rfl (.slice (some ⟨w7.heap.size, 0, none⟩) b 512) (.string S) rfl (HC2.out w' (qaq hw'))) ?_; simp only [Act.put, List.setIfInBounds_toArray, List.set_cons_zero, List.set_cons_succ])
    | (go_big_quiet_want; go_big_quiet_op; go_big_quiet_on))
   refine wpQuiet_nil ?_
   intro w11 hw11
   have HB11 : Hid (Below w.heap.size w w11) := Below.step HBA.out (qaq hw11)
   go_wp2
   go_ret
   exact ⟨rfl, HB11.out⟩
 ·have d1 : decide ((512 : Int) < (L : Int)) = true := decide_eq_true (by omega)
  have d2 : (512 : Int) < (L : Int) := by omega
  have d3 : 512 < L := by omega
  go_enter Tryz.func4, Tryz.ntmps4
  go_wp2_with fail
  refine HFL.out.mono ?_
  rintro e w1 ⟨rfl, hb1⟩
  have HB1 := Lib.hid hb1
  clear hb1
  go_wp2
  go_ret
  exact ⟨rfl, HB1.out⟩
end Go.Proofs.YtpoglnpjadmbpaaGreatDoor
