/- Part of the proofs of CheckFresh, FsCut, FsHoles: the texts ExtUnp, Quota, Quota2. -/
import Derived.Test.YtpoglnpjadmbpaaGreatDoorMA13
import Derived.Test.YtpoglnpjadmbpaaGreatDoorMA14
import Derived.IntWalk
set_option maxHeartbeats 16000000
namespace Go.Proofs.YtpoglnpjadmbpaaGreatDoor
open Go.RowKit
def qkl : List Int → List (Int × Int)
 | a :: n :: r => if 0 < n then (a, n) :: qkl r else []
 | _ => []
theorem ybjt (bs : List Int) (k : Nat) (h : 2 * k + 1 < bs.length) : qkl (bs.drop (2 * k)) = if 0 < bs[2 * k + 1] then (bs[2 * k], bs[2 * k + 1]) :: qkl (bs.drop (2 * (k + 1))) else [] := by
 rw [List.drop_eq_getElem_cons (show 2 * k < bs.length by omega), List.drop_eq_getElem_cons h, qkl]
 rfl
def qfo (bs : List Int) : List Int × Int := ptsR (qkl bs) []
def qop (bs : List Int) : Prop := bs.length = 16 ∧ (qfo bs).2 = 0 ∧ qee (ofE (qfo bs).1) = bs
theorem ybxa {x : Int × Int} (h : badX x = false) : ∀ p, p ∈ exp1 x → 0 ≤ p ∧ p ≤ 255 := by
 intro p hp
 simp only [exp1, List.mem_map, List.mem_range] at hp
 obtain ⟨i, hi, rfl⟩ := hp
 simp [badX] at h
 split <;> omega
theorem qvm : ∀ (l : List (Int × Int)) (acc : List Int), acc.length ≤ 8 → (∀ p, p ∈ acc → 0 ≤ p ∧ p ≤ 255) → (ptsR l acc).2 = 0 → (ptsR l acc).1.length ≤ 8 ∧ ∀ p, p ∈ (ptsR l acc).1 → 0 ≤ p ∧ p ≤ 255
 | [], acc, h1, h2, _ => ⟨h1, h2⟩
 | x :: r, acc, h1, h2, h3 => by
  unfold ptsR at h3 ⊢
  split at h3
  ·simp at h3
  ·rename_i hb
   rw [if_neg hb]
   split at h3
   ·simp at h3
   ·rename_i h8
    rw [if_neg h8]
    refine qvm r (acc ++ exp1 x) (by simp at *; omega) (fun p hp => ?_) h3
    rcases List.mem_append.1 hp with hp | hp
    ·exact h2 p hp
    ·exact ybxa (by simpa using hb) p hp
theorem ybuj {l : List Int} (h1 : l.length ≤ 8) (h2 : ∀ p, p ∈ l → 0 ≤ p ∧ p ≤ 255) : qbm l = 0 := by
 unfold qbm
 rw [if_neg (by omega), if_neg]
 intro h
 obtain ⟨p, hp, hb⟩ := List.any_eq_true.1 h
 have := h2 p hp
 simp [badP] at hb
 omega
theorem qmb {bs : List Int} (h : (qfo bs).2 = 0) : qbm (qfo bs).1 = 0 := by
 have := qvm (qkl bs) [] (by simp) (by simp) h
 exact ybuj this.1 this.2
theorem qqx (ns : List Int) : (qce ns).data.toList = ns.map fun n => UInt8.ofNat n.toNat := by
 have key : ∀ (l : List Int) (r : ByteArray), (l.foldl (fun r n => r.push (UInt8.ofNat n.toNat)) r).data.toList = r.data.toList ++ l.map fun n => UInt8.ofNat n.toNat := by
  intro l
  induction l with
  | nil => intro r; simp
  | cons a l ih => intro r; rw [List.foldl_cons, ih]; simp [ByteArray.push]
 simpa [qce] using key ns ByteArray.empty
theorem qum {a b : List Int} (ha : ∀ x, x ∈ a → 0 ≤ x ∧ x ≤ 255) (hb : ∀ x, x ∈ b → 0 ≤ x ∧ x ≤ 255) (h : qce a = qce b) : a = b := by
 have h1 : a.map (fun n => UInt8.ofNat n.toNat) = b.map fun n => UInt8.ofNat n.toNat := by rw [← qqx, ← qqx, h]
 have key : ∀ (a b : List Int), (∀ x, x ∈ a → 0 ≤ x ∧ x ≤ 255) → (∀ x, x ∈ b → 0 ≤ x ∧ x ≤ 255) → a.map (fun n => UInt8.ofNat n.toNat) = b.map (fun n => UInt8.ofNat n.toNat) → a = b := by
  intro a
  induction a with
  | nil => intro b _ _ h; cases b <;> simp_all
  | cons x a ih =>
   intro b ha hb h
   cases b with
   | nil => simp at h
   | cons y b =>
    simp only [List.map_cons, List.cons.injEq] at h
    have hx := ha x (by simp)
    have hy := hb y (by simp)
    have e : x = y := by
     have := congrArg UInt8.toNat h.1
     simp only [UInt8.toNat_ofNat'] at this
     omega
    rw [e, ih b (fun z hz => ha z (by simp [hz])) (fun z hz => hb z (by simp [hz])) h.2]
 exact key a b ha hb h1
theorem qxr (l : List (Int × Int)) (k : Nat) (hk : k < l.length) : (qby l)[k * 2]? = some (.int .i64 l[k].1) ∧ (qby l)[k * 2 + 1]? = some (.int .i64 l[k].2) := by
 have e : l = l.take k ++ (l[k] :: l.drop (k + 1)) := by rw [List.getElem_cons_drop, List.take_append_drop]
 have hl : (qby (l.take k)).length = k * 2 := by rw [qsn, List.length_take]; omega
 have e2 : qby l = qby (l.take k) ++ (.int .i64 l[k].1 :: .int .i64 l[k].2 :: qby (l.drop (k + 1))) := by
  conv => lhs; rw [e]
  rw [qdl]
  rfl
 rw [e2]
 constructor
 ·rw [List.getElem?_append_right (by omega), hl, Nat.sub_self]; rfl
 ·rw [List.getElem?_append_right (by omega), hl, show k * 2 + 1 - k * 2 = 1 by omega]; rfl
theorem qvq {w : World} {v : Value} {l : List (Int × Int)} (h : qah w v 2 l.length (qby l)) : ∃ a c, v = .slice a l.length c ∧ (0 < l.length → ∃ g o, a = some ⟨g, o, none⟩ ∧ g < w.heap.size ∧ ∀ k (hk : k < l.length), w.cell? ⟨g, o + k * 2, none⟩ = some (.int .i64 l[k].1) ∧ w.cell? ⟨g, o + k * 2 + 1, none⟩ = some (.int .i64 l[k].2)) := by
 obtain ⟨_, ⟨h1, a, c, rfl⟩ | ⟨g, o, c, rfl, hc⟩⟩ := h
 ·exact ⟨a, c, by rw [h1], fun h => by omega⟩
 ·refine ⟨_, c, rfl, fun h0 => ⟨g, o, rfl, ?_, fun k hk => ?_⟩⟩
  ·exact block_lt_of_cell (hc 0 _ (qxr l 0 h0).1)
  ·exact ⟨hc _ _ (qxr l k hk).1, by rw [Nat.add_assoc]; exact hc _ _ (qxr l k hk).2⟩
def okAt (l : List (Int × Int)) (i : Nat) : Bool := decide (0 ≤ (l.getD i (0, 0)).1) && decide ((l.getD i (0, 0)).1 ≤ 255) && decide (0 ≤ (l.getD i (0, 0)).2) && decide ((l.getD i (0, 0)).2 ≤ 256) && (decide (i = 0) || decide ((l.getD (i - 1) (0, 0)).1 < (l.getD i (0, 0)).1))
def okQ (l : List (Int × Int)) : Bool := (List.range l.length).all (okAt l)
def qdg (l : List (Int × Int)) : Int := if 20 < l.length then 2 else if okQ l = true then 0 else 3
theorem okQ_of {l : List (Int × Int)} (h : ∀ i, i < l.length → okAt l i = true) : okQ l = true := by
 unfold okQ
 rw [List.all_eq_true]
 exact fun i hi => h i (List.mem_range.1 hi)
theorem ybwb {l : List (Int × Int)} (h : okQ l = true) (i : Nat) (hi : i < l.length) : okAt l i = true := by
 unfold okQ at h
 rw [List.all_eq_true] at h
 exact h i (List.mem_range.2 hi)
theorem qhj (l : List (Int × Int)) (i : Nat) : okAt l i = true ↔ (0 ≤ (l.getD i (0, 0)).1 ∧ (l.getD i (0, 0)).1 ≤ 255 ∧ 0 ≤ (l.getD i (0, 0)).2 ∧ (l.getD i (0, 0)).2 ≤ 256 ∧ (i = 0 ∨ (l.getD (i - 1) (0, 0)).1 < (l.getD i (0, 0)).1)) := by
 unfold okAt
 simp only [Bool.and_eq_true, Bool.or_eq_true, decide_eq_true_eq]
 constructor
 ·rintro ⟨⟨⟨⟨a, b⟩, c⟩, d⟩, e⟩; exact ⟨a, b, c, d, e⟩
 ·rintro ⟨a, b, c, d, e⟩; exact ⟨⟨⟨⟨a, b⟩, c⟩, d⟩, e⟩
theorem ybdj (l : List (Int × Int)) (i : Nat) (h : i < l.length) : l.getD i (0, 0) = l[i] := by simp [h]
set_option maxRecDepth 100000 in
theorem qvp (v : Value) (l : List (Int × Int)) (w : World) (h : qah w v 2 l.length (qby l)) (hl : l.length ≤ 1000000) :
  Calls Tryz.prog 123 #[v] w fun e w' => e = .returned (.int .i64 (qdg l)) ∧ Below w.heap.size w w' := by
 obtain ⟨a, c, hv, HC⟩ := qvq h
 obtain ⟨n, HN⟩ : ∃ n, Hid (n = l.length) := ⟨_, rfl⟩
 rw [← HN.out] at hv hl
 subst hv
 have HCH := Lib.hid HC
 clear HC h
 by_cases h20 : 20 < n
 ·have HF : Hid (qdg l = 2) := by show _ = _; unfold qdg; rw [← HN.out, if_pos h20]
  go_enter Tryz.func123, Tryz.ntmps123
  go_wp2
  go_ret
  rw [HF.out]
  exact ⟨rfl, Below.refl _ _⟩
 ·go_enter Tryz.func123, Tryz.ntmps123
  go_wp2
  go_loopw [10] (fun i wr => ∃ k : Nat, k ≤ n ∧ i = .int .i64 k ∧ Hid (∀ j, j < k → okAt l j = true) ∧ Below w.heap.size w wr) (fun i _ => n - (intOf i).toNat)
  case atStart => exact ⟨0, by omega, rfl, fun j hj => by omega, Below.refl _ _⟩
  case round =>
   obtain ⟨k, hk, rfl, HO, HB⟩ := hrel
   by_cases hlt : k < n
   ·have hkl : k < l.length := by rw [← HN.out]; exact hlt
    obtain ⟨g, o, rfl, hg, hc⟩ := HCH.out (by omega)
    obtain ⟨x, Hx⟩ : ∃ x, Hid (x = l[k].1) := ⟨l[k].1, rfl⟩
    obtain ⟨y, Hy⟩ : ∃ y, Hid (y = l[k].2) := ⟨l[k].2, rfl⟩
    have c0 : wr.cell? ⟨g, o + k * 2, none⟩ = some (.int .i64 x) := by rw [HB.cell (p := ⟨g, o + k * 2, none⟩) hg, (hc k hkl).1, Hx.out]
    have c1 : wr.cell? ⟨g, o + k * 2 + 1, none⟩ = some (.int .i64 y) := by rw [HB.cell (p := ⟨g, o + k * 2 + 1, none⟩) hg, (hc k hkl).2, Hy.out]
    have HG : Hid (l.getD k (0, 0) = (x, y)) := by show _ = _; rw [ybdj l k hkl, Hx.out, Hy.out]
    have HBAD : Hid (okAt l k = false → qdg l = 3) := fun hb => by
     unfold qdg
     rw [← HN.out, if_neg h20, if_neg]
     intro ho
     rw [ybwb ho k hkl] at hb
     cases hb
    have hgw : g < wr.heap.size := Nat.lt_of_lt_of_le hg HB.size
    have HCC := Lib.hid hc
    clear hc
    by_cases a0 : x < 0
    ·have HF : Hid (qdg l = 3) := HBAD.out (by
      cases hb : okAt l k with
      | false => rfl
      | true => exfalso; have := (qhj l k).1 hb; rw [HG.out] at this; simp only at this; omega)
     go_wp2
     go_quiet (fail)
     go_wp2
     go_ret
     rw [HF.out]
     exact ⟨rfl, below_drewN (HB.alloc HB.size _) _⟩
    have na0 : 0 ≤ x := by omega
    have da0 : decide (x < 0) = false := decide_eq_false a0
    have Ha0 := Lib.hid a0
    clear a0
    by_cases a1 : 255 < x
    ·have HF : Hid (qdg l = 3) := HBAD.out (by
      cases hb : okAt l k with
      | false => rfl
      | true => exfalso; have := (qhj l k).1 hb; rw [HG.out] at this; simp only at this; omega)
     go_wp2
     go_quiet (fail)
     go_wp2
     go_ret
     rw [HF.out]
     exact ⟨rfl, below_drewN (HB.alloc HB.size _) _⟩
    have na1 : x ≤ 255 := by omega
    have da1 : decide (255 < x) = false := decide_eq_false a1
    have Ha1 := Lib.hid a1
    clear a1
    by_cases a2 : y < 0
    ·have HF : Hid (qdg l = 3) := HBAD.out (by
      cases hb : okAt l k with
      | false => rfl
      | true => exfalso; have := (qhj l k).1 hb; rw [HG.out] at this; simp only at this; omega)
     go_wp2
     go_quiet (fail)
     go_wp2
     go_ret
     rw [HF.out]
     exact ⟨rfl, below_drewN (HB.alloc HB.size _) _⟩
    have na2 : 0 ≤ y := by omega
    have da2 : decide (y < 0) = false := decide_eq_false a2
    have Ha2 := Lib.hid a2
    clear a2
    by_cases a3 : 256 < y
    ·have HF : Hid (qdg l = 3) := HBAD.out (by
      cases hb : okAt l k with
      | false => rfl
      | true => exfalso; have := (qhj l k).1 hb; rw [HG.out] at this; simp only at this; omega)
     go_wp2
     go_quiet (fail)
     go_wp2
     go_ret
     rw [HF.out]
     exact ⟨rfl, below_drewN (HB.alloc HB.size _) _⟩
    have na3 : y ≤ 256 := by omega
    have da3 : decide (256 < y) = false := decide_eq_false a3
    have Ha3 := Lib.hid a3
    clear a3
    by_cases hk0 : k = 0
    ·subst hk0
     have c00 : wr.cell? ⟨g, o, none⟩ = some (.int .i64 x) := by simpa using c0
     have c10 : wr.cell? ⟨g, o + 1, none⟩ = some (.int .i64 y) := by simpa using c1
     have HO2 : Hid (∀ j, j < 0 + 1 → okAt l j = true) := fun j hj => by
      obtain rfl : j = 0 := by omega
      rw [qhj, HG.out]
      exact ⟨na0, na1, na2, na3, Or.inl rfl⟩
     go_wp2
     go_quiet (fail)
     go_wp2
     go_roundw
     case rel => exact ⟨0 + 1, by omega, by go_num, HO2, below_drewN (HB.alloc HB.size _) _⟩
     case measure => simp [intOf]; omega
    ·obtain ⟨j, rfl⟩ : ∃ j, k = j + 1 := ⟨k - 1, by omega⟩
     obtain ⟨z, Hz⟩ : ∃ z, Hid (z = (l[j]'(by omega)).1) := ⟨(l[j]'(by omega)).1, rfl⟩
     have cz : wr.cell? ⟨g, o + j * 2, none⟩ = some (.int .i64 z) := by rw [HB.cell (p := ⟨g, o + j * 2, none⟩) hg, (HCC.out j (by omega)).1, Hz.out]
     have HGZ : Hid ((l.getD j (0, 0)).1 = z) := by show _ = _; rw [ybdj l j (by omega), Hz.out]
     have hj1 : IntKind.i64.wrap (((j : Int) + 1) - 1) = (j : Int) := by rw [IntWalk.i64_in _ (by omega)]; omega
     have hj0 : (0 : Int) < (j : Int) + 1 := by omega
     have dj0 : decide ((0 : Int) < (j : Int) + 1) = true := decide_eq_true hj0
     have hj2 : (j : Int) + 1 - 1 = (j : Int) := by omega
     have hjn : (j : Int) < (n : Int) := by omega
     clear hk0
     by_cases hzx : z < x
     ·have dzx : decide (x ≤ z) = false := decide_eq_false (by omega)
      have HO2 : Hid (∀ i, i < j + 1 + 1 → okAt l i = true) := fun i hi => by
       by_cases e : i = j + 1
       ·subst e
        rw [qhj, HG.out]
        refine ⟨na0, na1, na2, na3, Or.inr ?_⟩
        rw [Nat.add_sub_cancel, HGZ.out]
        exact hzx
       ·exact HO.out i (by omega)
      go_wp2
      go_quiet (fail)
      go_wp2
      go_roundw
      case rel => exact ⟨j + 1 + 1, by omega, by go_num, HO2, below_drewN (HB.alloc HB.size _) _⟩
      case measure => simp [intOf]; omega
     ·have hxz : x ≤ z := by omega
      have dzx : decide (x ≤ z) = true := decide_eq_true hxz
      have HF : Hid (qdg l = 3) := HBAD.out (by
       cases hb : okAt l (j + 1) with
       | false => rfl
       | true =>
        exfalso
        have := (qhj l (j + 1)).1 hb
        rw [HG.out, Nat.add_sub_cancel, HGZ.out] at this
        simp only at this
        omega)
      have HZX := Lib.hid hzx
      clear hzx
      go_wp2
      go_quiet (fail)
      go_wp2
      go_ret
      rw [HF.out]
      exact ⟨rfl, below_drewN (HB.alloc HB.size _) _⟩
   ·have HF : Hid (qdg l = 0) := by
     show _ = _
     unfold qdg
     rw [← HN.out, if_neg h20, if_pos (okQ_of fun i hi => HO.out i (by rw [← HN.out] at hi; omega))]
    go_wp2
    go_ret
    rw [HF.out]
    exact ⟨rfl, HB⟩
end Go.Proofs.YtpoglnpjadmbpaaGreatDoor
