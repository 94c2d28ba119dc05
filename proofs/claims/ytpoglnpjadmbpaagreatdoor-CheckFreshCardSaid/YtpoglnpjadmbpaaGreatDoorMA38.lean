/- Part of the proofs of CheckFresh, FsCut, FsHoles: the texts CkOne, CkOf, FsAt, TxAt, Tx1, Tx2. -/
import Derived.Test.YtpoglnpjadmbpaaGreatDoorMA6
import Derived.Test.YtpoglnpjadmbpaaGreatDoorMA32
import Derived.Test.YtpoglnpjadmbpaaGreatDoorMA34
import Derived.Test.YtpoglnpjadmbpaaGreatDoorMA35
import Derived.Test.YtpoglnpjadmbpaaGreatDoorMA37
set_option maxHeartbeats 16000000
namespace Go.Proofs.YtpoglnpjadmbpaaGreatDoor
open Go.RowKit
theorem ybxx (W : World) : (Instr.makeSlice 148 (.int .i64 32) (.int .i64 32)).run Tryz.prog W = .ok (.slice (some ⟨W.heap.size, 0, none⟩) 32 32) (W.alloc (.cells (List.replicate 32 (Value.slice none 0 0)).toArray 28)) := by kernel_rfl
theorem ybcj {w : World} {r : Rdr} {N : Nat → List Int} {k : Nat} (h : RdAt w r N k) {p : Int} (h0 : 0 ≤ p) (h1 : p < (k : Int)) : ∀ x ∈ qcs N p, 0 ≤ x ∧ x ≤ 255 := fun x hx => by
 unfold qcs at hx
 split at hx
 ·rw [List.mem_replicate] at hx; omega
 ·exact h.byte _ (by omega) x hx
theorem ybcn {w : World} {r : Rdr} {N : Nat → List Int} {k : Nat} (h : RdAt w r N k) {P : List Int} (hP : qgp P k) (s : Int) : ∀ x ∈ qbl N P s, 0 ≤ x ∧ x ≤ 255 := fun x hx => by
 unfold qbl at hx
 obtain ⟨p, hp, hx⟩ := List.mem_flatMap.1 (List.mem_of_mem_take hx)
 exact ybcj h (hP p hp).1 (hP p hp).2 x hx
def qjj (N : Nat → List Int) (L : List Pn) : List Int := qbl N (L.getD 0 zN).P (L.getD 0 zN).s
def qxg (X : List En) (i : Nat) : Int := (qdw X).getD i 0 + if i = 0 then 1 else 0
structure qlq (N : Nat → List Int) (f : Fo) (t k : Nat) (L : List Pn) : Prop where
 tree : qml N (f.nd t) k
 eq : qfh N (f.nd t) 32 = L
 own : ybqu (f.nd t) L (f.hs t) k
 size : 0 ≤ (L.getD 0 zN).s ∧ (L.getD 0 zN).s ≤ 512
 list : qdq (qjj N L) = true
 root : ybex L (outD (qjj N L))
 up : (L.getD 0 zN).up = 1
 names : ∀ i, i < 32 → (L.getD i zN).l = qxg (outD (qjj N L)) i ∧ ((L.getD i zN).k = 0 → qxg (outD (qjj N L)) i ≤ 0)
section
variable {P : Program}
theorem qyi {ops : Array Oper} {Q : Act → Prop} {rest : List Oper} {o : Oper} {a : Act} {C : World → Prop} (x : Operand) (nm : String) (ho : o.op = .call { callee := .invoke x nm, args := #[], argTypes := #[] }) (hw : Region.wanted o (yielded ops a.tmps) = true) (f : FuncId) (args : Array Value)
  (he : ∀ w, (execOp a.eval o).run P w = .ok (.enter f args) w) (v : Value)
  (hC : ∀ w' w'', C w' → Below w'.heap.size w' w'' → C w'') (hc : ∀ w', C w' → Calls P f args w' fun e w'' => e = .returned v ∧ Below w'.heap.size w' w'') (h : wpQuiet P ops C Q rest (a.put o.dst v)) : wpQuiet P ops C Q (o :: rest) a :=
 BigFrame.wpQuiet_want hw fun _ hK => ⟨v, fun w' hw' => by
  have _ := ho
  unfold Oper.quietAt
  rw [he]
  exact ⟨rfl, (hc w' hw').mono fun _ _ ⟨he, hb⟩ => ⟨he, hC _ _ hw' hb⟩⟩, hK _ h⟩
end
set_option maxRecDepth 100000 in
theorem ybyf {w : World} {r : Rdr} {N : Nat → List Int} {k : Nat} (h : RdAt w r N k) (hk : k ≤ 256) (hk0 : 64 ≤ k) (f : Fo) (t bm : Nat) (L : List Pn) (hok : qlq N f t k L) (A : Array Value) (HA : Hid (A = encT f t)) :
  Calls Tryz.prog 39 #[.iface r.T r.u, .agg A, .map (some bm)] w
   (fun e w' => e = .returned (.tuple #[]) ∧ Below w.heap.size w w') := by
 have q4 := h.n2
 have q5 := h.m2
 have q6 := h.c2
 have HR := Lib.hid h
 have HOK := Lib.hid hok
 have HAS : Hid (A.size = 48) := by rw [HA.out]; exact qgs f t
 have HTR : Hid (∀ W : World, Below w.heap.size w W → Calls Tryz.prog 71 #[.iface r.T r.u, .agg A] W (fun e w' => ∃ v, e = .returned (.tuple #[v, .int .i64 0]) ∧ ybew W v L w')) := fun W hb => by
  have := ybha (h.below hb) f t hok.tree
  rw [hok.eq] at this
  rw [HA.out]
  exact this
 clear h hok
 go_enter Tryz.func39, Tryz.ntmps39
 go_wp2_with (refine wpList_load_row rfl 78 (.tmp 4) rfl w.heap.size rfl 78 A (0, 0) _ (heap_alloc_new _ _) Tryz.underlying78 rfl (by rw [HAS.out]; exact ybjy) ?_)
 have HB1 : Hid (Below w.heap.size w (w.alloc (.cells A 78))) := (Below.refl _ _).alloc (Nat.le_refl _) _
 have HT1 : Hid ((w.alloc (.cells A 78)).heap[w.heap.size]? = some (.cells A 78 (0, 0))) := heap_alloc_new _ _
 generalize w.alloc (.cells A 78) = w1 at *
 refine (HTR.out w1 HB1.out).mono ?_
 rintro e w2 ⟨v, rfl, E, hO, hE, hb2⟩
 have HO := Lib.hid hO
 have HE := Lib.hid hE
 have HB2 := Lib.hid (Below.step HB1.out hb2)
 have HT2 := Lib.hid (qaa hb2 HT1.out)
 have HLL : Hid (L.length = 32) := HOK.out.root.len
 have HEL : Hid (E.length = 32) := by show _ = _; rw [HE.out.1]; exact HLL.out
 obtain ⟨p, cp, hvs, _⟩ := qar hO
 rw [HLL.out] at hvs
 subst hvs
 have HV2 : Hid (qah w2 (.slice p 32 cp) 8 E.length (qaz E)) := by
  have := qah.of_owns hO
  rw [← HE.out.1] at this
  exact this
 have HOW : Hid (∀ W : World, Below w2.heap.size w2 W → Calls Tryz.prog 85 #[.int .i64 (k : Int), .agg A, .slice p 32 cp, .map (some bm)] W (fun e w' => e = .returned (.bool true) ∧ Below W.heap.size W w')) := fun W hb => by
  rw [HA.out]
  exact ybjc W f t k bm hk _ E L _ (qah.below HV2.out hb) (HE.out.keep (qac.of_below hb)) (by rw [HLL.out]; omega) HOK.out.own
 clear hO hE hb2 HT1 HTR
 go_wp2_with fail
 refine wp_region_quiet_below (by kernel_rfl) (by kernel_rfl) ?_
 repeat (first
  | go_big_quiet_skip
  | (refine qyi (.tmp 26) "Size" rfl rfl r.fs #[r.rs] (fun W => by simp [execOp, resolve, invoke, callMethod, go_sem, q5, q6]) (.int .i64 (k : Int)) (fun _ _ => qbu) (fun w' hw => HR.out.size w' (Below.step HB2.out (qaq hw))) ?_; simp only [Act.put, List.setIfInBounds_toArray, List.set_cons_zero, List.set_cons_succ])
  | (refine qjh rfl 78 (.tmp 4) rfl w.heap.size rfl 78 A (0, 0) _ (fun _ hw => qkr hw HT2.out) Tryz.underlying78 rfl (by rw [HAS.out]; exact ybjy) ?_; simp only [Act.put, List.setIfInBounds_toArray, List.set_cons_zero, List.set_cons_succ])
  | (refine qbh 85 #[.tmp 27, .tmp 28, .tmp 29, .tmp 30] #[3, 78, 92, 83] rfl rfl (fun _ _ => by kernel_rfl) #[.int .i64 (k : Int), .agg A, .slice p 32 cp, .map (some bm)] (by kernel_rfl) (.bool true) (fun _ _ => qbu) (fun w' hw => HOW.out w' (qaq hw)) ?_; simp only [Act.put, List.setIfInBounds_toArray, List.set_cons_zero, List.set_cons_succ])
  | (go_big_quiet_want; go_big_quiet_op; go_big_quiet_on))
 refine wpQuiet_nil ?_
 intro w3 hw3
 have hb3 := qaq hw3
 have HB3 := Lib.hid (Below.step HB2.out hb3)
 have HV3 := Lib.hid (qah.below HV2.out hb3)
 have HE3 := Lib.hid (HE.out.keep (qac.of_below hb3))
 clear hw3 hb3
 have hme := ybxx
 obtain ⟨ZE, HZE⟩ : ∃ Z, Hid ((List.replicate 32 (Value.slice none 0 0)).toArray = Z) := ⟨_, rfl⟩
 rw [HZE.out] at hme
 have HZES : Hid (ZE.size = 32) := by show _ = _; rw [← HZE.out]; rfl
 obtain ⟨p2, cp2, hv2, HP⟩ := qeh HV3.out
 rw [HEL.out] at hv2 HP
 injection hv2 with e1 _ e2
 subst e1 e2
 obtain ⟨g, o, rfl, hg, hc⟩ := HP.out (by omega)
 have HC := Lib.hid hc
 clear hc HP
 have HD := Lib.hid HOK.out.list
 obtain ⟨X, HX⟩ : ∃ X, Hid (outD (qjj N L) = X) := ⟨_, rfl⟩
 have HRO := Lib.hid HOK.out.root
 have HNM := Lib.hid HOK.out.names
 rw [HX.out] at HRO HNM
 go_wp2
 have HB4 : Hid (Below w3.heap.size w3 (w3.alloc (.cells ZE 28))) := (Below.refl _ _).alloc (Nat.le_refl _) _
 have HZ4 : Hid ((w3.alloc (.cells ZE 28)).heap[w3.heap.size]? = some (.cells ZE 28 (0, 0))) := heap_alloc_new _ _
 obtain ⟨be, Hbe⟩ : ∃ x, Hid (w3.heap.size = x) := ⟨_, rfl⟩
 rw [Hbe.out] at HZ4 ⊢
 generalize w3.alloc (.cells ZE 28) = w4 at *
 go_loopw [9, 38] (fun a i wr => ∃ j : Nat, j ≤ 32 ∧ i = .int .i64 j ∧ Hid (Below w3.heap.size w3 wr) ∧ ((j = 0 ∧ a = .slice none 0 0 ∧ Hid (wr.heap[be]? = some (.cells ZE 28 (0, 0)))) ∨ (0 < j ∧ Hid (qcx wr a X) ∧ ∃ xv, Hid (wr.cell? ⟨be, 0, none⟩ = some xv) ∧ Hid (qcx wr xv X)))) (fun _ i _ => 32 - (intOf i).toNat)
 case atStart => exact ⟨0, by omega, rfl, HB4, Or.inl ⟨rfl, rfl, HZ4⟩⟩
 case round =>
  obtain ⟨j, hj, rfl, HB, hor⟩ := hrel
  by_cases hlt : j < 32
  ·have hjE : j < E.length := by rw [HEL.out]; exact hlt
   have hjL : j < L.length := by rw [HLL.out]; exact hlt
   obtain ⟨e0, e1, e2, e3, e4, e5, e6, e7⟩ := qda HC.out j hjE
   have HND := Lib.hid ((HE3.out.2 j hjE hjL).keep (qac.of_below HB.out))
   have hk2 := HRO.out.kd j hjL
   rw [← HND.out.1] at hk2
   have HFW := Lib.hid (HOK.out.own.few _ (List.getElem_mem hjL))
   have HPT := Lib.hid (HOK.out.own.pts _ (List.getElem_mem hjL))
   have HLD : Hid (L[j] = L.getD j zN) := by show _ = _; rw [List.getD_eq_getElem?_getD, List.getElem?_eq_getElem hjL]; rfl
   generalize L[j] = Y at HND HFW HPT HLD
   generalize E[j] = y at e0 e1 e2 e3 e4 e5 e6 e7 hk2 HND
   obtain ⟨yk, ym, yu, yg, ys, yl, yup, yq, yn, yc⟩ := y
   have e0 := (HB.out.cell (p := ⟨g, o + j * 8, none⟩) hg).trans e0
   have e1 := (HB.out.cell (p := ⟨g, o + j * 8 + 1, none⟩) hg).trans e1
   have e2 := (HB.out.cell (p := ⟨g, o + j * 8 + 2, none⟩) hg).trans e2
   have e3 := (HB.out.cell (p := ⟨g, o + j * 8 + 3, none⟩) hg).trans e3
   have e4 := (HB.out.cell (p := ⟨g, o + j * 8 + 4, none⟩) hg).trans e4
   have e5 := (HB.out.cell (p := ⟨g, o + j * 8 + 5, none⟩) hg).trans e5
   have e6 := (HB.out.cell (p := ⟨g, o + j * 8 + 6, none⟩) hg).trans e6
   have e7 := (HB.out.cell (p := ⟨g, o + j * 8 + 7, none⟩) hg).trans e7
   dsimp only at e0 e1 e2 e3 e4 e5 e6 e7 hk2
   have hlt2 : (j : Int) < 32 := by omega
   have hgl : g < wr.heap.size := Nat.lt_of_lt_of_le hg HB.out.size
   have hgn : ¬ g = wr.heap.size := by omega
   have HBN : Hid (Below wr.heap.size wr (wr.alloc (.cells #[.int .i64 yk, .int .i64 ym, .int .i64 yu, .int .i64 yg, .int .i64 ys, .int .i64 yl, .int .i64 yup, .slice yq yn yc] 103))) := (Below.refl _ _).alloc (Nat.le_refl _) _
   rcases hor with ⟨hj0, rfl, HZr⟩ | ⟨hj0, HAr, xv, HXc, HXr⟩
   ·subst hj0
    have hk2 : yk = 2 := hk2.2 rfl
    subst hk2
    simp only [Nat.zero_mul, Nat.add_zero] at e0 e1 e2 e3 e4 e5 e6 e7
    obtain ⟨f0, f1, f2, f3, f4, f5, f6, HIY⟩ := HND.out
    dsimp only at f0 f1 f2 f3 f4 f5 f6
    have HS0 := Lib.hid HOK.out.size
    rw [← HLD.out, ← f4] at HS0
    have HPI : Hid (qgp Y.P k) := fun q hq => by rcases HPT.out q hq with h0 | h0 <;> omega
    have HRB := Lib.hid (HR.out.below (Below.step HB3.out (Below.step HB.out HBN.out)))
    have HBY := Lib.hid (qyt HRB.out 2 ym yu yg ys yl yup (.slice yq yn yc) Y.P (qah.below HIY.now HBN.out) HFW.out HPI.out HS0.out.1 HS0.out.2)
    have HDY : Hid (qjj N L = qbl N Y.P ys) := by show _ = _; unfold qjj; rw [← HLD.out, f4]
    rw [← HDY.out] at HBY
    obtain ⟨D, HDD⟩ : ∃ D, Hid (qjj N L = D) := ⟨_, rfl⟩
    rw [HDD.out] at HBY
    have HDb : Hid (∀ x ∈ D, 0 ≤ x ∧ x ≤ 255) := by show _; rw [← HDD.out, HDY.out]; exact ybcn HR.out HPI.out ys
    have HDl : Hid (qdq D = true) := by show _; rw [← HDD.out]; exact HD.out
    have HDX : Hid (outD D = X) := by show _ = _; rw [← HDD.out]; exact HX.out
    have HD512 : Hid (D.length ≤ 512) := ((qdo D).1 HDl.out).2.1
    clear f0 f1 f2 f3 f4 f5 f6 HIY
    go_wp2_with fail
    refine HBY.out.mono ?_
    rintro e w5 ⟨v5, rfl, hO5, hb5⟩
    have HBI : Hid (qbp w5 v5 D) := ⟨qah.of_owns hO5, qma hO5⟩
    have HB5 := Lib.hid (Below.step HBN.out hb5)
    clear hO5 hb5 HBY
    go_wp2_with fail
    refine (qqj v5 D w5 HBI.out HDb.out (by have := HD512.out; omega)).mono ?_
    rintro e w6 (⟨_, v6, rfl, hO6, hb6⟩ | ⟨hbad, _⟩)
    case inr => exact absurd HDl.out (by rw [hbad]; simp)
    rw [HDX.out] at hO6
    have HO6 := Lib.hid hO6
    have HB6 := Lib.hid (Below.step HB5.out hb6)
    have HZ6 := Lib.hid (qaa HB6.out HZr.out)
    clear hO6 hb6
    have z0 : w6.cell? ⟨be, 0, none⟩ = ZE[0]? := cell_of_row _ _ _ _ _ _ HZ6.out
    have z1 : ZE[0]? = some (.slice none 0 0) := by rw [← HZE.out]; rfl
    rw [z1] at z0
    have fz : w6.frozen? ⟨be, 0, none⟩ = false := frozen_of_row _ _ _ _ _ HZ6.out
    clear z1
    obtain ⟨_, ⟨hv6, h06⟩ | ⟨g6, c6, cur6, hv6, hg6, hh6, hc6, hm6, hs6, ht6⟩⟩ := id HO6.out
    ·subst hv6
     have hX0 : X = [] := List.length_eq_zero_iff.1 h06
     go_wp2
     go_roundw
     case rel =>
      refine ⟨1, by omega, rfl, (Below.step HB.out HB6.out).setCell (by show w3.heap.size ≤ be; rw [Hbe.out]; exact Nat.le_refl _) _, Or.inr ⟨by omega, ?_, .slice none 0 0, ?_, ?_⟩⟩
      ·rw [hX0]; exact ⟨rfl, Or.inl ⟨rfl, none, 0, rfl⟩⟩
      ·exact World.cell?_setCell_same _ _ _ z0
      ·rw [hX0]; exact ⟨rfl, Or.inl ⟨rfl, none, 0, rfl⟩⟩
     case measure => simp [intOf]
    ·subst hv6
     have HE6 : Hid (qcx w6 (.slice (some ⟨g6, 0, none⟩) X.length c6) X) := qah.of_owns HO6.out
     obtain ⟨nX, HnX⟩ : ∃ n, Hid (X.length = n) := ⟨_, rfl⟩
     rw [HnX.out] at HE6 ht6 ⊢
     have hnX : nX ≤ 32 := by rw [← HnX.out]; exact HRO.out.few
     have HH6 := Lib.hid hh6
     have HEL6 : Hid ((ents X).length = nX * 2) := by show _ = _; rw [qqf, HnX.out]
     have HE1 := Lib.hid (ybfg X)
     have HCE : Hid (∀ (q : Nat) (u : Value), (ents X)[q]? = some u → w6.cell? ((⟨g6, 0, none⟩ : Addr).add q) = some u) := fun q u hq => by
      have hadd : (⟨g6, 0, none⟩ : Addr).add q = ⟨g6, q, none⟩ := by unfold Addr.add; split <;> simp_all
      have hql := (List.getElem?_eq_some_iff.1 hq).1
      rw [HEL6.out] at hql
      rw [hadd, cell_of_row _ _ _ _ _ _ hh6, ← Array.getElem?_toList]
      rw [← ht6, List.getElem?_take, if_pos hql] at hq
      exact hq
     obtain ⟨i0, hi0, hz0, hz1, hz2⟩ := info_parts qwo
     have HI0 := Lib.hid hi0
     have HIZ := Lib.hid hz0
     have HI1 := Lib.hid hz1
     have HI2 := Lib.hid hz2
     clear hi0 hz0 hz1 hz2 hh6 ht6 hm6 hs6 hc6
     go_wp2_with (at_builtin; refine wpList_append_own _ rfl _ _ 28 rfl w6.heap.size 100 i0 (.agg #[.string { data := #[] }, .int .i64 0]) 2 24 yblq HI0.out HIZ.out HI1.out HI2.out rfl (by decide) _ _ _ rfl (World.ownsRow_nil _ _ _ _) ⟨g6, 0, none⟩ nX c6 (ents X) rfl HEL6.out HCE.out HE1.out (by unfold maxLen; omega) (by omega) (Nat.le_refl _) ?_; intro v7 w7 hown hgrow _; have HB67 : Hid (Below w6.heap.size w6 w7) := (Below.refl _ _).grown hgrow (Nat.le_refl _) (fun q hq => by cases hq); have HZ7 := Lib.hid (qaa HB67.out HZ6.out); have z7 : w7.cell? ⟨be, 0, none⟩ = some (.slice none 0 0) := (HB67.out.cell (p := ⟨be, 0, none⟩) (qab HZ6.out)).trans z0; have fz7 : w7.frozen? ⟨be, 0, none⟩ = false := frozen_of_row _ _ _ _ _ HZ7.out)
     have HE7 : Hid (qcx w7 v7 X) := by
      have := qah.of_owns hown
      rw [Nat.zero_add, List.nil_append, ← HnX.out] at this
      exact this
     have HX7 := Lib.hid (qah.below HE6.out HB67.out)
     have HN7 : Hid (∀ b, v7.ownBlock = some b → b ≠ be) := fun b hb hc => by
      have h1 := (hown.lt b hb).1
      have h2 := qab HZ6.out
      omega
     have HN6 : Hid (g6 ≠ be) := qao HH6.out HZ6.out (by decide)
     clear z0 fz hown hgrow
     go_roundw
     case rel =>
      have hkb : ∀ b, b ≠ be → (w7.setCell ⟨be, 0, none⟩ (.slice (some ⟨g6, 0, none⟩) nX c6)).heap[b]? = w7.heap[b]? := fun b hb => Below.heap_setCell w7 _ _ b hb
      refine ⟨1, by omega, rfl, (Below.step HB.out (Below.step HB6.out HB67.out)).setCell (by show w3.heap.size ≤ be; rw [Hbe.out]; exact Nat.le_refl _) _, Or.inr ⟨by omega, qle HE7.out (fun b hb _ => hkb b (HN7.out b hb)), _, World.cell?_setCell_same _ _ _ z7, qle HX7.out (fun b hb _ => hkb b ?_)⟩⟩
      injection hb with hb
      rw [← hb]
      exact HN6.out
     case measure => simp [intOf]
   ·have b2 : (yk == 2) = false := by
     have : ¬ yk = 2 := fun hc => by have := hk2.1 hc; omega
     simpa using this
    clear hk2
    go_wp2
    go_roundw
    case rel => exact ⟨j + 1, by omega, by go_num, Below.step HB.out HBN.out, Or.inr ⟨by omega, qah.below HAr.out HBN.out, xv, (HBN.out.cell (p := ⟨be, 0, none⟩) (block_lt_of_cell HXc.out)).trans HXc.out, qah.below HXr.out HBN.out⟩⟩
    case measure => simp [intOf]; omega
  ·obtain rfl : j = 32 := by omega
   have hlt2 : ¬ ((32 : Nat) : Int) < 32 := by omega
   rcases hor with ⟨hj0, _⟩ | ⟨_, HAr, xv, HXc, HXr⟩
   ·omega
   have hX32 : X.length ≤ 32 := HRO.out.few
   go_wp2_with fail
   refine (ybnq _ X _ HAr.out (by omega)).mono ?_
   rintro e w5 ⟨gn, rfl, hhn, hgn5, hb5⟩
   have HN5 := Lib.hid hhn
   have HB5 := Lib.hid (Below.step HB.out hb5)
   have HXc5 := Lib.hid ((hb5.cell (p := ⟨be, 0, none⟩) (block_lt_of_cell HXc.out)).trans HXc.out)
   have HXr5 := Lib.hid (qah.below HXr.out hb5)
   have hbe5 : be ≠ gn := by have := block_lt_of_cell HXc.out; show be ≠ gn; have h2 : be < wr.heap.size := this; omega
   have hgn3 : w3.heap.size ≤ gn := Nat.le_trans HB.out.size hgn5
   have HXN : Hid (∀ b, xv.ownBlock = some b → b < wr.heap.size → b ≠ gn) := fun b _ hb hc => by omega
   obtain ⟨NM, HNMe⟩ : ∃ l, Hid (qdw X = l) := ⟨_, rfl⟩
   have hNMl : NM.length = 32 := by rw [← HNMe.out]; have := (qiv X X.length (Nat.le_refl _)).1; rwa [List.take_length] at this
   have hNMb : ∀ i, 0 ≤ NM.getD i 0 ∧ NM.getD i 0 ≤ 32 := fun i => by
    rw [← HNMe.out]
    have := (qiv X X.length (Nat.le_refl _)).2 i
    rw [List.take_length] at this
    omega
   rw [HNMe.out] at HN5
   have n0 : w5.cell? ⟨gn, 0, none⟩ = some (.int .i64 (NM.getD 0 0)) := by
    rw [cell_of_row _ _ _ _ _ _ HN5.out, ← Array.getElem?_toList]
    have := qdn NM 0 (by omega)
    rw [this, List.getD_eq_getElem?_getD, List.getElem?_eq_getElem (by omega)]; rfl
   have fn0 : w5.frozen? ⟨gn, 0, none⟩ = false := frozen_of_row _ _ _ _ _ HN5.out
   have i1 : IntKind.i64.wrap (NM.getD 0 0 + 1) = NM.getD 0 0 + 1 := IntWalk.i64_in _ (by have := hNMb 0; omega)
   obtain ⟨n0v, Hn0⟩ : ∃ x, Hid (NM.getD 0 0 = x) := ⟨_, rfl⟩
   rw [Hn0.out] at n0 i1
   have HNC : Hid (∀ i, i < 32 → (w5.setCell ⟨gn, 0, none⟩ (.int .i64 (n0v + 1))).cell? ⟨gn, i, none⟩ = some (.int .i64 (qxg X i))) := fun i hi => by
    unfold qxg
    rw [HNMe.out]
    by_cases hi0 : i = 0
    ·subst hi0
     rw [World.cell?_setCell_same _ _ _ n0, if_pos rfl, Hn0.out]
    ·rw [World.cell?_setCell_other _ _ _ _ (by intro hc; injection hc with _ h2; exact hi0 h2.symm), if_neg hi0, Int.add_zero, cell_of_row _ _ _ _ _ _ HN5.out, ← Array.getElem?_toList]
     have := qdn NM i (by omega)
     rw [this, List.getD_eq_getElem?_getD, List.getElem?_eq_getElem (by omega)]; rfl
   have HB6 : Hid (Below w3.heap.size w3 (w5.setCell ⟨gn, 0, none⟩ (.int .i64 (n0v + 1)))) := HB5.out.setCell hgn3 _
   have HXc6 : Hid ((w5.setCell ⟨gn, 0, none⟩ (.int .i64 (n0v + 1))).cell? ⟨be, 0, none⟩ = some xv) := (World.cell?_of_block (Below.heap_setCell w5 _ _ be hbe5)).trans HXc5.out
   have HXr6 : Hid (qcx (w5.setCell ⟨gn, 0, none⟩ (.int .i64 (n0v + 1))) xv X) := qle HXr.out (fun b _ hl => (Below.heap_setCell w5 _ _ b (by show b ≠ gn; omega)).trans (hb5.block b hl))
   have hgn6 : gn < (w5.setCell ⟨gn, 0, none⟩ (.int .i64 (n0v + 1))).heap.size := by have := qab HN5.out; simp [World.setCell]; exact this
   have hgw6 : g < (w5.setCell ⟨gn, 0, none⟩ (.int .i64 (n0v + 1))).heap.size := Nat.lt_of_lt_of_le hg HB6.out.size
   clear hhn hb5 hgn5 hNMb
   go_wp2
   clear n0 fn0 HN5 HB5 HXc5 HXr5
   generalize w5.setCell ⟨gn, 0, none⟩ (.int .i64 (n0v + 1)) = w6 at *
   go_loopw [75] (fun i wr => ∃ j : Nat, j ≤ 32 ∧ i = .int .i64 j ∧ Hid (Below w6.heap.size w6 wr)) (fun i _ => 32 - (intOf i).toNat)
   case atStart => exact ⟨0, by omega, rfl, Below.refl _ _⟩
   case round =>
    obtain ⟨j, hj, rfl, HBw⟩ := hrel
    have HBr := Lib.hid (Below.step HB6.out HBw.out)
    by_cases hlt : j < 32
    ·have hjE : j < E.length := by rw [HEL.out]; exact hlt
     have hjL : j < L.length := by rw [HLL.out]; exact hlt
     obtain ⟨e0, e1, e2, e3, e4, e5, e6, e7⟩ := qda HC.out j hjE
     have HND := HE3.out.2 j hjE hjL
     have hnm := HNM.out j hlt
     rw [show L.getD j zN = L[j] by rw [List.getD_eq_getElem?_getD, List.getElem?_eq_getElem hjL]; rfl, ← HND.2.2.2.2.2.1, ← HND.1] at hnm
     clear HND
     generalize E[j] = y at e0 e1 e2 e3 e4 e5 e6 e7 hnm
     obtain ⟨yk, ym, yu, yg, ys, yl, yup, yq, yn, yc⟩ := y
     have e0 := (HBr.out.cell (p := ⟨g, o + j * 8, none⟩) hg).trans e0
     have e1 := (HBr.out.cell (p := ⟨g, o + j * 8 + 1, none⟩) hg).trans e1
     have e2 := (HBr.out.cell (p := ⟨g, o + j * 8 + 2, none⟩) hg).trans e2
     have e3 := (HBr.out.cell (p := ⟨g, o + j * 8 + 3, none⟩) hg).trans e3
     have e4 := (HBr.out.cell (p := ⟨g, o + j * 8 + 4, none⟩) hg).trans e4
     have e5 := (HBr.out.cell (p := ⟨g, o + j * 8 + 5, none⟩) hg).trans e5
     have e6 := (HBr.out.cell (p := ⟨g, o + j * 8 + 6, none⟩) hg).trans e6
     have e7 := (HBr.out.cell (p := ⟨g, o + j * 8 + 7, none⟩) hg).trans e7
     have en := (HBw.out.cell (p := ⟨gn, j, none⟩) hgn6).trans (HNC.out j hlt)
     dsimp only at e0 e1 e2 e3 e4 e5 e6 e7 hnm
     obtain ⟨nm, Hnm⟩ : ∃ x, Hid (qxg X j = x) := ⟨_, rfl⟩
     rw [Hnm.out] at en hnm
     obtain ⟨hy1, hy2⟩ := hnm
     subst hy1
     have hlt2 : (j : Int) < 32 := by omega
     have hgl : g < wr.heap.size := Nat.lt_of_lt_of_le hg HBr.out.size
     have hgn' : ¬ g = wr.heap.size := by omega
     have hgnl : gn < wr.heap.size := Nat.lt_of_lt_of_le hgn6 HBw.out.size
     have hgnn : ¬ gn = wr.heap.size := by omega
     have HBN : Hid (Below wr.heap.size wr (wr.alloc (.cells #[.int .i64 yk, .int .i64 ym, .int .i64 yu, .int .i64 yg, .int .i64 ys, .int .i64 yl, .int .i64 yup, .slice yq yn yc] 103))) := (Below.refl _ _).alloc (Nat.le_refl _) _
     have a0 : (wr.alloc (.cells #[.int .i64 yk, .int .i64 ym, .int .i64 yu, .int .i64 yg, .int .i64 ys, .int .i64 yl, .int .i64 yup, .slice yq yn yc] 103)).cell? ⟨wr.heap.size, 0, none⟩ = some (.int .i64 yk) := cell_of_row _ _ _ _ _ _ (heap_alloc_new _ _)
     have a5 : (wr.alloc (.cells #[.int .i64 yk, .int .i64 ym, .int .i64 yu, .int .i64 yg, .int .i64 ys, .int .i64 yl, .int .i64 yup, .slice yq yn yc] 103)).cell? ⟨wr.heap.size, 5, none⟩ = some (.int .i64 yl) := cell_of_row _ _ _ _ _ _ (heap_alloc_new _ _)
     have an : (wr.alloc (.cells #[.int .i64 yk, .int .i64 ym, .int .i64 yu, .int .i64 yg, .int .i64 ys, .int .i64 yl, .int .i64 yup, .slice yq yn yc] 103)).cell? ⟨gn, j, none⟩ = some (.int .i64 yl) := (HBN.out.cell (p := ⟨gn, j, none⟩) hgnl).trans en
     have HBr2 : Hid (Below w6.heap.size w6 (wr.alloc (.cells #[.int .i64 yk, .int .i64 ym, .int .i64 yu, .int .i64 yg, .int .i64 ys, .int .i64 yl, .int .i64 yup, .slice yq yn yc] 103))) := Below.step HBw.out HBN.out
     have b1 : (yl != yl) = false := by simp
     go_upto_region 21 with fail
     clear e0 e1 e2 e3 e4 e5 e6 e7 en
     generalize wr.alloc (.cells #[.int .i64 yk, .int .i64 ym, .int .i64 yu, .int .i64 yg, .int .i64 ys, .int .i64 yl, .int .i64 yup, .slice yq yn yc] 103) = wn at *
     by_cases hy0 : yk = 0
     ·have b2 : (yk == 0) = true := by simpa using hy0
      have b3 : decide (0 < yl) = false := decide_eq_false (by have := hy2 hy0; omega)
      have b4 : decide (yl > 0) = false := b3
      subst hy0
      go_quiet (fail)
      have HBq : Hid (Below w6.heap.size w6 (wn.drewN nq)) := qge HBr2.out nq
      go_wp2
      go_roundw
      case rel => exact ⟨j + 1, by omega, by go_num, HBq⟩
      case measure => simp [intOf]; omega
     ·have b2 : (yk == 0) = false := by simpa using hy0
      go_quiet (fail)
      have HBq : Hid (Below w6.heap.size w6 (wn.drewN nq)) := qge HBr2.out nq
      go_wp2
      go_roundw
      case rel => exact ⟨j + 1, by omega, by go_num, HBq⟩
      case measure => simp [intOf]; omega
    ·obtain rfl : j = 32 := by omega
     have hlt2 : ¬ ((32 : Nat) : Int) < 32 := by omega
     have hE0 : 0 < E.length := by rw [HEL.out]; omega
     have hL0 : 0 < L.length := by rw [HLL.out]; omega
     obtain ⟨e0, _, _, _, _, _, e6, _⟩ := qda HC.out 0 hE0
     have HND := HE3.out.2 0 hE0 hL0
     have hk0' := (HRO.out.kd 0 hL0).2 rfl
     have hup := HOK.out.up
     rw [show L.getD 0 zN = L[0] by rw [List.getD_eq_getElem?_getD, List.getElem?_eq_getElem hL0]; rfl, ← HND.2.2.2.2.2.2.1] at hup
     rw [← HND.1] at hk0'
     rw [hk0'] at e0
     rw [hup] at e6
     have e0 := (HBr.out.cell (p := ⟨g, o + 0 * 8, none⟩) hg).trans e0
     have e6 := (HBr.out.cell (p := ⟨g, o + 0 * 8 + 6, none⟩) hg).trans e6
     simp only [Nat.zero_mul, Nat.add_zero] at e0 e6
     have hxc := (HBw.out.cell (p := ⟨be, 0, none⟩) (block_lt_of_cell HXc6.out)).trans HXc6.out
     have HWY := Lib.hid (ybvj wr (.slice (some ⟨g, o, none⟩) 32 cp) E L _ (qah.below HV3.out HBr.out) (HE3.out.keep (qac.of_below HBr.out)) X HRO.out be 32 bm xv hxc (qah.below HXr6.out HBw.out))
     clear HND hk0' hup hxc
     go_wp2_with fail
     refine HWY.out.mono ?_
     rintro e w7 ⟨rfl, hb7⟩
     have HB7 := Lib.hid (Below.step HB3.out (Below.step HBr.out hb7))
     clear hb7 HWY
     go_wp2
     go_end0
     exact ⟨rfl, HB7.out⟩
theorem ybye {w : World} {r : Rdr} {N : Nat → List Int} {k : Nat} (h : RdAt w r N k) (hk : k ≤ 256) (hk0 : 64 ≤ k) (f : Fo) (t bm : Nat) (L : List Pn) (hok : qlq N f t k L) :
  Calls Tryz.prog 39 #[.iface r.T r.u, .agg (encT f t), .map (some bm)] w (fun e w' => e = .returned (.tuple #[]) ∧ Below w.heap.size w w') := ybyf h hk hk0 f t bm L hok _ rfl
end Go.Proofs.YtpoglnpjadmbpaaGreatDoor
namespace Go.Proofs.YtpoglnpjadmbpaaGreatDoor
open Go.RowKit
structure qje (N : Nat → List Int) (f : Fo) (k : Nat) : Prop where
 mark : N 0 = qfs k
 load : qmh N f k
 quota : qju (N 4)
 tree : ∀ t, t < 4 → qbd f t = true → ∃ L, qlq N f t k L
set_option maxRecDepth 100000 in
theorem of_raw {w : World} {r : Rdr} {N : Nat → List Int} {k : Nat} (h : RdAt w r N k) (hk : k ≤ 256) (hk0 : 64 ≤ k) (f : Fo) (hok : qje N f k) (A : Array Value) (HA : Hid (A = encF f)) :
  Calls Tryz.prog 11 #[.iface r.T r.u] w
   (fun e w' => e = .returned (.slice none 0 0) ∧ Below w.heap.size w w') := by
 have q1 := h.n1
 have q2 := h.m1
 have q3 := h.c1
 have q4 := h.n2
 have q5 := h.m2
 have q6 := h.c2
 have HR := Lib.hid h
 have HOK := Lib.hid hok
 clear h hok
 have HAS : Hid (A.size = 192) := by rw [HA.out]; exact qaj f
 have HA1 : Hid (A.all (·.oneCell') = true) := by rw [HA.out]; exact qio f
 have HTH : Hid (∀ (t : Nat) (W : World), t < 4 → Calls Tryz.prog 38 #[.agg A, .int .i64 (t : Int)] W fun e w' => e = .returned (.bool (qbd f t)) ∧ Below W.heap.size W w') := fun t W ht => by rw [HA.out]; exact qob f t W ht
 obtain ⟨Z0, HZ0⟩ : ∃ Z, Hid (Z = encF qil) := ⟨_, rfl⟩
 have HZ : Hid (∀ w, (zeroValue 80).run Tryz.prog w = .ok (.agg Z0) w) := by rw [HZ0.out]; exact forZ
 have HZS : Hid (Z0.size = 192) := by rw [HZ0.out]; exact qaj _
 have hmm := @run_makeMap Tryz.prog
 have HMK : Hid (N 0 = qfs k) := HOK.out.mark
 have HRD := Lib.hid (HR.out.read w (Below.refl _ _) 0 (by omega))
 have HL0 := Lib.hid (HR.out.len 0 (by omega))
 go_enter Tryz.func11, Tryz.ntmps11
 go_wp2_with fail
 refine HRD.out.mono ?_
 rintro e w1 ⟨v1, rfl, hv1⟩
 have HB1 := Lib.hid hv1.below
 have HV1 := Lib.hid hv1.at
 obtain ⟨g1, c1, cur1, hv1e, _⟩ := hv1
 rw [HL0.out] at hv1e
 subst hv1e
 have HS1 := Lib.hid (HR.out.size w1 HB1.out)
 clear HRD
 go_wp2_with fail
 refine HS1.out.mono ?_
 rintro e w2 ⟨rfl, hb2⟩
 have HB2 := Lib.hid (Below.step HB1.out hb2)
 have HV2 := Lib.hid (qah.below HV1.out hb2)
 clear hb2 HS1 HV1
 go_wp2_with fail
 refine (qxf k (by omega) w2).mono ?_
 rintro e w3 ⟨v3, rfl, hv3⟩
 have HB3 := Lib.hid (Below.step HB2.out hv3.below)
 have HV3 := Lib.hid (qah.below HV2.out hv3.below)
 have HM3 := Lib.hid hv3.at
 clear hv3 HV2
 go_wp2_with fail
 refine (qdu _ _ (N 0) (qfs k) w3 HV3.out HM3.out (by rw [HMK.out]) (by rw [HL0.out]; omega)).mono ?_
 rw [show eqB (N 0) (qfs k) = true by unfold eqB; rw [HMK.out]; simp]
 rintro e w4 ⟨rfl, hb4⟩
 have HB4 := Lib.hid (Below.step HB3.out hb4)
 have HS4 := Lib.hid (HR.out.size w4 HB4.out)
 clear hb4 HV3 HM3
 go_wp2_with fail
 refine HS4.out.mono ?_
 rintro e w5 ⟨rfl, hb5⟩
 have HB5 := Lib.hid (Below.step HB4.out hb5)
 have HLD := Lib.hid (ybgb (HR.out.below HB5.out) (by omega) f HOK.out.load)
 rw [← HA.out] at HLD
 have d1 : decide ((k : Int) < 64) = false := decide_eq_false (by omega)
 have d2 : ¬ ((k : Int) < 64) := by omega
 have d3 : decide (k < 64) = false := decide_eq_false (by omega)
 clear hb5 HS4
 go_wp2_with fail
 refine HLD.out.mono ?_
 rintro e w6 ⟨rfl, hb6⟩
 have HB6 := Lib.hid (Below.step HB5.out hb6)
 clear hb6 HLD d1 d2 d3
 have HF7 : Hid (((w6.alloc (.cells Z0 80)).setRow w6.heap.size A).heap[w6.heap.size]? = some (.cells A 80 (0, 0))) := setRow_heap _ _ _ _ _ _ (heap_alloc_new _ _)
 have HB7 : Hid (Below w6.heap.size w6 ((w6.alloc (.cells Z0 80)).setRow w6.heap.size A)) := Below.setRow ((Below.refl _ _).alloc (Nat.le_refl _) _) (Nat.le_refl _) _
 go_upto_region 7 with (first
  | (refine qbj rfl 80 rfl Z0 HZ.out ?_)
  | (refine wpList_store_row rfl 80 (.tmp 5) (.tmp 39) rfl w6.heap.size A rfl rfl 80 Z0 (heap_alloc_new _ _) (by rw [HAS.out]; exact forI) (by rw [HZS.out, HAS.out]) HA1.out ?_))
 generalize (w6.alloc (.cells Z0 80)).setRow w6.heap.size A = w7 at *
 have HM8 : Hid (MapL Tryz.prog 3 (w7.alloc (.map #[] 0)) w7.heap.size []) := MapL.made w7
 have HB8 : Hid (Below w7.heap.size w7 (w7.alloc (.map #[] 0))) := (Below.refl _ _).alloc (Nat.le_refl _) _
 have HB78 : Hid (Below w6.heap.size w6 (w7.alloc (.map #[] 0))) := Below.step HB7.out HB8.out
 have HBW8 : Hid (Below w.heap.size w (w7.alloc (.map #[] 0))) := Below.step HB6.out HB78.out
 have HF8 : Hid ((w7.alloc (.map #[] 0)).heap[w6.heap.size]? = some (.cells A 80 (0, 0))) := qaa HB8.out HF7.out
 have HRD := Lib.hid (HR.out.read (w7.alloc (.map #[] 0)) HBW8.out 4 (by omega))
 have HL4 := Lib.hid (HR.out.len 4 (by omega))
 have HY4 := Lib.hid (HR.out.byte 4 (by omega))
 have HG4 : Hid (qju (N 4)) := HOK.out.quota
 go_wp2_with fail
 obtain ⟨mb, Hmb⟩ : ∃ x, Hid (w7.heap.size = x) := ⟨_, rfl⟩
 rw [Hmb.out] at HM8 ⊢
 obtain ⟨fb, Hfb⟩ : ∃ x, Hid (w6.heap.size = x) := ⟨_, rfl⟩
 rw [Hfb.out] at HF8 ⊢
 generalize w7.alloc (.map #[] 0) = w8 at *
 refine HRD.out.mono ?_
 rintro e w9 ⟨v9, rfl, hv9⟩
 have HB9 := Lib.hid (Below.step HBW8.out hv9.below)
 have HV9 := Lib.hid hv9.at
 have HM9 := Lib.hid (HM8.out.of_block (hv9.below.block _ HM8.out.lt))
 have HF9 := Lib.hid (qaa hv9.below HF8.out)
 clear hv9 HRD HM8 HF8 HF7
 go_wp2_with fail
 refine (qto v9 (N 4) w9 HV9.out HY4.out (by rw [HL4.out]; omega)).mono ?_
 rintro e w10 (⟨_, u, rfl, _, hb10⟩ | ⟨hng, _⟩)
 case inr => exact absurd HG4.out hng
 have HB10 := Lib.hid (Below.step HB9.out hb10)
 have HM10 := Lib.hid (HM9.out.of_block (hb10.block _ HM9.out.lt))
 have HF10 := Lib.hid (qaa hb10 HF9.out)
 clear hb10 HM9 HF9 HV9
 go_wp2
 go_loopw [61] (fun i wr => ∃ t : Nat, t ≤ 4 ∧ i = .int .i64 t ∧ Hid (Below w.heap.size w wr) ∧ Hid (MapL Tryz.prog 3 wr mb []) ∧ Hid (wr.heap[fb]? = some (.cells A 80 (0, 0)))) (fun i _ => 4 - (intOf i).toNat)
 case atStart => exact ⟨0, by omega, rfl, HB10, HM10, HF10⟩
 case round =>
  clear HB10 HM10 HF10
  obtain ⟨t, ht, rfl, HB, HM, HF⟩ := hrel
  by_cases htl : t < 4
  ·have htl2 : (t : Int) < 4 := by omega
   have ht0 : (0 : Int) ≤ (t : Int) := by omega
   have HTt := Lib.hid (fun W => HTH.out t W htl)
   go_wp2_with (refine wpList_load_row rfl 80 (.tmp 5) rfl fb rfl 80 A (0, 0) _ HF.out forT rfl (by rw [HAS.out]; exact forI) ?_)
   refine (HTt.out wr).mono ?_
   cases hth : qbd f t with
   | true =>
    rintro e w11 ⟨rfl, hb11⟩
    have HB11 := Lib.hid (Below.step HB.out hb11)
    have HM11 := Lib.hid (HM.out.of_block (hb11.block _ HM.out.lt))
    have HF11 := Lib.hid (qaa hb11 HF.out)
    obtain ⟨L, hL⟩ := HOK.out.tree t htl hth
    obtain ⟨T, HT⟩ : ∃ T, Hid (T = encT f t) := ⟨_, rfl⟩
    have HTS : Hid (T.size = 48) := by rw [HT.out]; exact qgs _ _
    have HTP : Hid (∀ j, j < T.size → A[t * 48 + j]? = T[j]?) := by rw [HT.out, HA.out]; exact qsp f t htl
    have HON := Lib.hid (ybye (HR.out.below HB11.out) hk hk0 f t mb L hL)
    rw [← HT.out] at HON
    clear hth hb11 HM HF HB hL HTt
    go_wp2_with (refine qat (by kernel_rfl) 78 (.tmp 69) rfl fb (t * 48) rfl 80 A T (0, 0) _ HF11.out HTP.out Tryz.underlying78 rfl (by rw [HTS.out]; exact ybjy) ?_)
    refine HON.out.mono ?_
    rintro e w12 ⟨rfl, hb12⟩
    have HB12 := Lib.hid (Below.step HB11.out hb12)
    have HM12 := Lib.hid (HM11.out.of_block (hb12.block _ HM11.out.lt))
    have HF12 := Lib.hid (qaa hb12 HF11.out)
    clear hb12 HM11 HF11 HB11 HON
    go_wp2
    go_roundw
    case rel => exact ⟨t + 1, by omega, by go_num, HB12, HM12, HF12⟩
    case measure => simp [intOf]; omega
   | false =>
    rintro e w11 ⟨rfl, hb11⟩
    have HB11 := Lib.hid (Below.step HB.out hb11)
    have HM11 := Lib.hid (HM.out.of_block (hb11.block _ HM.out.lt))
    have HF11 := Lib.hid (qaa hb11 HF.out)
    clear hth hb11 HM HF HB HTt
    go_wp2
    go_roundw
    case rel => exact ⟨t + 1, by omega, by go_num, HB11, HM11, HF11⟩
    case measure => simp [intOf]; omega
  ·obtain rfl : t = 4 := by omega
   have htl2 : ¬ ((4 : Nat) : Int) < 4 := by omega
   go_wp2_with (first
    | (at_range; refine qfm _ rfl _ _ rfl 3 4 intT qpw mb [] rfl HM.out ?_; intro w13 hr13 hg13 hs13))
   have HB13 : Hid (Below w.heap.size w w13) := Below.grown HB.out hg13 HB.out.size (fun q hq => by cases hq)
   have HR13 : Hid (qef Tryz.prog 3 w13 mb wr.heap.size [] [] 0) := hr13
   clear hr13 hg13 hs13
   go_loopw [13] (fun o wq => o = .slice none 0 0 ∧ Hid (Below w.heap.size w wq) ∧ Hid (qef Tryz.prog 3 wq mb wr.heap.size [] [] 0)) (fun _ _ => 0)
   case atStart => exact ⟨rfl, HB13, HR13⟩
   case round =>
    obtain ⟨rfl, HB14, HR14⟩ := hrel
    go_wp2_with (at_next; refine qgm _ rfl _ rfl 3 intT mb _ [] [] 0 rfl HR14.out (fun _ => ?_) (fun x c w' cnt' hx hm => absurd hm (by simp)))
    refine (ybgx (.slice none 0 0) [] 0 wr (World.ownsRow_nil _ _ _ _) (by simp)).mono ?_
    rintro e w15 ⟨rfl, _, hg15⟩
    have HB15 : Hid (Below w.heap.size w w15) := Below.grown HB14.out hg15 HB14.out.size (fun q hq => by cases hq)
    clear hg15
    go_wp2
    go_ret
    exact ⟨rfl, HB15.out⟩
theorem qqz {w : World} {r : Rdr} {N : Nat → List Int} {k : Nat} (h : RdAt w r N k) (hk : k ≤ 256) (hk0 : 64 ≤ k) (f : Fo) (hok : qje N f k) :
  Calls Tryz.prog 11 #[.iface r.T r.u] w (fun e w' => e = .returned (.slice none 0 0) ∧ Below w.heap.size w w') := of_raw h hk hk0 f hok _ rfl
structure Fs where
 dk : Dk
 k : Nat
 sq : Int
 fo : Fo
 rows : List (Int × Int)
 nodes : List Pn
 todo : List (Int × List Int)
def logR (a : Addr) (sq : Int) : Array Value := #[.pointer (some a), .int .i64 5, .int .i64 32, .int .u32 sq]
def qll (d lg : Value) (fo : Fo) (rv nv tv hv : Value) (i : Nat) : Value :=
 if i = 0 then d else if i = 1 then lg else if i < 194 then qdd fo ((i - 2) / 48) ((i - 2) % 48) else if i = 194 then rv else if i = 195 then nv else if i = 196 then tv else hv
def fsR (d lg : Value) (fo : Fo) (rv nv tv hv : Value) : Array Value := Array.ofFn (n := 198) fun i => qll d lg fo rv nv tv hv i.val
theorem qgi (d lg : Value) (fo : Fo) (rv nv tv hv : Value) : (fsR d lg fo rv nv tv hv).size = 198 := by simp [fsR]
theorem qir (d lg : Value) (fo : Fo) (rv nv tv hv : Value) (i : Nat) (h : i < 198) : (fsR d lg fo rv nv tv hv)[i]? = some (qll d lg fo rv nv tv hv i) := by simp [fsR, h]
theorem ybmf (d lg : Value) (fo : Fo) (rv nv tv hv : Value) : ∀ j, j < (encF fo).size → (fsR d lg fo rv nv tv hv)[2 + j]? = (encF fo)[j]? := fun j hj => by
 rw [qaj] at hj
 rw [qir _ _ _ _ _ _ _ _ (by omega)]
 have := qcb fo (j / 48) (j % 48) (by omega) (by omega)
 rw [show j / 48 * 48 + j % 48 = j by omega] at this
 rw [this]
 unfold qll
 rw [if_neg (by omega), if_neg (by omega), if_pos (by omega), show 2 + j - 2 = j by omega]
def qau (w : World) (B : Nat) (pl : List (Int × Value)) (l : List (Int × List Int)) : Prop :=
 pl.map (·.1) = l.map (·.1) ∧ ∀ i (h : i < pl.length) (h' : i < l.length), qen w B pl[i].2 l[i].2
structure FsAt (w : World) (gf : Nat) (s : Fs) (F : Nat → Prop) (B : Nat) (a : Addr) : Prop where
 ex : ∃ gl rv nv bt bh E tl FD,
  w.heap[gf]? = some (.cells (fsR (.pointer (some a)) (.pointer (some ⟨gl, 0, none⟩)) s.fo rv nv (.map (some bt)) (.map (some bh))) 96 (0, 0)) ∧
  qay w (.pointer (some a)) s.dk s.k FD ∧ (∀ i, FD i → F i) ∧ ¬ FD gl ∧ w.heap[gl]? = some (.cells (logR a s.sq) 165 (0, 0)) ∧ F gl ∧
  Out F w (fun w' => qah w' rv 2 s.rows.length (qby s.rows)) ∧
  Out F w (fun w' => qah w' nv 8 E.length (qaz E)) ∧ qbr F w E s.nodes ∧
  MapL Tryz.prog 3 w bt tl ∧ qau w B tl s.todo ∧ F bt ∧ bt ≠ bh ∧ ¬ FD bt ∧
  MapL Tryz.prog 3 w bh [] ∧ F bh ∧ ¬ FD bh
 self : F gf
 len : s.nodes.length = 32
 fin : ∀ i, F i → i < w.heap.size
 old : ∀ i, F i → i < B
 k0 : 64 ≤ s.k
 k1 : s.k ≤ 256
 rows : s.rows.length ≤ 20
theorem qgo {w w' : World} {B : Nat} {v : Value} {D : List Int} (h : qen w B v D) (hk : ∀ (g : Nat) (c : Array Value), B ≤ g → w.heap[g]? = some (.cells c 5 (0, 0)) → w'.heap[g]? = w.heap[g]?) : qen w' B v D := by
 obtain ⟨g, cap, cur, h1, h2, h3, h4, h5, h6⟩ := h
 exact ⟨g, cap, cur, h1, h2, h3, h4, (hk g _ h4 h5).trans h5, h6⟩
theorem qen.at {w : World} {B : Nat} {v : Value} {D : List Int} (h : qen w B v D) : qae w v D := by
 obtain ⟨g, cap, cur, rfl, h2, h3, h4, h5, h6⟩ := h
 exact qaw h2 h5 h6
theorem qen.mono {w : World} {B B' : Nat} {v : Value} {D : List Int} (h : qen w B v D) (hb : B' ≤ B) : qen w B' v D := by
 obtain ⟨g, cap, cur, h1, h2, h3, h4, h5, h6⟩ := h
 exact ⟨g, cap, cur, h1, h2, h3, by omega, h5, h6⟩
theorem qau.keep {w w' : World} {B : Nat} {pl : List (Int × Value)} {l : List (Int × List Int)} (h : qau w B pl l) (hk : ∀ (g : Nat) (c : Array Value), B ≤ g → w.heap[g]? = some (.cells c 5 (0, 0)) → w'.heap[g]? = w.heap[g]?) : qau w' B pl l :=
 ⟨h.1, fun i h1 h2 => qgo (h.2 i h1 h2) hk⟩
theorem qau.len {w : World} {B : Nat} {pl : List (Int × Value)} {l : List (Int × List Int)} (h : qau w B pl l) : pl.length = l.length := by
 have := congrArg List.length h.1
 simpa using this
theorem qau.nil (w : World) (B : Nat) : qau w B [] [] := ⟨rfl, fun i h => by simp at h⟩
theorem qau.tail {w : World} {B : Nat} {x : Int × Value} {y : Int × List Int} {pl : List (Int × Value)} {l : List (Int × List Int)} (h : qau w B (x :: pl) (y :: l)) : x.1 = y.1 ∧ qen w B x.2 y.2 ∧ qau w B pl l := by
 have h1 := h.1
 simp only [List.map_cons, List.cons.injEq] at h1
 refine ⟨h1.1, h.2 0 (by simp) (by simp), h1.2, fun i a b => ?_⟩
 have := h.2 (i + 1) (by simpa using a) (by simpa using b)
 simpa using this
theorem qau.cons {w : World} {B : Nat} {x : Int × Value} {y : Int × List Int} {pl : List (Int × Value)} {l : List (Int × List Int)} (h1 : x.1 = y.1) (h2 : qen w B x.2 y.2) (h3 : qau w B pl l) : qau w B (x :: pl) (y :: l) := by
 refine ⟨by simp [h1, h3.1], fun i a b => ?_⟩
 cases i with
 | zero => exact h2
 | succ i => simpa using h3.2 i (by simpa using a) (by simpa using b)
theorem qau.get {w : World} {B : Nat} {k : Int} : ∀ {pl : List (Int × Value)} {l : List (Int × List Int)}, qau w B pl l → (getZ pl k = none ∧ getZ l k = none) ∨ ∃ v D, getZ pl k = some v ∧ getZ l k = some D ∧ qen w B v D
 | [], [], _ => Or.inl ⟨rfl, rfl⟩
 | [], y :: l, h => by have := h.len; simp at this
 | x :: pl, [], h => by have := h.len; simp at this
 | x :: pl, y :: l, h => by
  obtain ⟨h1, h2, h3⟩ := h.tail
  unfold getZ
  by_cases hk : x.1 = k
  ·rw [if_pos hk, if_pos (h1 ▸ hk)]
   exact Or.inr ⟨_, _, rfl, rfl, h2⟩
  ·rw [if_neg hk, if_neg (h1 ▸ hk)]
   exact qau.get h3
theorem qau.put {w : World} {B : Nat} {k : Int} {v : Value} {D : List Int} (hv : qen w B v D) : ∀ {pl : List (Int × Value)} {l : List (Int × List Int)}, qau w B pl l → qau w B (putZ pl k v) (putZ l k D)
 | [], [], _ => qau.cons rfl hv (qau.nil _ _)
 | [], y :: l, h => by have := h.len; simp at this
 | x :: pl, [], h => by have := h.len; simp at this
 | x :: pl, y :: l, h => by
  obtain ⟨h1, h2, h3⟩ := h.tail
  unfold putZ
  rw [← h1]
  split
  ·exact qau.cons rfl hv (qau.cons h1 h2 h3)
  ·split
   ·exact qau.cons rfl hv h3
   ·exact qau.cons h1 h2 (qau.put hv h3)
theorem FsAt.below {w w' : World} {gf : Nat} {s : Fs} {F : Nat → Prop} {B : Nat} {a : Addr} (h : FsAt w gf s F B a) (hb : Below w.heap.size w w') : FsAt w' gf s F B a := by
 obtain ⟨⟨gl, rv, nv, bt, bh, E, tl, FD, h1, h2, h3, h4, h5, h6, h7, h8, h9, h10, h11, h12, h13, h14, h15, h16, h17⟩, a1, a2, a3, a4, a5, a6, a7⟩ := h
 exact ⟨⟨gl, rv, nv, bt, bh, E, tl, FD, qaa hb h1, h2.below hb, h3, h4, qaa hb h5, h6, h7.below hb, h8.below hb, h9.keep (qac.of_below hb), h10.of_block (hb.block _ h10.lt), h11.keep (fun g c _ hc => hb.block g (qab hc)), h12, h13, h14, h15.of_block (hb.block _ h15.lt), h16, h17⟩,
  a1, a2, fun i hi => Nat.lt_of_lt_of_le (a3 i hi) hb.size, a4, a5, a6, a7⟩
structure Tx where
 fo : Fo
 rows : List (Int × Int)
 nodes : List Pn
 dirty : List (Int × Value)
 put : List (Int × List Int)
 gone : List Int
 full : Bool
 fake : Int
def qod (fp : Value) (fo : Fo) (rv nv dv pv gv : Value) (full : Bool) (fake : Int) (i : Nat) : Value :=
 if i = 0 then fp else if i < 193 then qdd fo ((i - 1) / 48) ((i - 1) % 48) else if i = 193 then rv else if i = 194 then nv else if i = 195 then dv else if i = 196 then pv else if i = 197 then gv else if i = 198 then .bool full else .int .i64 fake
def txR (fp : Value) (fo : Fo) (rv nv dv pv gv : Value) (full : Bool) (fake : Int) : Array Value := Array.ofFn (n := 200) fun i => qod fp fo rv nv dv pv gv full fake i.val
section
variable (fp : Value) (fo : Fo) (rv nv dv pv gv : Value) (full : Bool) (fake : Int)
theorem qgl : (txR fp fo rv nv dv pv gv full fake).size = 200 := by simp [txR]
theorem qha (i : Nat) (h : i < 200) : (txR fp fo rv nv dv pv gv full fake)[i]? = some (qod fp fo rv nv dv pv gv full fake i) := by simp [txR, h]
theorem qtk : ∀ j, j < (encF fo).size → (txR fp fo rv nv dv pv gv full fake)[1 + j]? = (encF fo)[j]? := fun j hj => by
 rw [qaj] at hj
 rw [qha _ _ _ _ _ _ _ _ _ _ (by omega)]
 have := qcb fo (j / 48) (j % 48) (by omega) (by omega)
 rw [show j / 48 * 48 + j % 48 = j by omega] at this
 rw [this]
 unfold qod
 rw [if_neg (by omega), if_pos (by omega), show 1 + j - 1 = j by omega]
theorem ybpx : ∀ j, j < (enc (fo.hs 0)).size → (txR fp fo rv nv dv pv gv full fake)[17 + j]? = (enc (fo.hs 0))[j]? := fun j hj => by
 rw [qax] at hj
 have h1 := qtk fp fo rv nv dv pv gv full fake (16 + j) (by rw [qaj]; omega)
 rw [show 1 + (16 + j) = 17 + j by omega] at h1
 rw [h1]
 have := qnn fo 0 (by omega) j (by rw [qax]; exact hj)
 simpa using this
def hasF (f : Fo) (s : Nat → Bool) : Fo := ⟨f.nd, fun k => if k = 0 then s else f.hs k⟩
theorem qun (f : Fo) (s : Nat → Bool) (a j : Nat) (h : a ≠ 0 ∨ j < 16) : qdd (hasF f s) a j = qdd f a j := by
 unfold qdd hasF
 by_cases hj : j < 16
 ·rw [if_pos hj, if_pos hj]
 ·rw [if_neg hj, if_neg hj]
  rcases h with h | h
  ·simp [h]
  ·exact absurd h hj
theorem qvw (s : Nat → Bool) : ((txR fp fo rv nv dv pv gv full fake).toList.take 17 ++ (enc s).toList ++ (txR fp fo rv nv dv pv gv full fake).toList.drop (17 + (enc s).size)).toArray = txR fp (hasF fo s) rv nv dv pv gv full fake := by
 apply Array.ext_getElem?
 intro i
 have hs : (enc s).toList.length = 32 := by simpa using qax s
 have hl : (txR fp fo rv nv dv pv gv full fake).toList.length = 200 := by simpa using qgl fp fo rv nv dv pv gv full fake
 have hg : ∀ j, (txR fp fo rv nv dv pv gv full fake).toList[j]? = (txR fp fo rv nv dv pv gv full fake)[j]? := fun j => Array.getElem?_toList
 rw [List.getElem?_toArray, qax]
 by_cases h1 : i < 17
 ·rw [List.append_assoc, List.getElem?_append_left (by rw [List.length_take, hl]; omega), List.getElem?_take, if_pos h1, hg, qha _ _ _ _ _ _ _ _ _ _ (by omega), qha _ _ _ _ _ _ _ _ _ _ (by omega)]
  unfold qod
  by_cases h0 : i = 0
  ·rw [if_pos h0, if_pos h0]
  ·rw [if_neg h0, if_neg h0, if_pos (by omega), if_pos (by omega), qun _ _ _ _ (Or.inr (by omega))]
 ·by_cases h2 : i < 49
  ·rw [List.append_assoc, List.getElem?_append_right (by rw [List.length_take, hl]; omega), List.getElem?_append_left (by rw [List.length_take, hl, hs]; omega), List.length_take, hl, qha _ _ _ _ _ _ _ _ _ _ (by omega), Array.getElem?_toList, qdi _ _ (by omega)]
   unfold qod
   rw [if_neg (by omega), if_pos (by omega)]
   unfold qdd hasF
   rw [if_neg (by omega), show (i - 1) / 48 = 0 by omega, show min 17 200 = 17 by omega, show (i - 1) % 48 - 16 = i - 17 by omega]
   rfl
  ·rw [List.append_assoc, List.getElem?_append_right (by rw [List.length_take, hl]; omega), List.getElem?_append_right (by rw [List.length_take, hl, hs]; omega), List.getElem?_drop, List.length_take, hl, hs, hg]
   rw [show 17 + 32 + (i - min 17 200 - 32) = i by omega]
   by_cases h3 : i < 200
   ·rw [qha _ _ _ _ _ _ _ _ _ _ h3, qha _ _ _ _ _ _ _ _ _ _ h3]
    unfold qod
    have h0 : ¬ i = 0 := by omega
    rw [if_neg h0, if_neg h0]
    by_cases h4 : i < 193
    ·rw [if_pos h4, if_pos h4, qun _ _ _ _ (Or.inl (by omega))]
    ·rw [if_neg h4, if_neg h4]
   ·rw [Array.getElem?_eq_none (by rw [qgl]; omega), Array.getElem?_eq_none (by rw [qgl]; omega)]
end
structure TxAt (w : World) (B : Nat) (F : Nat → Prop) (gt : Nat) (fp : Value) (x : Tx) (T : Nat → Prop) : Prop where
 ex : ∃ rv gn cn gd gp gv E pl,
  w.heap[gt]? = some (.cells (txR fp x.fo rv (.slice (some ⟨gn, 0, none⟩) 32 cn) (.map (some gd)) (.map (some gp)) gv x.full x.fake) 114 (0, 0)) ∧
  Out (fun i => F i ∨ T i) w (fun w' => qah w' rv 2 x.rows.length (qby x.rows)) ∧
  w.ownsRow B 103 8 (.slice (some ⟨gn, 0, none⟩) 32 cn) 32 (qaz E) ∧ qbr (fun i => F i ∨ T i) w E x.nodes ∧
  MapL Tryz.prog 3 w gd x.dirty ∧
  MapL Tryz.prog 3 w gp pl ∧ qau w B pl x.put ∧ gd ≠ gp ∧
  w.ownsRow B 3 1 gv x.gone.length (ints x.gone) ∧
  T gn ∧ T gd ∧ T gp ∧ (∀ b, gv.ownBlock = some b → T b)
 self : T gt
 len : x.nodes.length = 32
 fin : ∀ i, T i → i < w.heap.size
 new : ∀ i, T i → B ≤ i
 gone : x.gone.length ≤ 1000
 put : x.put.length ≤ 1000
 dirty : x.dirty.length ≤ 1000
 rows : x.rows.length ≤ 20
 fake : 0 ≤ x.fake ∧ x.fake ≤ 1000000
def qec (B : Nat) (F : Nat → Prop) (gt : Nat) (fp : Value) (x' : Tx) (T : Nat → Prop) (w w' : World) : Prop :=
 ∃ T', TxAt w' B F gt fp x' T' ∧ (∀ i, T' i → T i ∨ w.heap.size ≤ i) ∧ qac T w w' ∧ ∀ i, T i → T' i
theorem ybbo {w w' : World} {F T T' : Nat → Prop} {φ : World → Prop} (h : Out (fun i => F i ∨ T i) w φ) (hk : qac T w w') (hT : ∀ i, T' i → T i ∨ w.heap.size ≤ i) : Out (fun i => F i ∨ T' i) w' φ := fun w2 k2 =>
 h w2 ((hk.mono (F1 := fun i => F i ∨ T i) (fun i _ hi => Or.inr hi)).trans k2 fun i hi => by
  rcases hi with hi | hi
  ·exact Or.inl (Or.inl hi)
  ·rcases hT i hi with hi | hi
   ·exact Or.inl (Or.inr hi)
   ·exact Or.inr hi)
theorem ybkb {w w' : World} {F T T' : Nat → Prop} {E : List Nd} {L : List Pn} (h : qbr (fun i => F i ∨ T i) w E L) (hk : qac T w w') (hT : ∀ i, T' i → T i ∨ w.heap.size ≤ i) : qbr (fun i => F i ∨ T' i) w' E L :=
 ⟨h.1, fun i h1 h2 => by
  obtain ⟨e1, e2, e3, e4, e5, e6, e7, e8⟩ := h.2 i h1 h2
  exact ⟨e1, e2, e3, e4, e5, e6, e7, ybbo e8 hk hT⟩⟩
theorem TxAt.below {w w' : World} {B : Nat} {F : Nat → Prop} {gt : Nat} {fp : Value} {x : Tx} {T : Nat → Prop} (h : TxAt w B F gt fp x T) (hb : Below w.heap.size w w') : TxAt w' B F gt fp x T := by
 obtain ⟨⟨rv, gn, cn, gd, gp, gv, E, pl, h1, h2, h3, h4, h5, h6, h7, h8, h9, h10, h11, h12, h13⟩, a1, a2, a3, a4, a5, a6, a7, a8, a9⟩ := h
 exact ⟨⟨rv, gn, cn, gd, gp, gv, E, pl, qaa hb h1, h2.below hb, qap h3 hb, h4.keep (qac.of_below hb), h5.of_block (hb.block _ h5.lt), h6.of_block (hb.block _ h6.lt), h7.keep (fun g c _ hc => hb.block g (qab hc)), h8, qap h9 hb, h10, h11, h12, h13⟩,
  a1, a2, fun i hi => Nat.lt_of_lt_of_le (a3 i hi) hb.size, a4, a5, a6, a7, a8, a9⟩
theorem qec.same {w w' : World} {B : Nat} {F : Nat → Prop} {gt : Nat} {fp : Value} {x : Tx} {T : Nat → Prop} (h : TxAt w B F gt fp x T) (hb : Below w.heap.size w w') : qec B F gt fp x T w w' := ⟨T, h.below hb, fun _ hi => Or.inl hi, qac.of_below hb, fun _ hi => hi⟩
theorem qai {P : Program} {K : TypeId} {w : World} {g b : Nat} {c : Array Value} {t : TypeId} {fr : Nat × Nat} {l : List (Int × Value)} (h : w.heap[g]? = some (.cells c t fr)) (hm : MapL P K w b l) : g ≠ b := by
 rintro rfl
 obtain ⟨⟨es, clock, h2, _⟩, _⟩ := hm
 rw [h] at h2
 injection h2 with h2
 cases h2
structure qbs (w : World) (B : Nat) (F T : Nat → Prop) (gt : Nat) (fp : Value) (x : Tx) (rv : Value) (gn cn gd gp : Nat) (gv : Value) (E : List Nd) (pl : List (Int × Value)) : Prop where
 row : w.heap[gt]? = some (.cells (txR fp x.fo rv (.slice (some ⟨gn, 0, none⟩) 32 cn) (.map (some gd)) (.map (some gp)) gv x.full x.fake) 114 (0, 0))
 rows : Out (fun i => F i ∨ T i) w (fun w' => qah w' rv 2 x.rows.length (qby x.rows))
 own : w.ownsRow B 103 8 (.slice (some ⟨gn, 0, none⟩) 32 cn) 32 (qaz E)
 nds : qbr (fun i => F i ∨ T i) w E x.nodes
 dirt : MapL Tryz.prog 3 w gd x.dirty
 puts : MapL Tryz.prog 3 w gp pl
 secs : qau w B pl x.put
 ne : gd ≠ gp
 gone : w.ownsRow B 3 1 gv x.gone.length (ints x.gone)
 tn : T gn
 td : T gd
 tp : T gp
 tg : ∀ b, gv.ownBlock = some b → T b
theorem TxAt.lies {w : World} {B : Nat} {F : Nat → Prop} {gt : Nat} {fp : Value} {x : Tx} {T : Nat → Prop} (h : TxAt w B F gt fp x T) : ∃ rv gn cn gd gp gv E pl, qbs w B F T gt fp x rv gn cn gd gp gv E pl := by
 obtain ⟨rv, gn, cn, gd, gp, gv, E, pl, h1, h2, h3, h4, h5, h6, h7, h8, h9, h10, h11, h12, h13⟩ := h.ex
 exact ⟨rv, gn, cn, gd, gp, gv, E, pl, h1, h2, h3, h4, h5, h6, h7, h8, h9, h10, h11, h12, h13⟩
theorem qbs.block {w : World} {B : Nat} {F T : Nat → Prop} {gt : Nat} {fp : Value} {x : Tx} {rv : Value} {gn cn gd gp : Nat} {gv : Value} {E : List Nd} {pl : List (Int × Value)} (h : qbs w B F T gt fp x rv gn cn gd gp gv E pl) :
  ∃ cur, w.heap[gn]? = some (.cells cur 103 (0, 0)) ∧ cur.size = cn * 8 ∧ 32 ≤ cn ∧ cn ≤ maxLen ∧ cur.toList.take 256 = qaz E ∧ B ≤ gn := by
 obtain ⟨_, ⟨hv, _⟩ | ⟨g, c, cur, hv, h1, h2, h3, h4, h5, h6⟩⟩ := id h.own
 ·cases hv
 injection hv with e1 _ e2
 injection e1 with e1
 injection e1 with e1
 subst e1 e2
 exact ⟨cur, h2, h5, h3, h4, h6, h1⟩
theorem qbs.below {w w' : World} {B : Nat} {F T : Nat → Prop} {gt : Nat} {fp : Value} {x : Tx} {rv : Value} {gn cn gd gp : Nat} {gv : Value} {E : List Nd} {pl : List (Int × Value)} (h : qbs w B F T gt fp x rv gn cn gd gp gv E pl) (hb : Below w.heap.size w w') : qbs w' B F T gt fp x rv gn cn gd gp gv E pl :=
 ⟨qaa hb h.row, h.rows.below hb, qap h.own hb, h.nds.keep (qac.of_below hb), h.dirt.of_block (hb.block _ h.dirt.lt), h.puts.of_block (hb.block _ h.puts.lt), h.secs.keep (fun g _c _ hc => hb.block g (qab hc)), h.ne, qap h.gone hb, h.tn, h.td, h.tp, h.tg⟩
theorem qbs.at {w : World} {B : Nat} {F T : Nat → Prop} {gt : Nat} {fp : Value} {x : Tx} {rv : Value} {gn cn gd gp : Nat} {gv : Value} {E : List Nd} {pl : List (Int × Value)} (h : qbs w B F T gt fp x rv gn cn gd gp gv E pl) (hself : T gt) (hlen : x.nodes.length = 32) (hfin : ∀ i, T i → i < w.heap.size) (hnew : ∀ i, T i → B ≤ i)
  (b1 : x.gone.length ≤ 1000) (b2 : x.put.length ≤ 1000) (b3 : x.dirty.length ≤ 1000) (b4 : x.rows.length ≤ 20) (b5 : 0 ≤ x.fake ∧ x.fake ≤ 1000000) : TxAt w B F gt fp x T :=
 ⟨⟨rv, gn, cn, gd, gp, gv, E, pl, h.row, h.rows, h.own, h.nds, h.dirt, h.puts, h.secs, h.ne, h.gone, h.tn, h.td, h.tp, h.tg⟩, hself, hlen, hfin, hnew, b1, b2, b3, b4, b5⟩
theorem qec.old {w0 w w' : World} {F : Nat → Prop} {gt : Nat} {fp : Value} {x y : Tx} {T : Nat → Prop} (h : qec w0.heap.size F gt fp x T w w') (hb : Below w0.heap.size w0 w) (ht : TxAt w w0.heap.size F gt fp y T) : Below w0.heap.size w0 w' := by
 obtain ⟨T1, h1, h2, h3, h4⟩ := h
 exact hb.trans (h3.to_below ht.new hb.size)
theorem TxAt.outer {w : World} {B : Nat} {F F' : Nat → Prop} {gt : Nat} {fp : Value} {x : Tx} {T : Nat → Prop} (h : TxAt w B F gt fp x T) (hF : ∀ i, i < w.heap.size → F' i → F i) : TxAt w B F' gt fp x T := by
 obtain ⟨rv, gn, cn, gd, gp, gv, E, pl, hl⟩ := h.lies
 have hout : ∀ i, i < w.heap.size → (F' i ∨ T i) → (F i ∨ T i) := fun i hi hg => hg.imp (hF i hi) id
 exact qbs.at (rv := rv) (gn := gn) (cn := cn) (gd := gd) (gp := gp) (gv := gv) (E := E) (pl := pl) ⟨hl.row, hl.rows.grow hout, hl.own, hl.nds.grow hout, hl.dirt, hl.puts, hl.secs, hl.ne, hl.gone, hl.tn, hl.td, hl.tp, hl.tg⟩ h.self h.len h.fin h.new h.gone h.put h.dirty h.rows h.fake
theorem TxAt.grow {w w' : World} {B : Nat} {F : Nat → Prop} {gt : Nat} {fp : Value} {x : Tx} {T : Nat → Prop} (h : TxAt w B F gt fp x T) (hb : Below w.heap.size w w') (g : Nat) (h1 : w.heap.size ≤ g) : TxAt w' B (fun i => F i ∨ i = g) gt fp x T :=
 (h.outer (F' := fun i => F i ∨ i = g) (fun i hi hg => by
  rcases hg with hg | hg
  ·exact hg
  ·omega)).below hb
theorem TxAt.local {w w' : World} {B : Nat} {F : Nat → Prop} {gt : Nat} {fp : Value} {x : Tx} {T : Nat → Prop} (h : TxAt w B F gt fp x T) {g : Nat} (hF : F g) (hgT : ¬ T g) {c : Array Value} {t : TypeId} (hr : w.heap[g]? = some (.cells c t (0, 0))) (ht : t ≠ 5) (hk : qac (fun i => i = g) w w') : TxAt w' B F gt fp x T := by
 obtain ⟨rv, gn, cn, gd, gp, gv, E, pl, hl⟩ := h.lies
 have hb : ∀ b, b < w.heap.size → b ≠ g → w'.heap[b]? = w.heap[b]? := fun b h1 h2 => hk.block b h1 h2
 have hT : ∀ b, T b → b ≠ g := fun b hb hc => hgT (hc ▸ hb)
 have hkO : qac (fun i => F i ∨ T i) w w' := hk.mono fun i _ hi => Or.inl (hi ▸ hF)
 refine qbs.at (rv := rv) (gn := gn) (cn := cn) (gd := gd) (gp := gp) (gv := gv) (E := E) (pl := pl) ⟨(hb gt (qab hl.row) (hT gt h.self)).trans hl.row, hl.rows.keep hkO, ?_, hl.nds.keep hkO, ?_, ?_, ?_, hl.ne, ?_, hl.tn, hl.td, hl.tp, hl.tg⟩ h.self h.len (fun i hi => Nat.lt_of_lt_of_le (h.fin i hi) hk.size) h.new h.gone h.put h.dirty h.rows h.fake
 ·exact qav hl.own fun b hb2 => hb b (hl.own.lt b hb2).2 (by injection hb2 with hb2; rw [← hb2]; exact hT gn hl.tn)
 ·exact hl.dirt.of_block (hb gd hl.dirt.lt (hT gd hl.td))
 ·exact hl.puts.of_block (hb gp hl.puts.lt (hT gp hl.tp))
 ·exact hl.secs.keep fun g' cc _ hc' => hb g' (qab hc') (qao hc' hr (Ne.symm ht))
 ·exact qav hl.gone fun b hb2 => hb b (hl.gone.lt b hb2).2 (hT b (hl.tg b hb2))
end Go.Proofs.YtpoglnpjadmbpaaGreatDoor
namespace Go.Proofs.YtpoglnpjadmbpaaGreatDoor
open Go.RowKit
section
variable {w : World} {gt : Nat} {fp : Value} {fo : Fo} {rv nv dv pv gv : Value} {full : Bool} {fake : Int} {t : TypeId} {fr : Nat × Nat}
theorem qcp (h : w.heap[gt]? = some (.cells (txR fp fo rv nv dv pv gv full fake) t fr)) :
  w.cell? ⟨gt, 0, none⟩ = some fp ∧ w.cell? ⟨gt, 193, none⟩ = some rv ∧ w.cell? ⟨gt, 194, none⟩ = some nv ∧ w.cell? ⟨gt, 195, none⟩ = some dv ∧ w.cell? ⟨gt, 196, none⟩ = some pv ∧ w.cell? ⟨gt, 197, none⟩ = some gv ∧ w.cell? ⟨gt, 198, none⟩ = some (.bool full) ∧ w.cell? ⟨gt, 199, none⟩ = some (.int .i64 fake) :=
 have c := fun i (hi : i < 200) => (cell_of_row _ _ i _ _ _ h).trans (qha fp fo rv nv dv pv gv full fake i hi)
 ⟨c 0 (by omega), c 193 (by omega), c 194 (by omega), c 195 (by omega), c 196 (by omega), c 197 (by omega), c 198 (by omega), c 199 (by omega)⟩
end
def ybcf (G : Nat → Prop) (X : Pn) (w' : World) (q : Option Addr) (n c : Nat) : Prop := Out G w' (fun w2 => qan w2 (.slice q n c) X.P)
set_option maxRecDepth 100000 in
theorem qtl {w : World} {B : Nat} {F T : Nat → Prop} {gt : Nat} {fp : Value} {x : Tx} (h : TxAt w B F gt fp x T) (i : Nat) (hi : i < 32) (X : Pn) (hX : x.nodes[i]? = some X) :
  Calls Tryz.prog 48 #[.pointer (some ⟨gt, 0, none⟩), .int .i64 ((i : Int) + 1)] w
   (fun e w' => ∃ q n c, e = .returned (.agg #[.int .i64 X.k, .int .i64 X.m, .int .i64 X.u, .int .i64 X.g, .int .i64 X.s, .int .i64 X.l, .int .i64 X.up, .slice q n c]) ∧ ybcf (fun i => F i ∨ T i) X w' q n c ∧ Below w.heap.size w w') := by
 obtain ⟨⟨rv, gn, cn, gd, gp, gv, E, pl, h1, h2, h3, h4, h5, h6, h7, h8, h9, h10, h11, h12, h13⟩, a1, a2, a3, a4, a5, a6, a7, a8, a9⟩ := h
 obtain ⟨_, _, c194, _⟩ := qcp h1
 have hEL : E.length = 32 := by rw [h4.1]; exact a2
 have hrow : qah w (.slice (some ⟨gn, 0, none⟩) 32 cn) 8 E.length (qaz E) := by rw [hEL]; exact qah.of_owns h3
 obtain ⟨p2, cp2, hv2, HP⟩ := qeh hrow
 rw [hEL] at hv2 HP
 injection hv2 with e1 _ e2
 subst e1 e2
 obtain ⟨g, o, hg0, hg, hc⟩ := HP.out (by omega)
 injection hg0 with hg0
 injection hg0 with e1 e2
 subst e1 e2
 have hiE : i < E.length := by omega
 have hiX : i < x.nodes.length := by omega
 obtain ⟨e0, e1, e2, e3, e4, e5, e6, e7⟩ := qda hc i hiE
 have HND := h4.2 i hiE hiX
 have hXX : x.nodes[i] = X := by rw [List.getElem?_eq_getElem hiX] at hX; injection hX
 rw [hXX] at HND
 generalize E[i] = y at e0 e1 e2 e3 e4 e5 e6 e7 HND
 obtain ⟨yk, ym, yu, yg, ys, yl, yup, yq, yn, yc⟩ := y
 obtain ⟨f0, f1, f2, f3, f4, f5, f6, HIY⟩ := HND
 dsimp only at e0 e1 e2 e3 e4 e5 e6 e7 f0 f1 f2 f3 f4 f5 f6
 subst f0 f1 f2 f3 f4 f5 f6
 have HI := Lib.hid HIY
 have hgtl : gt < w.heap.size := qab h1
 have hgtn : ¬ gt = w.heap.size := by omega
 have hgn : ¬ gn = w.heap.size := by omega
 have i1 : IntKind.i64.wrap ((i : Int) + 1 - 1) = (i : Int) := by rw [IntWalk.i64_in _ (by omega)]; omega
 simp only [Nat.zero_add] at e0 e1 e2 e3 e4 e5 e6 e7
 clear h1 h2 h3 h4 h5 h6 h7 h9 h10 h11 h12 h13 HP hc HIY hrow hX hXX hiX a1 a2 a3 a4 a5 a6 a7 a8 a9
 go_enter Tryz.func48, Tryz.ntmps48
 go_wp2
 obtain ⟨z0, z1, z2, z3, z4, z5, z6, z7⟩ := qam (heap_alloc_new w (.cells #[.int .i64 X.k, .int .i64 X.m, .int .i64 X.u, .int .i64 X.g, .int .i64 X.s, .int .i64 X.l, .int .i64 X.up, .slice yq yn yc] 103))
 have HB : Hid (Below w.heap.size w (w.alloc (.cells #[.int .i64 X.k, .int .i64 X.m, .int .i64 X.u, .int .i64 X.g, .int .i64 X.s, .int .i64 X.l, .int .i64 X.up, .slice yq yn yc] 103))) := (Below.refl _ _).alloc (Nat.le_refl _) _
 exact bodyPost_ret (v := .agg #[.int .i64 X.k, .int .i64 X.m, .int .i64 X.u, .int .i64 X.g, .int .i64 X.s, .int .i64 X.l, .int .i64 X.up, .slice yq yn yc]) (by simp [results, Tryz.results48, go_sem, z0, z1, z2, z3, z4, z5, z6, z7]) rfl ⟨_, _, _, rfl, HI.out.below HB.out, HB.out⟩
theorem ybnr (E : List Nd) (i : Nat) (hi : i < E.length) (e : Nd) : ((qaz E).toArray.toList.take (i * 8) ++ (nd8 e).toArray.toList ++ (qaz E).toArray.toList.drop (i * 8 + (nd8 e).toArray.size)).toArray = (qaz (E.set i e)).toArray := by
 congr 1
 have h8 : (nd8 e).toArray.size = 8 := rfl
 rw [h8, List.toList_toArray, List.toList_toArray]
 induction E generalizing i with
 | nil => simp at hi
 | cons y E ih =>
  have hc : qaz (y :: E) = nd8 y ++ qaz E := rfl
  have hl : (nd8 y).length = 8 := rfl
  cases i with
  | zero =>
   rw [hc, List.set_cons_zero]
   show (nd8 y ++ qaz E).take 0 ++ nd8 e ++ (nd8 y ++ qaz E).drop 8 = nd8 e ++ qaz E
   rw [List.take_zero, List.nil_append, List.drop_append_of_le_length (by rw [hl]; exact Nat.le_refl _), show (nd8 y).drop 8 = [] from rfl, List.nil_append]
  | succ i =>
   have := ih i (by simpa using hi)
   rw [hc, List.set_cons_succ, show qaz (y :: E.set i e) = nd8 y ++ qaz (E.set i e) from rfl, ← this]
   rw [show (i + 1) * 8 = 8 + i * 8 by omega, show 8 + i * 8 + 8 = 8 + (i * 8 + 8) by omega]
   rw [List.take_append, List.drop_append, hl]
   have e1 : (nd8 y).take (8 + i * 8) = nd8 y := List.take_of_length_le (by rw [hl]; omega)
   have e2 : (nd8 y).drop (8 + (i * 8 + 8)) = [] := List.drop_eq_nil_of_le (by rw [hl]; omega)
   rw [e1, e2, List.nil_append, show 8 + i * 8 - 8 = i * 8 by omega, show 8 + (i * 8 + 8) - 8 = i * 8 + 8 by omega, List.append_assoc, List.append_assoc, List.append_assoc]
theorem ybem {α : Type} (l d : List α) (a m : Nat) (h : a + d.length ≤ m) (hm : m ≤ l.length) : (l.take a ++ d ++ l.drop (a + d.length)).take m = (l.take m).take a ++ d ++ (l.take m).drop (a + d.length) := by
 have e1 : (l.take m).take a = l.take a := by rw [List.take_take, Nat.min_eq_left (by omega)]
 rw [e1, List.append_assoc, List.take_append, List.take_append, List.length_take, Nat.min_eq_left (by omega)]
 rw [List.take_of_length_le (by rw [List.length_take]; omega), List.take_of_length_le (l := d) (by omega), List.append_assoc]
 congr 2
 rw [List.drop_take]
 congr 1
 omega
set_option maxRecDepth 100000 in
theorem ybhc {w : World} {B : Nat} {F T : Nat → Prop} {gt : Nat} {fp : Value} {x : Tx} (h : TxAt w B F gt fp x T) (i : Nat) (hi : i < 32) (X : Pn) (q : Option Addr) (n c : Nat) (hX : ybcf (fun i => F i ∨ T i) X w q n c) (hd : x.dirty.length < 900) :
  Calls Tryz.prog 53 #[.pointer (some ⟨gt, 0, none⟩), .int .i64 ((i : Int) + 1), .agg #[.int .i64 X.k, .int .i64 X.m, .int .i64 X.u, .int .i64 X.g, .int .i64 X.s, .int .i64 X.l, .int .i64 X.up, .slice q n c]] w
   (fun e w' => e = .returned (.tuple #[]) ∧ qec B F gt fp { x with nodes := x.nodes.set i X, dirty := putZ x.dirty ((i : Int) + 1) (.bool true) } T w w') := by
 have H := Lib.hid h
 obtain ⟨⟨rv, gn, cn, gd, gp, gv, E, pl, h1, h2, h3, h4, h5, h6, h7, h8, h9, h10, h11, h12, h13⟩, a1, a2, a3, a4, a5, a6, a7, a8, a9⟩ := h
 have HLI : Hid (qbs w B F T gt fp x rv gn cn gd gp gv E pl) := ⟨h1, h2, h3, h4, h5, h6, h7, h8, h9, h10, h11, h12, h13⟩
 obtain ⟨c0, c193, c194, c195, c196, c197, c198, c199⟩ := qcp h1
 have hEL : E.length = 32 := by rw [h4.1]; exact a2
 have hgtl : gt < w.heap.size := qab h1
 have hgtn : ¬ gt = w.heap.size := by omega
 have i1 : IntKind.i64.wrap ((i : Int) + 1 - 1) = (i : Int) := by rw [IntWalk.i64_in _ (by omega)]; omega
 obtain ⟨_, ⟨hv, _⟩ | ⟨gn', cp', cur, hv, hgB, hh, hcap, hmax, hsz, htk⟩⟩ := id h3
 ·cases hv
 injection hv with e1 _ e2
 injection e1 with e1
 injection e1 with e1
 subst e1 e2
 have HN := Lib.hid hh
 have HCU : Hid (cur.size = cn * 8 ∧ 32 ≤ cn) := ⟨hsz, hcap⟩
 have HNE : Hid (gt ≠ gn) := qao h1 hh (by decide)
 have HROW := Lib.hid h1
 have HDY := Lib.hid h5
 clear h1 h2 h3 h4 h5 h6 h7 h9 h10 h11 h12 h13 htk hsz hmax hcap a1 a2 a3 a4 a5 a6 a7 a8 a9
 go_enter Tryz.func53, Tryz.ntmps53
 go_wp2_with fail
 have hbx := heap_alloc_new w (.cells #[.int .i64 X.k, .int .i64 X.m, .int .i64 X.u, .int .i64 X.g, .int .i64 X.s, .int .i64 X.l, .int .i64 X.up, .slice q n c] 103)
 have HBX := Lib.hid hbx
 have HB1 : Hid (Below w.heap.size w (w.alloc (.cells #[.int .i64 X.k, .int .i64 X.m, .int .i64 X.u, .int .i64 X.g, .int .i64 X.s, .int .i64 X.l, .int .i64 X.up, .slice q n c] 103))) := (Below.refl _ _).alloc (Nat.le_refl _) _
 have d194 := (HB1.out.cell (p := ⟨gt, 194, none⟩) hgtl).trans c194
 clear hbx
 generalize w.alloc (.cells #[.int .i64 X.k, .int .i64 X.m, .int .i64 X.u, .int .i64 X.g, .int .i64 X.s, .int .i64 X.l, .int .i64 X.up, .slice q n c] 103) = w1 at *
 have k194 := cell_regrown d194
 refine qds 8 (by kernel_rfl) (by kernel_rfl) ?_
 simp only [List.take_succ_cons, List.take_zero, List.drop_succ_cons, List.drop_zero]
 repeat (first
  | go_big_quiet_skip
  | (refine qjh rfl 103 (.tmp 5) rfl w.heap.size rfl 103 #[.int .i64 X.k, .int .i64 X.m, .int .i64 X.u, .int .i64 X.g, .int .i64 X.s, .int .i64 X.l, .int .i64 X.up, .slice q n c] (0, 0) _ (fun _ hw => qkr hw HBX.out) Tryz.underlying103 rfl ybiw ?_; simp only [Act.put, List.setIfInBounds_toArray, List.set_cons_zero, List.set_cons_succ])
  | (go_big_quiet_want; go_big_quiet_op; go_big_quiet_on))
 refine wpQuiet_nil ?_
 intro w2 hw2
 have hb2 := Below.step HB1.out (qaq hw2)
 obtain ⟨e, He⟩ : ∃ e : Nd, Hid (e = ⟨X.k, X.m, X.u, X.g, X.s, X.l, X.up, q, n, c⟩) := ⟨_, rfl⟩
 obtain ⟨cur2, HC2⟩ : ∃ cu : Array Value, Hid ((cur.toList.take (i * 8) ++ (#[.int .i64 X.k, .int .i64 X.m, .int .i64 X.u, .int .i64 X.g, .int .i64 X.s, .int .i64 X.l, .int .i64 X.up, .slice q n c] : Array Value).toList ++ cur.toList.drop (i * 8 + 8)).toArray = cu) := ⟨_, rfl⟩
 have HN2 : Hid (w2.heap[gn]? = some (.cells cur 103 (0, 0))) := qaa hb2 HN.out
 have HSZ : Hid (cur.size = cn * 8 ∧ 32 ≤ cn) := HCU.out
 have hgg : gt ≠ gn := HNE.out
 have H1r := Lib.hid (qaa hb2 HROW.out)
 have d195 : (w2.setRow gn cur2).cell? ⟨gt, 195, none⟩ = some (.map (some gd)) := (World.cell?_of_block (setRow_other w2 gn gt cur2 hgg)).trans (qcp H1r.out).2.2.2.1
 have HD2 : Hid (MapL Tryz.prog 3 (w2.setRow gn cur2) gd x.dirty) := (HDY.out.of_block (hb2.block _ HDY.out.lt)).of_block (setRow_other w2 gn gd cur2 (fun hc => by
  have h1 := HDY.out.of_block (hb2.block _ HDY.out.lt)
  obtain ⟨⟨es, clock, h2, _⟩, _⟩ := h1
  rw [hc, HN2.out] at h2
  injection h2 with h2
  cases h2))
 clear k194 d194
 go_wp2_with (first
  | (refine qfi rfl 103 (.tmp 13) (.tmp 12) rfl gn (i * 8) #[.int .i64 X.k, .int .i64 X.m, .int .i64 X.u, .int .i64 X.g, .int .i64 X.s, .int .i64 X.l, .int .i64 X.up, .slice q n c] rfl rfl 103 cur cur2 HN2.out ybiw (by have := HSZ.out; show i * 8 + 8 ≤ cur.size; omega) (qkb _ _ _ _ _ _ _ _ rfl) HC2.out ?_)
  | (at_mapUpdate; refine qho _ rfl _ _ _ _ rfl 3 4 intT qpw gd x.dirty ((i : Int) + 1) (.bool true) rfl HD2.out (by omega) rfl rfl (by unfold InZ; omega) ?_; intro w4 hm4 ht4))
 go_end0
 have HL := H.out
 have hLL : qbs w B F T gt fp x rv gn cn gd gp gv E pl := HLI.out
 have hk2 : qac T w w2 := qac.of_below hb2
 have hk3 : qac T w (w2.setRow gn cur2) := hk2.step (qac.setRow hLL.tn _)
 have hk4 : qac T w w4 := hk3.step (qac.grown ht4.grown (fun r hr => by injection hr with hr; rw [← hr]; exact hLL.td))
 have hbl : ∀ b, b < w.heap.size → b ≠ gn → b ≠ gd → w4.heap[b]? = w.heap[b]? := fun b hb h1 h2 =>
  (ht4.grown.block b (by simp; exact Nat.lt_of_lt_of_le hb hb2.size) (by intro hc; injection hc with hc; exact h2 hc)).trans ((setRow_other w2 gn b cur2 h1).trans (hb2.block b hb))
 have hgd4 : w4.heap[gn]? = some (.cells cur2 103 (0, 0)) := by
  have h1 : (w2.setRow gn cur2).heap[gn]? = some (.cells cur2 103 (0, 0)) := setRow_heap _ _ _ _ _ _ HN2.out
  exact (ht4.grown.block gn (qab h1) (by intro hc; injection hc with hc; exact qai h1 HD2.out hc)).trans h1
 obtain ⟨cu, q1, q2, q3, q4, q5, q6⟩ := hLL.block
 have hcu : cu = cur := by rw [HN.out] at q1; injection q1 with q1; injection q1 with q1; exact q1.symm
 subst hcu
 have hEL : E.length = 32 := by rw [hLL.nds.1]; exact HL.len
 have hl8 : (nd8 ⟨X.k, X.m, X.u, X.g, X.s, X.l, X.up, q, n, c⟩).length = 8 := rfl
 have htk : cur2.toList.take 256 = qaz (E.set i ⟨X.k, X.m, X.u, X.g, X.s, X.l, X.up, q, n, c⟩) := by
  rw [← HC2.out]
  have h1 := ybem cu.toList (nd8 ⟨X.k, X.m, X.u, X.g, X.s, X.l, X.up, q, n, c⟩) (i * 8) 256 (by rw [hl8]; omega) (by simp only [Array.length_toList]; omega)
  rw [hl8] at h1
  show (cu.toList.take (i * 8) ++ nd8 ⟨X.k, X.m, X.u, X.g, X.s, X.l, X.up, q, n, c⟩ ++ cu.toList.drop (i * 8 + 8)).take 256 = _
  rw [h1, q5]
  have h2 := ybnr E i (by omega) ⟨X.k, X.m, X.u, X.g, X.s, X.l, X.up, q, n, c⟩
  have h3 := congrArg Array.toList h2
  rw [List.toList_toArray, List.toList_toArray] at h3
  exact h3
 have hcs : cur2.size = cn * 8 := by
  rw [← HC2.out]
  simp only [List.size_toArray, List.length_append, List.length_take, List.length_drop, Array.length_toList, List.length_cons, List.length_nil]
  omega
 refine ⟨rfl, T, qbs.at (rv := rv) (gn := gn) (cn := cn) (gd := gd) (gp := gp) (gv := gv) (E := E.set i ⟨X.k, X.m, X.u, X.g, X.s, X.l, X.up, q, n, c⟩) (pl := pl) ⟨?_, ybbo hLL.rows hk4 (fun _ hi => Or.inl hi), ?_, ?_, hm4, ?_, ?_, hLL.ne, ?_, hLL.tn, hLL.td, hLL.tp, hLL.tg⟩ HL.self (by simpa using HL.len) (fun i hi => Nat.lt_of_lt_of_le (HL.fin i hi) hk4.size) HL.new HL.gone HL.put ?_ HL.rows HL.fake, fun _ hi => Or.inl hi, hk4, fun _ hi => hi⟩
 ·exact (hbl gt (qab hLL.row) hgg (qai hLL.row hLL.dirt)).trans hLL.row
 ·refine ⟨by rw [ybit, List.length_set, hEL], Or.inr ⟨gn, cn, cur2, rfl, q6, hgd4, q3, q4, hcs, htk⟩⟩
 ·refine qbr.set (ybkb hLL.nds hk4 (fun _ hi => Or.inl hi)) ⟨rfl, rfl, rfl, rfl, rfl, rfl, rfl, ?_⟩ i
  exact ybbo hX hk4 (fun _ hi => Or.inl hi)
 ·exact hLL.puts.of_block (hbl gp hLL.puts.lt (Ne.symm (qai q1 hLL.puts)) (Ne.symm hLL.ne))
 ·exact hLL.secs.keep fun g cc _ hc => hbl g (qab hc) (qao hc q1 (by decide)) (qai hc hLL.dirt)
 ·refine qav hLL.gone fun b hb => hbl b (hLL.gone.lt b hb).2 ?_ ?_
  ·exact qbb hLL.gone q1 (by decide) b hb
  ·obtain ⟨_, ⟨hv, _⟩ | ⟨g, c1, cu1, hv, _, hh1, _⟩⟩ := id hLL.gone
   ·rw [hv] at hb; cases hb
   ·rw [hv] at hb
    injection hb with hb
    rw [← hb]
    exact qai hh1 hLL.dirt
 ·exact Nat.le_trans (qeq _ _ _) (by omega)
end Go.Proofs.YtpoglnpjadmbpaaGreatDoor
namespace Go.Proofs.YtpoglnpjadmbpaaGreatDoor
open Go.RowKit
theorem qbs.putHas {w w' : World} {B : Nat} {F T : Nat → Prop} {gt : Nat} {fp : Value} {x : Tx} {rv : Value} {gn cn gd gp : Nat} {gv : Value} {E : List Nd} {pl : List (Int × Value)} (h : qbs w B F T gt fp x rv gn cn gd gp gv E pl) (hx : TxAt w B F gt fp x T) (fo : Fo)
  (hk : qac (fun i => i = gt) w w') (hr : w'.heap[gt]? = some (.cells (txR fp fo rv (.slice (some ⟨gn, 0, none⟩) 32 cn) (.map (some gd)) (.map (some gp)) gv x.full x.fake) 114 (0, 0))) : qec B F gt fp { x with fo := fo } T w w' := by
 have hkT : qac T w w' := hk.mono fun i _ hi => by rw [hi]; exact hx.self
 have hb : ∀ b, b < w.heap.size → b ≠ gt → w'.heap[b]? = w.heap[b]? := fun b h1 h2 => hk.block b h1 h2
 obtain ⟨cu, q1, q2, q3, q4, q5, q6⟩ := h.block
 refine ⟨T, qbs.at (x := { x with fo := fo }) (rv := rv) (gn := gn) (cn := cn) (gd := gd) (gp := gp) (gv := gv) (E := E) (pl := pl) ⟨hr, ybbo h.rows hkT (fun _ hi => Or.inl hi), ?_, ybkb h.nds hkT (fun _ hi => Or.inl hi), ?_, ?_, ?_, h.ne, ?_, h.tn, h.td, h.tp, h.tg⟩ hx.self hx.len (fun i hi => Nat.lt_of_lt_of_le (hx.fin i hi) hk.size) hx.new hx.gone hx.put hx.dirty hx.rows hx.fake, fun _ hi => Or.inl hi, hkT, fun _ hi => hi⟩
 ·exact qav h.own fun b hb2 => hb b (h.own.lt b hb2).2 (qbb h.own h.row (by decide) b hb2)
 ·exact h.dirt.of_block (hb gd h.dirt.lt (Ne.symm (qai h.row h.dirt)))
 ·exact h.puts.of_block (hb gp h.puts.lt (Ne.symm (qai h.row h.puts)))
 ·exact h.secs.keep fun g cc _ hc => hb g (qab hc) (qao hc h.row (by decide))
 ·exact qav h.gone fun b hb2 => hb b (h.gone.lt b hb2).2 (qbb h.gone h.row (by decide) b hb2)
def ybfn (f : Fo) (k n : Nat) : Prop := 37 ≤ n ∧ n < k ∧ qfb f 4 n = false ∧ ∀ m, 37 ≤ m → m < n → qfb f 4 m = true
def useF (f : Fo) (n : Nat) : Fo := hasF f (ins (f.hs 0) n)
set_option maxRecDepth 100000 in
theorem ybuy {w : World} {B : Nat} {F F1 T : Nat → Prop} {gt gf : Nat} {x : Tx} {s : Fs} {a : Addr} {B0 : Nat} (h : TxAt w B F gt (.pointer (some ⟨gf, 0, none⟩)) x T) (hf : FsAt w gf s F1 B0 a) (n : Nat) (hn : ybfn x.fo s.k n) :
  Calls Tryz.prog 138 #[.pointer (some ⟨gt, 0, none⟩)] w
   (fun e w' => e = .returned (.int .i64 (n : Int)) ∧ qec B F gt (.pointer (some ⟨gf, 0, none⟩)) { x with fo := useF x.fo n } T w w') := by
 have H := Lib.hid h
 obtain ⟨rv, gn, cn, gd, gp, gv, E, pl, hl⟩ := h.lies
 have HL := Lib.hid hl
 obtain ⟨⟨gl, rv', nv', bt, bh, E', tl, FD, f1, f2, _⟩, _, _, _, _, k0, k1, _⟩ := hf
 have HK : Hid (64 ≤ s.k ∧ s.k ≤ 256) := ⟨k0, k1⟩
 obtain ⟨c0, _⟩ := qcp hl.row
 have d0 : w.cell? ⟨gf, 0, none⟩ = some (.pointer (some a)) := (cell_of_row _ _ 0 _ _ _ f1).trans (qir _ _ _ _ _ _ _ 0 (by omega))
 have HD := Lib.hid f2
 have k0' := cell_regrown c0
 have k1' := cell_regrown d0
 obtain ⟨A, HA⟩ : ∃ A, Hid (A = encF x.fo) := ⟨_, rfl⟩
 have HAS : Hid (A.size = 192) := by rw [HA.out]; exact qaj _
 obtain ⟨S, HS⟩ : ∃ S, Hid (S = enc (qfb x.fo 4)) := ⟨_, rfl⟩
 have HTK : Hid (∀ W : World, Calls Tryz.prog 171 #[.agg A] W fun e w' => e = .returned (.agg S) ∧ Below W.heap.size W w') := fun W => by rw [HA.out, HS.out]; exact ybps x.fo W
 have HFI : Hid (∀ W : World, Calls Tryz.prog 172 #[.agg S, .int .i64 37, .int .i64 (s.k : Int)] W fun e w' => e = .returned (.tuple #[.int .i64 n, .int .i64 0]) ∧ Below W.heap.size W w') := fun W => by
  rw [HS.out]
  have := HK.out
  exact ybhz (qfb x.fo 4) 37 s.k n W (by omega) (by omega) (by omega) (by omega) (by have := hn.1; omega) (by have := hn.2.1; omega) (by have := hn.2.1; omega) hn.2.2.1 (fun m h1 h2 => hn.2.2.2 m (by omega) h2)
 obtain ⟨R, HR⟩ : ∃ R, Hid (txR (.pointer (some ⟨gf, 0, none⟩)) x.fo rv (.slice (some ⟨gn, 0, none⟩) 32 cn) (.map (some gd)) (.map (some gp)) gv x.full x.fake = R) := ⟨_, rfl⟩
 have HRS : Hid (R.size = 200) := by show _ = _; rw [← HR.out]; exact qgl _ _ _ _ _ _ _ _ _
 have HRP : Hid (∀ j, j < A.size → R[1 + j]? = A[j]?) := by rw [← HR.out, HA.out]; exact qtk _ _ _ _ _ _ _ _ _
 obtain ⟨S0, HS0⟩ : ∃ S, Hid (S = enc (x.fo.hs 0)) := ⟨_, rfl⟩
 have HS0S : Hid (S0.size = 32) := by rw [HS0.out]; exact qax _
 have HSP : Hid (∀ j, j < S0.size → R[17 + j]? = S0[j]?) := by rw [← HR.out, HS0.out]; exact ybpx _ _ _ _ _ _ _ _ _
 obtain ⟨S1, HS1⟩ : ∃ S, Hid (S = enc (ins (x.fo.hs 0) n)) := ⟨_, rfl⟩
 have HS1S : Hid (S1.size = 32) := by rw [HS1.out]; exact qax _
 have HS11 : Hid (S1.all (·.oneCell') = true) := by rw [HS1.out]; exact qip _
 have HWI : Hid (∀ W : World, Calls Tryz.prog 75 #[.agg S0, .int .i64 (n : Int)] W fun e w' => e = .returned (.agg S1) ∧ Below W.heap.size W w') := fun W => by
  have := yber (x.fo.hs 0) (n : Int) W (by omega) (by have := hn.2.1; have := HK.out; omega)
  rw [Int.toNat_natCast] at this
  rw [HS0.out, HS1.out]
  exact this
 obtain ⟨R1, HR1⟩ : ∃ R1, Hid (txR (.pointer (some ⟨gf, 0, none⟩)) (useF x.fo n) rv (.slice (some ⟨gn, 0, none⟩) 32 cn) (.map (some gd)) (.map (some gp)) gv x.full x.fake = R1) := ⟨_, rfl⟩
 have HPB : Hid ((R.toList.take 17 ++ S1.toList ++ R.toList.drop (17 + S1.size)).toArray = R1) := by rw [← HR.out, HS1.out, ← HR1.out]; exact qvw _ _ _ _ _ _ _ _ _ _
 have hrow := hl.row
 rw [HR.out] at hrow
 have HROW := Lib.hid hrow
 clear h hl f1 f2 k0 k1 hn c0 d0 hrow
 go_enter Tryz.func138, Tryz.ntmps138
 go_wp2_with fail
 refine wp_region_quiet_below (by kernel_rfl) (by kernel_rfl) ?_
 repeat (first
  | go_big_quiet_skip
  | (refine qij rfl 80 (.tmp 8) rfl gt 1 rfl 114 R A (0, 0) _ (fun _ hw => qkr hw HROW.out) HRP.out forT rfl (by rw [HAS.out]; exact forI) ?_; simp only [Act.put, List.setIfInBounds_toArray, List.set_cons_zero, List.set_cons_succ])
  | (refine qbh 171 #[.tmp 9] #[80] rfl rfl (fun _ _ => by kernel_rfl) #[.agg A] (by kernel_rfl) (.agg S) (fun _ _ => qbu) (fun w' _ => HTK.out w') ?_; simp only [Act.put, List.setIfInBounds_toArray, List.set_cons_zero, List.set_cons_succ])
  | (refine qbh 41 #[.tmp 17] #[25] rfl rfl (fun _ _ => by kernel_rfl) #[.pointer (some a)] (by kernel_rfl) (.int .i64 (s.k : Int)) (fun _ _ => qbu) (fun w' hw => (qfz (HD.out.below (qaq hw))).mono fun e w2 ⟨he, hw2⟩ => ⟨he, hw2 ▸ Below.refl _ _⟩) ?_; simp only [Act.put, List.setIfInBounds_toArray, List.set_cons_zero, List.set_cons_succ])
  | (refine qbh 172 #[.tmp 10, .const (.int .i64 37), .tmp 18] #[76, 3, 3] rfl rfl (fun _ _ => by kernel_rfl) #[.agg S, .int .i64 37, .int .i64 (s.k : Int)] (by kernel_rfl) (.tuple #[.int .i64 n, .int .i64 0]) (fun _ _ => qbu) (fun w' _ => HFI.out w') ?_; simp only [Act.put, List.setIfInBounds_toArray, List.set_cons_zero, List.set_cons_succ])
  | (go_big_quiet_want; go_big_quiet_op; go_big_quiet_on))
 refine wpQuiet_nil ?_
 intro w1 hw1
 have HB1 := Lib.hid (qaq hw1)
 have HROW1 := Lib.hid (qaa HB1.out HROW.out)
 clear k0' k1' hw1
 go_wp2_with fail
 refine qds 13 (by kernel_rfl) (by kernel_rfl) ?_
 simp only [List.take_succ_cons, List.take_zero, List.drop_succ_cons, List.drop_zero]
 repeat (first
  | go_big_quiet_skip
  | (refine qij rfl 76 (.tmp 43) rfl gt 17 rfl 114 R S0 (0, 0) _ (fun _ hw => qkr hw HROW1.out) HSP.out setT rfl (by rw [HS0S.out]; exact setI) ?_; simp only [Act.put, List.setIfInBounds_toArray, List.set_cons_zero, List.set_cons_succ])
  | (refine qbh 75 #[.tmp 44, .tmp 45] #[76, 3] rfl rfl (fun _ _ => by kernel_rfl) #[.agg S0, .int .i64 n] (by kernel_rfl) (.agg S1) (fun _ _ => qbu) (fun w' _ => HWI.out w') ?_; simp only [Act.put, List.setIfInBounds_toArray, List.set_cons_zero, List.set_cons_succ])
  | (go_big_quiet_want; go_big_quiet_op; go_big_quiet_on))
 refine wpQuiet_nil ?_
 intro w2 hw2
 have HB2 := Lib.hid (Below.step HB1.out (qaq hw2))
 have HROW2 := Lib.hid (qaa (qaq hw2) HROW1.out)
 clear hw2
 go_wp2_with (refine qfi rfl 76 (.tmp 50) (.tmp 46) rfl gt 17 S1 rfl rfl 114 R R1 HROW2.out (by rw [HS1S.out]; exact setI) (by rw [HS1S.out, HRS.out]; omega) HS11.out HPB.out ?_)
 go_ret
 refine ⟨rfl, HL.out.putHas H.out (useF x.fo n) ((qac.of_below HB2.out).step (qac.setRow (F := fun i => i = gt) rfl _)) ?_⟩
 rw [HR1.out]
 exact setRow_heap _ _ _ _ _ _ HROW2.out
theorem ybek {f : Fo} (h : ∀ k, 1 ≤ k → k < 4 → qbd f k = false) (p : Nat) : qdf f 4 p = false := by
 rw [ybjv, h 1 (by omega) (by omega), h 2 (by omega) (by omega), h 3 (by omega) (by omega)]; rfl
set_option maxRecDepth 100000 in
theorem ybzf {w : World} {B : Nat} {F F1 T : Nat → Prop} {gt gf : Nat} {x : Tx} {s : Fs} {a : Addr} {B0 : Nat} (h : TxAt w B F gt (.pointer (some ⟨gf, 0, none⟩)) x T) (hf : FsAt w gf s F1 B0 a) (n : Nat) (hn : ybfn x.fo s.k n) :
  Calls Tryz.prog 93 #[.pointer (some ⟨gt, 0, none⟩), .int .i64 0] w
   (fun e w' => e = .returned (.int .i64 (n : Int)) ∧ qec B F gt (.pointer (some ⟨gf, 0, none⟩)) { x with fo := useF x.fo n } T w w') := by
 have HC := Lib.hid (ybuy h hf n hn)
 clear h hf hn
 go_enter Tryz.func93, Tryz.ntmps93
 go_wp2_with fail
 refine HC.out.mono ?_
 rintro e w' ⟨rfl, h2⟩
 have H2 := Lib.hid h2
 clear h2
 go_wp2
 go_ret
 exact ⟨rfl, H2.out⟩
set_option maxRecDepth 100000 in
theorem ybqa {w : World} {B : Nat} {F T : Nat → Prop} {gt : Nat} {fp : Value} {x : Tx} (h : TxAt w B F gt fp x T) (p : Nat) (hp : 0 < p) (hp2 : p < 256) (hs : ∀ k, 1 ≤ k → k < 4 → qbd x.fo k = false) :
  Calls Tryz.prog 93 #[.pointer (some ⟨gt, 0, none⟩), .int .i64 (p : Int)] w
   (fun e w' => e = .returned (.int .i64 (p : Int)) ∧ Below w.heap.size w w') := by
 obtain ⟨rv, gn, cn, gd, gp, gv, E, pl, hl⟩ := h.lies
 obtain ⟨A, HA⟩ : ∃ A, Hid (A = encF x.fo) := ⟨_, rfl⟩
 have HAS : Hid (A.size = 192) := by rw [HA.out]; exact qaj _
 have HSH : Hid (∀ W : World, Calls Tryz.prog 139 #[.agg A, .int .i64 (p : Int)] W fun e w' => e = .returned (.bool false) ∧ Below W.heap.size W w') := fun W => by
  have := ybpg x.fo p hp2 W
  rw [ybek hs p] at this
  rw [HA.out]
  exact this
 obtain ⟨R, HR⟩ : ∃ R, Hid (txR fp x.fo rv (.slice (some ⟨gn, 0, none⟩) 32 cn) (.map (some gd)) (.map (some gp)) gv x.full x.fake = R) := ⟨_, rfl⟩
 have HRP : Hid (∀ j, j < A.size → R[1 + j]? = A[j]?) := by rw [← HR.out, HA.out]; exact qtk _ _ _ _ _ _ _ _ _
 have hrow := hl.row
 rw [HR.out] at hrow
 have HROW := Lib.hid hrow
 have b0 : (p == 0) = false := by simp; omega
 have b1 : ((p : Int) == 0) = false := by simp; omega
 have b2 : ¬ p = 0 := by omega
 clear h hl hs hrow
 go_enter Tryz.func93, Tryz.ntmps93
 go_wp2_with (refine qat (by kernel_rfl) 80 (.tmp 11) rfl gt 1 rfl 114 R A (0, 0) _ HROW.out HRP.out forT rfl (by rw [HAS.out]; exact forI) ?_)
 refine (HSH.out w).mono ?_
 rintro e w' ⟨rfl, hb⟩
 have HB := Lib.hid hb
 clear hb
 go_wp2
 go_ret
 exact ⟨rfl, HB.out⟩
end Go.Proofs.YtpoglnpjadmbpaaGreatDoor
