/- Part of the proofs of CheckFresh, FsCut, FsHoles: the texts FsG, FsH, Fs8, FsI, FsJ, FsE. -/
import Derived.Test.YtpoglnpjadmbpaaGreatDoorMA40
set_option maxHeartbeats 16000000
namespace Go.Proofs.YtpoglnpjadmbpaaGreatDoor
open Go.RowKit
def qbe (n : Nat) : Fo := ⟨fun t i => if t = 0 ∧ i < n then ((37 + i : Nat) : Int) else 0, fun t p => decide (t = 0) && decide (37 ≤ p) && decide (p < 37 + n)⟩
def qgb (n : Nat) : Fo := ⟨(qbe (n + 1)).nd, (qbe n).hs⟩
theorem ybvu {f g : Fo} (h1 : ∀ t i, f.nd t i = g.nd t i) (h2 : ∀ t p, f.hs t p = g.hs t p) : f = g := by
 cases f; cases g
 congr 1
 ·funext t i; exact h1 t i
 ·funext t p; exact h2 t p
theorem ybiv : qbe 0 = qil := by
 refine ybvu (fun t i => ?_) (fun t p => ?_)
 ·show (if t = 0 ∧ i < 0 then _ else (0 : Int)) = _
  rw [if_neg (by omega)]
  rfl
 ·show (decide (t = 0) && decide (37 ≤ p) && decide (p < 37 + 0)) = _
  have : (decide (37 ≤ p) && decide (p < 37 + 0)) = false := by
   by_cases h : 37 ≤ p
   ·simp [h] <;> omega
   ·simp [h]
  rw [Bool.and_assoc, this, Bool.and_false]
  rfl
theorem ybtm (n t j : Nat) (h : ¬ (t = 0 ∧ j = n)) : (qbe n).nd t j = (qgb n).nd t j := by
 unfold qbe qgb
 dsimp only [qbe]
 by_cases h3 : t = 0 ∧ j < n
 ·rw [if_pos h3, if_pos ⟨h3.1, by omega⟩]
 ·rw [if_neg h3, if_neg (by omega)]
theorem ybns (n : Nat) : (qgb n).hs = (qbe n).hs := rfl
set_option maxRecDepth 100000 in
theorem ybhs (n : Nat) (hn : n < 16) : (encF (qbe n)).setIfInBounds n (.int .i64 ((37 + n : Nat) : Int)) = encF (qgb n) := by
 apply Array.ext_getElem?
 intro i
 rw [Array.getElem?_setIfInBounds, qaj]
 by_cases hi : n = i
 ·subst hi
  rw [if_pos rfl, if_pos (by omega)]
  have h1 := qcb (qgb n) 0 n (by omega) (by omega)
  rw [Nat.zero_mul, Nat.zero_add] at h1
  rw [h1]
  unfold qdd
  rw [if_pos hn]
  show _ = some (Value.int .i64 (if 0 = 0 ∧ n < n + 1 then _ else _))
  rw [if_pos ⟨rfl, by omega⟩]
 ·rw [if_neg hi]
  by_cases hl : i < 192
  ·have h1 := qcb (qbe n) (i / 48) (i % 48) (by omega) (by omega)
   have h2 := qcb (qgb n) (i / 48) (i % 48) (by omega) (by omega)
   rw [show i / 48 * 48 + i % 48 = i by omega] at h1 h2
   rw [h1, h2]
   unfold qdd
   by_cases hj : i % 48 < 16
   ·rw [if_pos hj, if_pos hj]
    rw [ybtm n (i / 48) (i % 48) (by omega)]
   ·rw [if_neg hj, if_neg hj, ybns]
  ·rw [Array.getElem?_eq_none (by rw [qaj]; omega), Array.getElem?_eq_none (by rw [qaj]; omega)]
def hasG (f : Fo) (s : Nat → Bool) : Fo := ⟨f.nd, fun k => if k = 0 then s else f.hs k⟩
set_option maxRecDepth 100000 in
theorem ybcr (f : Fo) (s : Nat → Bool) : ((encF f).toList.take 16 ++ (enc s).toList ++ (encF f).toList.drop (16 + (enc s).size)).toArray = encF (hasG f s) := by
 apply Array.ext_getElem?
 intro i
 have hs : (enc s).toList.length = 32 := by simpa using qax s
 have hl : (encF f).toList.length = 192 := by simpa using qaj f
 have hg : ∀ j, (encF f).toList[j]? = (encF f)[j]? := fun j => Array.getElem?_toList
 rw [List.getElem?_toArray, qax]
 have hg2 : ∀ f : Fo, i < 192 → (encF f)[i]? = some (qdd f (i / 48) (i % 48)) := fun f hi => by
  have := qcb f (i / 48) (i % 48) (by omega) (by omega)
  rwa [show i / 48 * 48 + i % 48 = i by omega] at this
 by_cases h1 : i < 16
 ·rw [List.append_assoc, List.getElem?_append_left (by rw [List.length_take, hl]; omega), List.getElem?_take, if_pos h1, hg, hg2 _ (by omega), hg2 _ (by omega)]
  unfold qdd
  rw [if_pos (by omega), if_pos (by omega)]
  rfl
 ·by_cases h2 : i < 48
  ·rw [List.append_assoc, List.getElem?_append_right (by rw [List.length_take, hl]; omega), List.getElem?_append_left (by rw [List.length_take, hl, hs]; omega), List.length_take, hl, Array.getElem?_toList, qdi _ _ (by omega), hg2 _ (by omega)]
   unfold qdd
   rw [if_neg (by omega), show i / 48 = 0 by omega, show min 16 192 = 16 by omega, show i % 48 - 16 = i - 16 by omega]
   rfl
  ·rw [List.append_assoc, List.getElem?_append_right (by rw [List.length_take, hl]; omega), List.getElem?_append_right (by rw [List.length_take, hl, hs]; omega), List.getElem?_drop, List.length_take, hl, hs, hg]
   rw [show 16 + 32 + (i - min 16 192 - 32) = i by omega]
   by_cases h3 : i < 192
   ·rw [hg2 _ h3, hg2 _ h3]
    unfold qdd
    by_cases hj : i % 48 < 16
    ·rw [if_pos hj, if_pos hj]
     rfl
    ·rw [if_neg hj, if_neg hj]
     show _ = some (Value.int .u8 (qbt (if i / 48 = 0 then s else f.hs (i / 48)) (i % 48 - 16)))
     rw [if_neg (by omega)]
   ·rw [Array.getElem?_eq_none (by rw [qaj]; omega), Array.getElem?_eq_none (by rw [qaj]; omega)]
theorem ybiu (n : Nat) : hasG (qgb n) (ins ((qgb n).hs 0) (37 + n)) = qbe (n + 1) := by
 refine ybvu (fun t i => rfl) (fun t p => ?_)
 show (if t = 0 then ins ((qbe n).hs 0) (37 + n) else (qbe n).hs t) p = (qbe (n + 1)).hs t p
 by_cases ht : t = 0
 ·subst ht
  rw [if_pos rfl]
  unfold ins qbe
  dsimp only
  by_cases hp : p = 37 + n
  ·subst hp; simp
  ·have : decide (p < 37 + n) = decide (p < 37 + (n + 1)) := by
    by_cases h : p < 37 + n
    ·rw [decide_eq_true h, decide_eq_true (by omega)]
    ·rw [decide_eq_false h, decide_eq_false (by omega)]
   simp [hp, this]
 ·rw [if_neg ht]
  unfold qbe
  simp [ht]
def qdh : List Int := List.replicate 64 0
def zE (st : Dk) : Nat → Dk
 | 0 => st
 | j + 1 => qcc (zE st j) j qdh
def fE (st : Dk) (b : List Int) : Nat → Dk
 | 0 => st
 | j + 1 => qcc (fE st b j) (1 + j) (sec b j)
def qif : List Int := qgv 2 493 0 0 0 1 1 [] ++ List.replicate 32 0
def fmtE (st : Dk) (k : Nat) : Dk := qfr (qcc (qcc (fE (zE st k) (qbv (qbe 16)) 3) 37 qif) 0 (qfs k))
theorem zE_W (st : Dk) : ∀ j, (zE st j).W.length ≤ st.W.length + j
 | 0 => Nat.le_refl _
 | j + 1 => by
  have h1 := qqn (zE st j) j qdh
  have h2 := zE_W st j
  show (qcc (zE st j) j qdh).W.length ≤ _
  omega
theorem fE_W (st : Dk) (b : List Int) : ∀ j, (fE st b j).W.length ≤ st.W.length + j
 | 0 => Nat.le_refl _
 | j + 1 => by
  have h1 := qqn (fE st b j) (1 + j) (sec b j)
  have h2 := fE_W st b j
  show (qcc (fE st b j) (1 + j) (sec b j)).W.length ≤ _
  omega
theorem ybdw : qbn (qbe 16) = 0 := by kernel_rfl
theorem ybjs : qal 2 493 0 0 0 1 1 [] = 0 := by kernel_rfl
theorem qnq : (qgv 2 493 0 0 0 1 1 []).length = 32 := by kernel_rfl
theorem qgy : qif.length = 64 := by unfold qif; rw [List.length_append, qnq, List.length_replicate]
theorem ybwf (n : Nat) : (Builtin.zeroCells #[.int .u8 0] n).toList = List.replicate n (Value.int .u8 0) := by
 apply List.ext_getElem
 ·simp [Builtin.zeroCells]
 ·intro i h1 h2
  simp [Builtin.zeroCells, Nat.mod_one]
theorem qsa {w : World} {F : Nat → Prop} {g n : Nat} {cur : Array Value} {t : TypeId} {D : List Int} (hg : w.heap[g]? = some (.cells cur t (0, 0))) (hn : ¬ F g) (hc : cur.toList.take n = u8s D) (hD : D.length = n) (o m c : Nat) (hm : o + m ≤ n) : ∀ w', qac F w w' → qae w' (.slice (some ⟨g, o, none⟩) m c) ((D.drop o).take m) := fun _w' hk =>
 ybwc (_base := 0) (_c := 0) hD ((hk.block g (qab hg) hn).trans hg) hc o m c hm
set_option maxRecDepth 100000 in
theorem ybma {w : World} {a : Addr} {st : Dk} {k : Nat} {F : Nat → Prop} (h : qay w (.pointer (some a)) st k F) (hk : 64 ≤ k) (hk2 : k ≤ 256) (hW : st.W.length ≤ 1000) :
  Calls Tryz.prog 29 #[.pointer (some a)] w (fun e w' => e = .returned (.int .i64 0) ∧ Did (.pointer (some a)) (fmtE st k) k F w w') := by
 have H := Lib.hid h
 have HF := Lib.hid h.fin
 have HSZ := Lib.hid (qfz h)
 have d1 : decide ((k : Int) < 64) = false := decide_eq_false (by omega)
 have d2 : ¬ ((k : Int) < 64) := by omega
 have d3 : ¬ (k < 64) := by omega
 obtain ⟨Z, HZ⟩ : ∃ Z, Hid (Z = List.replicate 64 (0 : Int)) := ⟨_, rfl⟩
 have HZL : Hid (Z.length = 64) := by show _ = _; rw [HZ.out]; simp
 have hmk : ∀ W : World, (Instr.makeSlice 38 (.int .i64 64) (.int .i64 64)).run Tryz.prog W = .ok (.slice (some ⟨W.heap.size, 0, none⟩) 64 64) (W.alloc (.cells (u8s Z).toArray 5)) := fun W => by
  rw [HZ.out]; exact qhl 64 64 rfl (by omega) W
 have HB1 : Hid (Below w.heap.size w (w.alloc (.cells (u8s Z).toArray 5))) := (Below.refl _ _).alloc (Nat.le_refl _) _
 have HR1 : Hid ((w.alloc (.cells (u8s Z).toArray 5)).heap[w.heap.size]? = some (.cells (u8s Z).toArray 5 (0, 0))) := heap_alloc_new _ _
 have HD1 := Lib.hid (h.below HB1.out)
 have HSZ1 := Lib.hid (qfz HD1.out)
 clear h
 go_enter Tryz.func29, Tryz.ntmps29
 go_wp2_with fail
 refine HSZ.out.mono ?_
 rintro e w' ⟨rfl, rfl⟩
 go_wp2_with fail
 refine HSZ1.out.mono ?_
 rintro e w1 ⟨rfl, rfl⟩
 obtain ⟨gz, Hgz⟩ : ∃ x, Hid (w.heap.size = x) := ⟨_, rfl⟩
 rw [Hgz.out] at HR1 ⊢
 have HSW : Hid (gz < (w.alloc (.cells (u8s Z).toArray 5)).heap.size) := qab HR1.out
 generalize w.alloc (.cells (u8s Z).toArray 5) = w1 at *
 go_wp2
 go_loopw [18] (fun iv wr => ∃ j : Nat, j ≤ k ∧ iv = .int .i64 j ∧ Hid (Did (.pointer (some a)) (zE st j) k F w1 wr)) (fun iv _ => k - (intOf iv).toNat)
 case atStart => exact ⟨0, by omega, rfl, ⟨F, HD1.out, fun _ hi => Or.inl hi, qac.refl _ _⟩⟩
 case round =>
  obtain ⟨j, hj, rfl, HDD⟩ := hrel
  obtain ⟨F1, y1, y2, y3⟩ := HDD.out
  have hgF : ¬ F1 gz := fun hc => by
   rcases y2 gz hc with h | h
   ·have := HF.out gz h; have := Hgz.out; omega
   ·have := HSW.out; omega
  have hgF0 : ¬ F gz := fun hc => by have := HF.out gz hc; have := Hgz.out; omega
  have hrz := (y3.block gz HSW.out hgF0).trans HR1.out
  by_cases hjk : j < k
  ·have hjk2 : (j : Int) < (k : Int) := by omega
   have hkb := qsa (n := 64) hrz hgF (by rw [List.toList_toArray, List.take_of_length_le (by rw [qak, HZL.out]; exact Nat.le_refl _)]) HZL.out 0 64 64 (by omega)
   rw [List.drop_zero, List.take_of_length_le (by rw [HZL.out]; exact Nat.le_refl _), HZ.out] at hkb
   have HWR := Lib.hid (qhk y1 j hjk (.slice (some ⟨gz, 0, none⟩) 64 64) qdh (by simp [qdh]) hkb (by have := zE_W st j; omega))
   have HY : Hid (qac F w1 wr ∧ ∀ i, F1 i → F i ∨ w1.heap.size ≤ i) := ⟨y3, y2⟩
   clear y1 y2 y3 hgF hgF0 hrz hkb
   go_wp2_with fail
   refine HWR.out.mono ?_
   rintro e w2 ⟨rfl, hd2⟩
   have HD2 : Hid (Did (.pointer (some a)) (zE st (j + 1)) k F w1 w2) := Did.trans HY.out.1 HY.out.2 hd2
   clear hd2
   go_wp2
   go_roundw
   case rel => exact ⟨j + 1, by omega, by go_num, HD2⟩
   case measure => simp [intOf]; omega
  ·obtain rfl : j = k := by omega
   have hjk2 : ¬ (j : Int) < (j : Int) := by omega
   obtain ⟨wa, HWA⟩ : ∃ x, x = wr := ⟨wr, rfl⟩
   subst HWA
   have HY : Hid (qay wa (.pointer (some a)) (zE st j) j F1 ∧ (∀ i, F1 i → F i ∨ w1.heap.size ≤ i) ∧ qac F w1 wa) := ⟨y1, y2, y3⟩
   obtain ⟨Z0, HZ0⟩ : ∃ Z, Hid (Z = encF qil) := ⟨_, rfl⟩
   have HZV : Hid (∀ w, (zeroValue 80).run Tryz.prog w = .ok (.agg Z0) w) := by rw [HZ0.out]; exact forZ
   have HB2 : Hid (Below wa.heap.size wa (wa.alloc (.cells Z0 80))) := (Below.refl _ _).alloc (Nat.le_refl _) _
   have HR2 : Hid ((wa.alloc (.cells Z0 80)).heap[wa.heap.size]? = some (.cells (encF (qbe 0)) 80 (0, 0))) := by
    show _ = _
    rw [ybiv, ← HZ0.out]
    exact heap_alloc_new _ _
   clear y1 y2 y3 hgF hgF0 hrz
   go_wp2_with (refine qbj rfl 80 rfl Z0 HZV.out ?_)
   obtain ⟨gF, HgF⟩ : ∃ x, Hid (wa.heap.size = x) := ⟨_, rfl⟩
   rw [HgF.out] at HR2 ⊢
   generalize wa.alloc (.cells Z0 80) = w2 at *
   have HYF : Hid ((∀ i, F1 i → i < gF) ∧ gF < w2.heap.size) := ⟨fun i hi => by rw [← HgF.out]; exact HY.out.1.fin i hi, qab HR2.out⟩
   go_wp2
   go_loopw [26] (fun iv wq => ∃ n : Nat, n ≤ 16 ∧ iv = .int .i64 n ∧ Hid (wq.heap[gF]? = some (.cells (encF (qbe n)) 80 (0, 0))) ∧ Hid (Below gF wa wq)) (fun iv _ => 16 - (intOf iv).toNat)
   case atStart => exact ⟨0, by omega, rfl, HR2.out, by show Below _ _ _; rw [← HgF.out]; exact HB2.out⟩
   case round =>
    obtain ⟨n, hn, rfl, HRN, HBN⟩ := hrel
    have hgFw : gF ≤ wr.heap.size := by have := qab HRN.out; omega
    by_cases hn16 : n < 16
    ·have hn16' : (n : Int) < 16 := by omega
     obtain ⟨R, HR⟩ : ∃ R, Hid (encF (qbe n) = R) := ⟨_, rfl⟩
     have HRS : Hid (R.size = 192) := by show _ = _; rw [← HR.out]; exact qaj _
     have hrn := HRN.out
     rw [HR.out] at hrn
     have cn : wr.cell? ⟨gF, n, none⟩ = some (R[n]'(by rw [HRS.out]; omega)) := (cell_of_row _ _ _ _ _ _ hrn).trans (Array.getElem?_eq_getElem _)
     have zn : wr.frozen? ⟨gF, n, none⟩ = false := frozen_of_row _ _ _ _ _ hrn
     obtain ⟨cv, Hcv⟩ : ∃ c, (R[n]'(by rw [HRS.out]; omega)) = c := ⟨_, rfl⟩
     rw [Hcv] at cn
     clear Hcv
     obtain ⟨R1, HR1'⟩ : ∃ R, Hid (encF (qgb n) = R) := ⟨_, rfl⟩
     have HS1 : Hid (R.setIfInBounds n (.int .i64 (37 + (n : Int))) = R1) := by
      show _ = _
      rw [← HR.out, ← HR1'.out, ← ybhs n hn16]
      congr 2
     have HRW1 : Hid ((wr.setCell ⟨gF, n, none⟩ (.int .i64 (37 + (n : Int)))).heap[gF]? = some (.cells R1 80 (0, 0))) := by
      show _ = _
      rw [← HS1.out]
      exact heap_setCell_same _ _ n _ _ _ hrn
     have HRS1 : Hid (R1.size = 192) := by show _ = _; rw [← HR1'.out]; exact qaj _
     obtain ⟨S0, HS0⟩ : ∃ S, Hid (S = enc ((qgb n).hs 0)) := ⟨_, rfl⟩
     have HS0S : Hid (S0.size = 32) := by rw [HS0.out]; exact qax _
     have HSP : Hid (∀ j, j < S0.size → R1[16 + j]? = S0[j]?) := by
      rw [← HR1'.out, HS0.out]
      have h2 : ∀ j, j < (enc ((qgb n).hs 0)).size → (encF (qgb n))[16 + j]? = (enc ((qgb n).hs 0))[j]? := by
       have := qnn (qgb n) 0 (by omega)
       simpa using this
      exact h2
     obtain ⟨S1, HS1'⟩ : ∃ S, Hid (S = enc (ins ((qgb n).hs 0) (37 + n))) := ⟨_, rfl⟩
     have HS1S : Hid (S1.size = 32) := by rw [HS1'.out]; exact qax _
     have HS11 : Hid (S1.all (·.oneCell') = true) := by rw [HS1'.out]; exact qip _
     have HWI : Hid (∀ W : World, Calls Tryz.prog 75 #[.agg S0, .int .i64 (37 + (n : Int))] W fun e w' => e = .returned (.agg S1) ∧ Below W.heap.size W w') := fun W => by
      have := yber ((qgb n).hs 0) (37 + (n : Int)) W (by omega) (by omega)
      rw [show (37 + (n : Int)).toNat = 37 + n by omega] at this
      rw [HS0.out, HS1'.out]
      exact this
     obtain ⟨R2, HR2'⟩ : ∃ R, Hid (encF (qbe (n + 1)) = R) := ⟨_, rfl⟩
     have HPB : Hid ((R1.toList.take 16 ++ S1.toList ++ R1.toList.drop (16 + S1.size)).toArray = R2) := by
      show _ = _
      rw [← HR1'.out, HS1'.out, ← HR2'.out, ← ybiu]
      exact ybcr _ _
     have HB3 : Hid (Below gF wa (wr.setCell ⟨gF, n, none⟩ (.int .i64 (37 + (n : Int))))) := HBN.out.setCell (p := ⟨gF, n, none⟩) (Nat.le_refl _) _
     clear hrn
     go_upto_region 14 with fail
     generalize wr.setCell ⟨gF, n, none⟩ (.int .i64 (37 + (n : Int))) = w3 at *
     go_wp2_with (refine qat (by kernel_rfl) 76 (.tmp 36) rfl gF 16 rfl 80 R1 S0 (0, 0) _ HRW1.out HSP.out setT rfl (by rw [HS0S.out]; exact setI) ?_)
     refine (HWI.out w3).mono ?_
     rintro e w4 ⟨rfl, hb4⟩
     have HRW4 := Lib.hid (qaa hb4 HRW1.out)
     have hgF3 : gF ≤ w3.heap.size := by have := qab HRW1.out; omega
     have HB4 : Hid (Below gF wa w4) := HB3.out.trans (hb4.mono hgF3)
     clear hb4
     have hcap : ∀ (Q : Exit → Act → World → Prop), True := fun _ => trivial
     go_wp2_with (refine qfi rfl 76 (.tmp 42) (.tmp 40) rfl gF 16 S1 rfl rfl 80 R1 R2 HRW4.out (by rw [HS1S.out]; exact setI) (by rw [HS1S.out, HRS1.out]; omega) HS11.out HPB.out ?_)
     have HRN5 : Hid ((w4.setRow gF R2).heap[gF]? = some (.cells (encF (qbe (n + 1))) 80 (0, 0))) := by
      show _ = _
      rw [HR2'.out]
      exact setRow_heap _ _ _ _ _ _ HRW4.out
     have HB5 : Hid (Below gF wa (w4.setRow gF R2)) := Below.setRow HB4.out (Nat.le_refl _) _
     go_wp2
     go_roundw
     case rel => exact ⟨n + 1, by omega, by go_num, HRN5, HB5⟩
     case measure => simp [intOf]; omega
    ·obtain rfl : n = 16 := by omega
     obtain ⟨R, HR⟩ : ∃ R, Hid (encF (qbe 16) = R) := ⟨_, rfl⟩
     have HRS : Hid (R.size = 192) := by show _ = _; rw [← HR.out]; exact qaj _
     have HRR : Hid (wr.heap[gF]? = some (.cells R 80 (0, 0))) := by rw [← HR.out]; exact HRN.out
     have HPK : Hid (Calls Tryz.prog 76 #[.agg R] wr (qmi (qbe 16) wr)) := by rw [← HR.out]; exact qow _ ybdw wr
     have HBa : Hid (Below wa.heap.size wa wr) := by show Below _ _ _; rw [HgF.out]; exact HBN.out
     go_wp2_with (refine wpList_load_row rfl 80 (.tmp 5) rfl gF rfl 80 R (0, 0) _ HRR.out forT rfl (by rw [HRS.out]; exact forI) ?_)
     refine HPK.out.mono ?_
     rintro e w5 ⟨v5, rfl, ho5, hb5⟩
     obtain ⟨_, ⟨_, h0⟩ | ⟨gP, cP, curP, rfl, hgP, hhP, hcP, _, _, htP⟩⟩ := id ho5
     ·omega
     have HB5 : Hid (Below wa.heap.size wa w5) := Below.step HBa.out hb5
     have HGP : Hid (w5.heap[gP]? = some (.cells curP 5 (0, 0)) ∧ curP.toList.take 192 = u8s (qbv (qbe 16)) ∧ 192 ≤ cP ∧ wa.heap.size ≤ gP) := ⟨hhP, by simpa using htP, hcP, Nat.le_trans HBa.out.size (by omega)⟩
     clear ho5 hb5 hgP hhP hcP htP
     have HPN := Lib.hid (qkz 2 493 0 0 0 1 1 (.slice none 0 0) [] w5 ⟨rfl, Or.inl ⟨rfl, _, _, rfl⟩⟩ ybjs)
     go_wp2_with fail
     refine HPN.out.mono ?_
     rintro e w6 ⟨gR, rfl, hgR, hhR, hb6⟩
     have HB6 : Hid (Below wa.heap.size wa w6) := Below.step HB5.out hb6
     have HGR : Hid (w6.heap[gR]? = some (.cells (byts (qgv 2 493 0 0 0 1 1 [])) 5 (0, 0)) ∧ wa.heap.size ≤ gR) := ⟨hhR, Nat.le_trans HB5.out.size hgR⟩
     have HGP6 := Lib.hid (qaa hb6 HGP.out.1)
     have HD6 := Lib.hid (HY.out.1.below HB6.out)
     clear hgR hhR hb6
     go_wp2
     go_loopw [60] (fun iv wq => ∃ n : Nat, n ≤ 3 ∧ iv = .int .i64 n ∧ Hid (Did (.pointer (some a)) (fE (zE st j) (qbv (qbe 16)) n) j F1 w6 wq)) (fun iv _ => 3 - (intOf iv).toNat)
     case atStart => exact ⟨0, by omega, rfl, ⟨F1, HD6.out, fun _ hi => Or.inl hi, qac.refl _ _⟩⟩
     case round =>
      obtain ⟨n, hn, rfl, HDN⟩ := hrel
      obtain ⟨F2, y1, y2, y3⟩ := HDN.out
      have HY2 : Hid ((∀ i, F2 i → F1 i ∨ w6.heap.size ≤ i) ∧ qac F1 w6 wr) := ⟨y2, y3⟩
      have hF1 : ∀ g, wa.heap.size ≤ g → ¬ F1 g := fun g hg hc => by have := HYF.out.1 g hc; have := HgF.out; omega
      have hF2 : ∀ g, wa.heap.size ≤ g → g < w6.heap.size → ¬ F2 g := fun g hg hg2 hc => (y2 g hc).elim (hF1 g hg) (fun h => by omega)
      have hrP := (y3.block gP (qab HGP6.out) (hF1 gP HGP.out.2.2.2)).trans HGP6.out
      by_cases hn3 : n < 3
      ·have hn3' : (n : Int) < 3 := by omega
       have hkb := qsa (n := 192) hrP (hF2 gP HGP.out.2.2.2 (qab HGP6.out)) HGP.out.2.1 (qgu _) (64 * n) 64 (cP - 64 * n) (by omega)
       have hW2 := fE_W (zE st j) (qbv (qbe 16)) n
       have hW3 := zE_W st j
       have HWR := Lib.hid (qhk y1 (1 + n) (by omega) (.slice (some ⟨gP, 64 * n, none⟩) 64 (cP - 64 * n)) (sec (qbv (qbe 16)) n) (by rw [qhn (k := 3) (qgu _) hn3]) hkb (by omega))
       have i1 : IntKind.i64.wrap (64 * (n : Int)) = 64 * (n : Int) := IntWalk.i64_in _ (by omega)
       have i2 : IntKind.i64.wrap ((n : Int) + 1) = (n : Int) + 1 := IntWalk.i64_in _ (by omega)
       have i3 : IntKind.i64.wrap (64 * ((n : Int) + 1)) = 64 * ((n : Int) + 1) := IntWalk.i64_in _ (by omega)
       have i4 : IntKind.i64.wrap (1 + (n : Int)) = 1 + (n : Int) := IntWalk.i64_in _ (by omega)
       have i5 : ((1 + n : Nat) : Int) = 1 + (n : Int) := by omega
       have hc192 : 192 ≤ cP := HGP.out.2.2.1
       rw [i5] at HWR
       clear y1 y2 y3 hF1 hF2 hrP hkb
       go_wp2_with fail
       rw [show 64 * (n + 1) - 64 * n = 64 by omega]
       refine HWR.out.mono ?_
       rintro e w7 ⟨rfl, hd7⟩
       have HD7 : Hid (Did (.pointer (some a)) (fE (zE st j) (qbv (qbe 16)) (n + 1)) j F1 w6 w7) := Did.trans HY2.out.2 HY2.out.1 hd7
       clear hd7 HWR
       go_wp2
       go_roundw
       case rel => exact ⟨n + 1, by omega, by go_num, HD7⟩
       case measure => simp [intOf]; omega
      ·obtain rfl : n = 3 := by omega
       obtain ⟨wb, HWB⟩ : ∃ x, x = wr := ⟨wr, rfl⟩
       subst HWB
       have hrR := (y3.block gR (qab HGR.out.1) (hF1 gR HGR.out.2)).trans HGR.out.1
       have HD8 := Lib.hid y1
       have HRR8 := Lib.hid hrR
       have hF2R := hF2 gR HGR.out.2 (qab HGR.out.1)
       obtain ⟨i0, u1, u2, u3, u4⟩ := info_parts qtm
       have hi64 : Tryz.prog.underlying 3 = some (.int .i64) := by kernel_rfl
       have hap := fun ty => Lib.run_append_grow_zeros (P := Tryz.prog) wb 38 3 ty 5 i0 _ .i64 .i64 u8sT hi64 u1 u2 (some ⟨gR, 0, none⟩) 32 32 (u8s (qgv 2 493 0 0 0 1 1 [])) (by
        rw [u3]
        exact run_firstCells_some wb.drew 1 32 ⟨gR, 0, none⟩ 32 32 _ (by rw [qak, qnq]) (fun q v hv => by
         have hadd : (⟨gR, 0, none⟩ : Addr).add q = ⟨gR, q, none⟩ := by unfold Addr.add; split <;> simp_all
         rw [hadd]
         show wb.drew.cell? _ = _
         rw [show wb.drew.cell? ⟨gR, q, none⟩ = wb.cell? ⟨gR, q, none⟩ from rfl, cell_of_row _ _ _ _ _ _ hrR, ← hv]
         simp [byts, u8s])) 32 (by omega) (by rw [u3]; omega) (by omega) (by omega) (by rw [u4]; omega) (by rw [u4]; exact growslice_fits_wide (by omega) (by omega))
       obtain ⟨cp, Hcp⟩ : ∃ c, Hid (grownCap wb (32 + 32) 32 5 = c) := ⟨_, rfl⟩
       have hcp64 : 64 ≤ cp := by rw [← Hcp.out]; exact grownCap_ge _ _ _ _
       obtain ⟨C, HC⟩ : ∃ C, Hid ((u8s (qgv 2 493 0 0 0 1 1 [])).toArray ++ Builtin.zeroCells (Value.int .u8 0).cells 32 ++ Builtin.zeroCells (Value.int .u8 0).cells (grownCap wb (32 + 32) 32 5 - (32 + 32)) = C) := ⟨_, rfl⟩
       have HCT : Hid (C.toList.take 64 = u8s qif) := by
        show _ = _
        rw [← HC.out]
        simp only [Array.toList_append]
        rw [show (Value.int .u8 0).cells = #[Value.int .u8 0] from rfl, ybwf, ybwf]
        have e1 : (u8s (qgv 2 493 0 0 0 1 1 []) ++ List.replicate 32 (Value.int .u8 0)).length = 64 := by rw [List.length_append, qak, qnq, List.length_replicate]
        rw [List.take_append_of_le_length (by rw [e1]; omega), List.take_of_length_le (by rw [e1]; omega)]
        unfold qif
        rw [qbf]
        congr 1
       have hap2 : ∀ ty, (Builtin.append_ #[38, 3] ty #[.slice (some ⟨gR, 0, none⟩) 32 32, .int .i64 32]).run Tryz.prog wb = .ok (.slice (some ⟨wb.heap.size, 0, none⟩) 64 cp) (wb.drew.alloc (.cells C 5)) := fun ty => by
        have := hap ty
        rw [HC.out, Hcp.out] at this
        exact this
       have HAP := Lib.hid hap2
       clear hap2
       have HB9 : Hid (Below wb.heap.size wb (wb.drew.alloc (.cells C 5))) := ((Below.refl _ _).drew).alloc (Nat.le_refl _) _
       have HR9 : Hid ((wb.drew.alloc (.cells C 5)).heap[wb.heap.size]? = some (.cells C 5 (0, 0))) := heap_alloc_new wb.drew _
       have hW2 := fE_W (zE st j) (qbv (qbe 16)) 3
       have hW3 := zE_W st j
       have HWL : Hid (st.W.length ≤ 1000 ∧ j ≤ 256 ∧ (zE st j).W.length ≤ st.W.length + j ∧ (fE (zE st j) (qbv (qbe 16)) 3).W.length ≤ (zE st j).W.length + 3) := ⟨hW, hk2, hW3, hW2⟩
       have hkb9 := qsa (F := F2) (n := 64) HR9.out (fun hc => by have := y1.fin _ hc; omega) HCT.out qgy 0 64 cp (by omega)
       rw [List.drop_zero, List.take_of_length_le (by rw [qgy]; exact Nat.le_refl _)] at hkb9
       have HWR9 := Lib.hid (qhk (y1.below HB9.out) 37 (by omega) (.slice (some ⟨wb.heap.size, 0, none⟩) 64 cp) qif qgy hkb9 (by omega))
       have HK9 : Hid (qac F1 w6 (wb.drew.alloc (.cells C 5))) := HY2.out.2.step (qac.of_below HB9.out)
       clear u1 u2 u3 u4 hap hi64 hkb9 hrR hrP y1 y2 y3 hF1 hF2 hF2R hW2 hW3 hcp64
       go_wp2_with (at_builtin; refine Lib.wpList_append_run _ rfl _ _ _ _ rfl _ _ rfl rfl _ _ (HAP.out _) ?_)
       refine HWR9.out.mono ?_
       rintro e w10 ⟨rfl, F3, y1, y2, y3⟩
       have HY3 : Hid ((∀ i, F3 i → F2 i ∨ wb.heap.size ≤ i) ∧ qac F2 wb w10) := ⟨fun i hi => (y2 i hi).imp id fun h => Nat.le_trans HB9.out.size h, (qac.of_below HB9.out).trans y3 fun i hi => Or.inl hi⟩
       have HD10 := Lib.hid y1
       have HSZ10 := Lib.hid (qfz y1)
       have HMK10 := Lib.hid (qxf j (by omega) w10)
       clear y1 y2 y3 HWR9
       go_wp2_with fail
       refine HSZ10.out.mono ?_
       rintro e w11 ⟨rfl, rfl⟩
       go_wp2_with fail
       refine HMK10.out.mono ?_
       rintro e w12 ⟨v12, rfl, hv12⟩
       have HB12 := Lib.hid hv12.below
       have hkb12 := hv12.keep HD10.out.fin
       have HWR12 := Lib.hid (qhk (HD10.out.below hv12.below) 0 (by omega) v12 (qfs j) (qgt j) hkb12 (by
        have h1 := HWL.out
        have h2 := qqn (fE (zE st j) (qbv (qbe 16)) 3) 37 qif
        omega))
       clear hv12 hkb12
       go_wp2_with fail
       refine HWR12.out.mono ?_
       rintro e w13 ⟨rfl, F4, y1, y2, y3⟩
       have HY4 : Hid ((∀ i, F4 i → F3 i ∨ w10.heap.size ≤ i) ∧ qac F3 w10 w13) := ⟨fun i hi => (y2 i hi).imp id fun h => Nat.le_trans HB12.out.size h, (qac.of_below HB12.out).trans y3 fun i hi => Or.inl hi⟩
       have HFL := Lib.hid (qws y1)
       clear y1 y2 y3 HWR12
       go_wp2_with fail
       refine HFL.out.mono ?_
       rintro e w14 ⟨rfl, hd14⟩
       have hd : Did (.pointer (some a)) (fmtE st j) j F3 w10 w14 := Did.trans HY4.out.2 HY4.out.1 hd14
       have hd2 : Did (.pointer (some a)) (fmtE st j) j F2 wb w14 := Did.trans HY3.out.2 HY3.out.1 hd
       have hd3 : Did (.pointer (some a)) (fmtE st j) j F1 w6 w14 := Did.trans HY2.out.2 HY2.out.1 hd2
       have hd4 : Did (.pointer (some a)) (fmtE st j) j F1 wa w14 := Did.trans (qac.of_below HB6.out) (fun i hi => Or.inl hi) hd3
       have hd5 : Did (.pointer (some a)) (fmtE st j) j F w1 w14 := Did.trans HY.out.2.2 HY.out.2.1 hd4
       have HD14 : Hid (Did (.pointer (some a)) (fmtE st j) j F w w14) := Did.trans (qac.of_below HB1.out) (fun i hi => Or.inl hi) hd5
       clear hd14 hd hd2 hd3 hd4 hd5
       go_wp2
       go_ret
       exact ⟨rfl, HD14.out⟩
set_option maxRecDepth 100000 in
theorem ybjm {w : World} {d : Value} {st : Dk} {k : Nat} {F : Nat → Prop} (h : qay w d st k F) (hk : 64 ≤ k) (hk2 : k ≤ 256) : Calls Tryz.prog 153 #[d, .int .i64 5, .int .i64 32] w fun e w' => e = .returned (.int .i64 0) ∧ w = w' := by
 have HS := Lib.hid (qfz h)
 obtain ⟨a, rfl⟩ := h.ptr
 have i1 : IntKind.i64.wrap ((k : Int) - 32) = (k : Int) - 32 := IntWalk.i64_in _ (by omega)
 have d1 : decide ((k : Int) - 32 < 5) = false := decide_eq_false (by omega)
 have d2 : ¬ ((k : Int) - 32 < 5) := by omega
 clear h
 go_enter Tryz.func153, Tryz.ntmps153
 go_wp2_with fail
 refine HS.out.mono ?_
 rintro e w' ⟨rfl, rfl⟩
 go_wp2
 go_ret
 exact ⟨rfl, rfl⟩
set_option maxRecDepth 100000 in
theorem ybpf {w : World} {a : Addr} {st : Dk} {k : Nat} {F : Nat → Prop} (h : qay w (.pointer (some a)) st k F) (hk : 64 ≤ k) (hk2 : k ≤ 256) (hz : sec st.N 5 = List.replicate 64 0) :
  Calls Tryz.prog 110 #[.pointer (some a), .int .i64 5, .int .i64 32] w fun e w' => e = .returned (.tuple #[.slice none 0 0, .int .u32 0, .bool false, .int .i64 0]) ∧ Below w.heap.size w w' := by
 have HRG := Lib.hid (ybjm h hk hk2)
 have hrd := qkg h 5 (by omega)
 rw [hz] at hrd
 have HRD := Lib.hid hrd
 clear h hrd
 go_enter Tryz.func110, Tryz.ntmps110
 go_wp2_with fail
 refine HRG.out.mono ?_
 rintro e w' ⟨rfl, rfl⟩
 go_wp2_with fail
 refine HRD.out.mono ?_
 rintro e w1 ⟨v, rfl, g, cap, cur, rfl, ⟨hg, hcap⟩, hh, ht, hb⟩
 have hc : ∀ j, j < 64 → w1.cell? ⟨g, j, none⟩ = some (.int .u8 0) := fun j hj => by
  rw [cell_of_row _ _ _ _ _ _ hh, ← Array.getElem?_toList]
  have h1 : (cur.toList.take 64)[j]? = (u8s (List.replicate 64 0))[j]? := by
   have := ht
   rw [List.length_replicate] at this
   rw [this]
  rw [List.getElem?_take, if_pos hj] at h1
  rw [h1]
  unfold u8s
  rw [List.map_replicate, List.getElem?_replicate, if_pos hj]
 have c0 := hc 0 (by omega)
 have c5 := hc 5 (by omega)
 have HB := Lib.hid hb
 clear hc hh ht hg hcap hb
 rw [show (List.replicate 64 (0 : Int)).length = 64 from rfl]
 go_wp2
 refine bodyPost_ret (v := .tuple #[.slice none 0 0, .int .u32 0, .bool false, .int .i64 0]) (by simp [results, Tryz.results110, go_sem]) rfl ⟨rfl, HB.out⟩
def LogK (a : Addr) (st : Dk) (k : Nat) (sq : Int) (F : Nat → Prop) (gl : Nat) (w w' : World) : Prop :=
 ∃ F', qay w' (.pointer (some a)) st k F' ∧ (∀ i, F' i → F i ∨ w.heap.size ≤ i) ∧ ¬ F' gl ∧ qac F w w' ∧ w'.heap[gl]? = some (.cells (logR a sq) 165 (0, 0)) ∧ w.heap.size ≤ gl
set_option maxRecDepth 100000 in
theorem ybnx {w : World} {a : Addr} {st : Dk} {k : Nat} {F : Nat → Prop} (h : qay w (.pointer (some a)) st k F) (hk : 64 ≤ k) (hk2 : k ≤ 256) (hz : sec st.N 5 = List.replicate 64 0) :
  Calls Tryz.prog 70 #[.pointer (some a), .int .i64 5, .int .i64 32] w fun e w' => ∃ gl, e = .returned (.tuple #[.pointer (some ⟨gl, 0, none⟩), .int .i64 0]) ∧ LogK a st k 0 F gl w w' := by
 have HSC := Lib.hid (ybpf h hk hk2 hz)
 have H := Lib.hid h
 clear h
 go_enter Tryz.func70, Tryz.ntmps70
 go_wp2_with fail
 refine HSC.out.mono ?_
 rintro e w1 ⟨rfl, hb⟩
 have HB := Lib.hid hb
 have HLK : Hid (LogK a st k 0 F w1.heap.size w (w1.alloc (.cells (logR a 0) 165))) := by
  have hal : Below w1.heap.size w1 (w1.alloc (.cells (logR a 0) 165)) := (Below.refl _ _).alloc (Nat.le_refl _) _
  refine ⟨F, (H.out.below hb).below hal, fun _ h => Or.inl h, fun h => ?_, (qac.of_below hb).step (qac.of_below hal), heap_alloc_new _ _, hb.size⟩
  have h1 := H.out.fin _ h
  have h2 := hb.size
  omega
 clear hb
 go_wp2
 go_ret2
 exact ⟨_, rfl, HLK.out⟩
theorem ybyg {w : World} {a : Addr} {st : Dk} {F : Nat → Prop} (h : qay w (.pointer (some a)) st 80 F) (hN : qeb st.N) (hg : ∀ x ∈ ybdx st.N, ybcc x) (hW : st.W.length < 900000) :
  Calls Tryz.prog 70 #[.pointer (some a), .int .i64 5, .int .i64 32] w fun e w' => ∃ gl, e = .returned (.tuple #[.pointer (some ⟨gl, 0, none⟩), .int .i64 0]) ∧ LogK a (qxk st) 80 (seqO st.N) F gl w w' :=
 (ybyh h hN hg hW).mono fun _e _w' ⟨gl, he, h1, F', h2, h3, h4, h5, h6⟩ => ⟨gl, he, F', h2, h3, h4, h5, h6, h1⟩
set_option maxRecDepth 100000 in
theorem ybmi {w : World} {gf : Nat} {s : Fs} {F : Nat → Prop} {B : Nat} {a : Addr} (h : FsAt w gf s F B a) :
  Calls Tryz.prog 13 #[.pointer (some ⟨gf, 0, none⟩)] w (fun e w' => e = .returned (.int .i64 (s.k : Int)) ∧ w = w') := by
 obtain ⟨⟨gl, rv, nv, bt, bh, E, tl, FD, h1, h2, h3, h4, h5, h6, h7, h8, h9, h10, h11, h12, h13, h14, h15, h16, h17⟩, a1, a2, a3, a4, a5, a6, a7⟩ := h
 obtain ⟨c0, _, _, _, _, _⟩ := qfl h1
 have HS := Lib.hid (qfz h2)
 clear h1 h2 h3 h4 h5 h6 h7 h8 h9 h10 h11 h12 h13 h14 h15 h16 h17 a1 a2 a3 a4 a5 a6 a7
 go_enter Tryz.func13, Tryz.ntmps13
 go_wp2_with fail
 refine HS.out.mono ?_
 rintro e w1 ⟨rfl, rfl⟩
 go_wp2
 go_ret
 simp
set_option maxRecDepth 100000 in
theorem ybeb {w : World} {gf : Nat} {s : Fs} {F : Nat → Prop} {B : Nat} {a : Addr} (h : FsAt w gf s F B a) (n : Nat) (hn : n < s.k) :
  Calls Tryz.prog 251 #[.agg #[.pointer (some ⟨gf, 0, none⟩)], .int .i64 (n : Int)] w (qqt (secE s n) w) := by
 have HBX : Hid (Below w.heap.size w (w.alloc (.cells #[.pointer (some ⟨gf, 0, none⟩)] 90))) := (Below.refl _ _).alloc (Nat.le_refl _) _
 have HS := Lib.hid (qru (h.below HBX.out) n hn)
 generalize secE s n = D at *
 clear h
 go_enter Tryz.func251, Tryz.ntmps251
 go_wp2_with fail
 refine HS.out.mono ?_
 rintro e w1 ⟨v, rfl, g, cap, cur, h1, h2, h3, h4, h5⟩
 have HR : Hid (qel D w v w1) := ⟨g, cap, cur, h1, ⟨Nat.le_trans HBX.out.size h2.1, h2.2⟩, h3, h4, Below.step HBX.out h5⟩
 clear h1 h2 h3 h4 h5
 go_wp2
 go_ret2
 exact ⟨v, rfl, HR.out⟩
set_option maxRecDepth 100000 in
theorem ybec {w : World} {gf : Nat} {s : Fs} {F : Nat → Prop} {B : Nat} {a : Addr} (h : FsAt w gf s F B a) :
  Calls Tryz.prog 252 #[.agg #[.pointer (some ⟨gf, 0, none⟩)]] w (fun e w' => e = .returned (.int .i64 (s.k : Int)) ∧ Below w.heap.size w w') := by
 have HBX : Hid (Below w.heap.size w (w.alloc (.cells #[.pointer (some ⟨gf, 0, none⟩)] 90))) := (Below.refl _ _).alloc (Nat.le_refl _) _
 have HS := Lib.hid (ybmi (h.below HBX.out))
 clear h
 go_enter Tryz.func252, Tryz.ntmps252
 go_wp2_with fail
 refine HS.out.mono ?_
 rintro e w1 ⟨rfl, rfl⟩
 go_wp2
 go_ret
 exact ⟨rfl, HBX.out⟩
def qvz (s : Fs) : Prop := ∀ n, n < s.k → ∀ x ∈ secE s n, 0 ≤ x ∧ x ≤ 255
def fsRdr (gf : Nat) : Rdr := ⟨90, .agg #[.pointer (some ⟨gf, 0, none⟩)], 251, 252, .agg #[.pointer (some ⟨gf, 0, none⟩)], .agg #[.pointer (some ⟨gf, 0, none⟩)]⟩
theorem fsRdr1 (gf : Nat) : ∀ W : World, (nilAhead 403 90 (.agg #[.pointer (some ⟨gf, 0, none⟩)]) "Read").run Tryz.prog W = .ok (some false) W := fun W => by kernel_rfl
theorem fsRdr2 (gf : Nat) : ∀ W : World, (nilAhead 403 90 (.agg #[.pointer (some ⟨gf, 0, none⟩)]) "Size").run Tryz.prog W = .ok (some false) W := fun W => by kernel_rfl
theorem fsRdr3 (gf : Nat) : ∀ W : World, (method 403 90 (.agg #[.pointer (some ⟨gf, 0, none⟩)]) "Read").run Tryz.prog W = .ok (251, (.agg #[.pointer (some ⟨gf, 0, none⟩)])) W := fun W => by kernel_rfl
theorem fsRdr4 (gf : Nat) : ∀ W : World, (method 403 90 (.agg #[.pointer (some ⟨gf, 0, none⟩)]) "Size").run Tryz.prog W = .ok (252, (.agg #[.pointer (some ⟨gf, 0, none⟩)])) W := fun W => by kernel_rfl
theorem fsRdr5 (gf : Nat) : ∀ (x : Value) (W : World), (callFunc 251 #[(.agg #[.pointer (some ⟨gf, 0, none⟩)]), x]).run Tryz.prog W = .ok (.enter 251 #[(.agg #[.pointer (some ⟨gf, 0, none⟩)]), x]) W := fun x W => by kernel_rfl
theorem fsRdr6 (gf : Nat) : ∀ W : World, (callFunc 252 #[(.agg #[.pointer (some ⟨gf, 0, none⟩)])]).run Tryz.prog W = .ok (.enter 252 #[(.agg #[.pointer (some ⟨gf, 0, none⟩)])]) W := fun W => by kernel_rfl
theorem ybvx {w : World} {gf : Nat} {s : Fs} {F : Nat → Prop} {B : Nat} {a : Addr} (h : FsAt w gf s F B a) (hb : qvz s) : RdAt w (fsRdr gf) (secE s) s.k :=
 ⟨fsRdr1 gf, fsRdr2 gf, fsRdr3 gf, fsRdr4 gf, fsRdr5 gf, fsRdr6 gf,
  fun _w' hw n hn => ybeb (h.below hw) n hn, fun _w' hw => ybec (h.below hw), fun n hn => qxw h n hn, hb⟩
def dkRdr (a : Addr) : Rdr := ⟨25, .pointer (some a), 69, 41, .pointer (some a), .pointer (some a)⟩
theorem dkRdr1 (a : Addr) : ∀ W : World, (nilAhead 403 25 (.pointer (some a)) "Read").run Tryz.prog W = .ok (some false) W := fun W => by kernel_rfl
theorem dkRdr2 (a : Addr) : ∀ W : World, (nilAhead 403 25 (.pointer (some a)) "Size").run Tryz.prog W = .ok (some false) W := fun W => by kernel_rfl
theorem dkRdr3 (a : Addr) : ∀ W : World, (method 403 25 (.pointer (some a)) "Read").run Tryz.prog W = .ok (69, (.pointer (some a))) W := fun W => by kernel_rfl
theorem dkRdr4 (a : Addr) : ∀ W : World, (method 403 25 (.pointer (some a)) "Size").run Tryz.prog W = .ok (41, (.pointer (some a))) W := fun W => by kernel_rfl
theorem dkRdr5 (a : Addr) : ∀ (x : Value) (W : World), (callFunc 69 #[(.pointer (some a)), x]).run Tryz.prog W = .ok (.enter 69 #[(.pointer (some a)), x]) W := fun x W => by kernel_rfl
theorem dkRdr6 (a : Addr) : ∀ W : World, (callFunc 41 #[(.pointer (some a))]).run Tryz.prog W = .ok (.enter 41 #[(.pointer (some a))]) W := fun W => by kernel_rfl
theorem ybln {w : World} {a : Addr} {st : Dk} {k : Nat} {F : Nat → Prop} (h : qay w (.pointer (some a)) st k F) (hb : ∀ n, n < k → ∀ x ∈ sec st.N n, 0 ≤ x ∧ x ≤ 255) : RdAt w (dkRdr a) (sec st.N) k :=
 ⟨dkRdr1 a, dkRdr2 a, dkRdr3 a, dkRdr4 a, dkRdr5 a, dkRdr6 a,
  fun _w' hw n hn => qkg (h.below hw) n hn, fun _w' hw => (qfz (h.below hw)).mono fun _e _w2 ⟨he, hw2⟩ => ⟨he, hw2 ▸ Below.refl _ _⟩, fun _n hn => qhn h.lens.2 hn, hb⟩
set_option maxRecDepth 100000 in
theorem ybfr {w : World} {gf : Nat} {s : Fs} {F : Nat → Prop} {B : Nat} {a : Addr} (h : FsAt w gf s F B a) (hb : qvz s) (hok : qje (secE s) s.fo s.k) :
  Calls Tryz.prog 12 #[.pointer (some ⟨gf, 0, none⟩)] w (fun e w' => e = .returned (.slice none 0 0) ∧ Below w.heap.size w w') := by
 have hc := qqz (ybvx h hb) h.k1 h.k0 s.fo hok
 have HC : Hid (Calls Tryz.prog 11 #[.iface 90 (.agg #[.pointer (some ⟨gf, 0, none⟩)])] w (fun e w' => e = .returned (.slice none 0 0) ∧ Below w.heap.size w w')) := hc
 clear h hb hok
 go_enter Tryz.func12, Tryz.ntmps12
 go_wp2_with fail
 refine HC.out.mono ?_
 rintro e w1 ⟨rfl, hb1⟩
 have HB1 := Lib.hid hb1
 clear hb1
 go_wp2
 go_ret
 exact ⟨rfl, HB1.out⟩
def qgc (D : List Int) (at0 n : Nat) : List Int := (D.drop at0).take n
theorem ybgg {w w' : World} {F F' : Nat → Prop} {φ : World → Prop} (h : Out F w φ) (hk : qac F w w') (hF : ∀ i, F' i → F i ∨ w.heap.size ≤ i) : Out F' w' φ := fun w2 k2 => h w2 (hk.trans k2 hF)
theorem ybtl {w w' : World} {F F' : Nat → Prop} {E : List Nd} {L : List Pn} (h : qbr F w E L) (hk : qac F w w') (hF : ∀ i, F' i → F i ∨ w.heap.size ≤ i) : qbr F' w' E L :=
 ⟨h.1, fun i h1 h2 => by
  obtain ⟨e1, e2, e3, e4, e5, e6, e7, e8⟩ := h.2 i h1 h2
  exact ⟨e1, e2, e3, e4, e5, e6, e7, ybgg e8 hk hF⟩⟩
set_option maxRecDepth 100000 in
theorem ybkz : ∃ Z PL : Array _, Z.size = 198 ∧ PL[0]? = some (0, 1) ∧ PL[1]? = some (1, 1) ∧ PL[2]? = some (2, 192) ∧ PL[3]? = some (194, 1) ∧ PL[4]? = some (195, 1) ∧ PL[5]? = some (196, 1) ∧ PL[6]? = some (197, 1) ∧
  ∀ parts, Tryz.prog.built 96 parts = Instr.fill (PL[·]?) Z parts :=
 ⟨((Tryz.prog.info? 96).bind (·.zero)).get!.cells, #[(0, 1), (1, 1), (2, 192), (194, 1), (195, 1), (196, 1), (197, 1)], by kernel_rfl, rfl, rfl, rfl, rfl, rfl, rfl, rfl, fun _ => by kernel_rfl⟩
theorem ybrd (p l : Addr) (fo : Fo) (q3 q4 : Option Addr) (n3 n4 c3 c4 gd gh : Nat) : Tryz.prog.built 96 [(0, .pointer (some p)), (1, .pointer (some l)), (2, .agg (encF fo)), (3, .slice q3 n3 c3), (4, .slice q4 n4 c4), (5, .map (some gd)), (6, .map (some gh))] =
  some (fsR (.pointer (some p)) (.pointer (some l)) fo (.slice q3 n3 c3) (.slice q4 n4 c4) (.map (some gd)) (.map (some gh))) := by
 obtain ⟨Z, PL, hZ, p0, p1, p2, p3, p4, p5, p6, hb⟩ := ybkz
 have hA : (encF fo).size = 192 := qaj fo
 have hg : ∀ i, 2 ≤ i → i < 194 → (encF fo)[i - 2]? = some (qdd fo ((i - 2) / 48) ((i - 2) % 48)) := fun i h1 h2 => by
  have := qcb fo ((i - 2) / 48) ((i - 2) % 48) (by omega) (by omega)
  rwa [show (i - 2) / 48 * 48 + (i - 2) % 48 = i - 2 by omega] at this
 generalize encF fo = A at hA hg ⊢
 obtain ⟨c1, s1, g1, e1⟩ := qcn (n := 198) (place := (PL[·]?)) (k := 0) (cells := Z) (rest := [(1, .pointer (some l)), (2, .agg A), (3, .slice q3 n3 c3), (4, .slice q4 n4 c4), (5, .map (some gd)), (6, .map (some gh))]) (.pointer (some p)) 0 #[.pointer (some p)] rfl p0 hZ (by simp)
 obtain ⟨c2, s2, g2, e2⟩ := qcn (n := 198) (place := (PL[·]?)) (k := 1) (cells := c1) (rest := [(2, .agg A), (3, .slice q3 n3 c3), (4, .slice q4 n4 c4), (5, .map (some gd)), (6, .map (some gh))]) (.pointer (some l)) 1 #[.pointer (some l)] rfl p1 s1 (by simp)
 obtain ⟨c3', s3, g3, e3⟩ := qcn (n := 198) (place := (PL[·]?)) (k := 2) (cells := c2) (rest := [(3, .slice q3 n3 c3), (4, .slice q4 n4 c4), (5, .map (some gd)), (6, .map (some gh))]) (.agg A) 2 A rfl (by rw [hA]; exact p2) s2 (by rw [hA]; omega)
 obtain ⟨c4', s4, g4, e4⟩ := qcn (n := 198) (place := (PL[·]?)) (k := 3) (cells := c3') (rest := [(4, .slice q4 n4 c4), (5, .map (some gd)), (6, .map (some gh))]) (.slice q3 n3 c3) 194 #[.slice q3 n3 c3] rfl p3 s3 (by simp)
 obtain ⟨c5, s5, g5, e5⟩ := qcn (n := 198) (place := (PL[·]?)) (k := 4) (cells := c4') (rest := [(5, .map (some gd)), (6, .map (some gh))]) (.slice q4 n4 c4) 195 #[.slice q4 n4 c4] rfl p4 s4 (by simp)
 obtain ⟨c6, s6, g6, e6⟩ := qcn (n := 198) (place := (PL[·]?)) (k := 5) (cells := c5) (rest := [(6, .map (some gh))]) (.map (some gd)) 196 #[.map (some gd)] rfl p5 s5 (by simp)
 obtain ⟨c7, s7, g7, e7⟩ := qcn (n := 198) (place := (PL[·]?)) (k := 6) (cells := c6) (rest := []) (.map (some gh)) 197 #[.map (some gh)] rfl p6 s6 (by simp)
 rw [hb]
 rw [e1]
 rw [e2]
 rw [e3]
 rw [e4]
 rw [e5]
 rw [e6]
 rw [e7]
 rw [Instr.fill]
 refine congrArg some ?_
 clear e1 e2 e3 e4 e5 e6 e7 hb p0 p1 p2 p3 p4 p5 p6
 apply Array.ext_getElem?
 intro i
 by_cases hi : i < 198
 ·rw [qir _ _ _ _ _ _ _ _ hi]
  simp only [List.size_toArray, List.length_cons, List.length_nil, hA] at g1 g2 g3 g4 g5 g6 g7
  rw [g7, g6, g5, g4, g3, g2, g1]
  unfold qll
  by_cases h1 : 194 ≤ i
  ·have : i = 194 ∨ i = 195 ∨ i = 196 ∨ i = 197 := by omega
   rcases this with rfl | rfl | rfl | rfl <;> simp
  ·rw [if_neg (by omega), if_neg (by omega), if_neg (by omega), if_neg (by omega)]
   by_cases h0 : i = 0
   ·subst h0; simp
   ·by_cases h3 : i = 1
    ·subst h3; simp
    ·rw [if_pos (by omega), if_neg h0, if_neg h3, if_pos (by omega), hg i (by omega) (by omega)]
 ·rw [Array.getElem?_eq_none (by omega), Array.getElem?_eq_none (by rw [qgi]; omega)]
theorem ybag {E : List Nd} (h : ∀ x ∈ E, x.k = 0 ∨ x.l ≠ 0) : ∀ n, qhx E [] n = []
 | 0 => rfl
 | n + 1 => by
  unfold qhx
  rw [ybag h n]
  cases hx : E[n]? with
  | none => rfl
  | some x =>
   have := h x (List.mem_of_getElem? hx)
   have hb : ybnh x [] ((n : Int) + 1) = false := by
    unfold ybnh
    rcases this with h1 | h1
    ·simp [h1]
    ·have : (x.l == 0) = false := by simpa using h1
     simp [this]
   simp [hb]
set_option maxRecDepth 100000 in
theorem ybgd {w : World} {a : Addr} {st : Dk} {k : Nat} {F : Nat → Prop} (h : qay w (.pointer (some a)) st k F) (hk : 64 ≤ k) (hk2 : k ≤ 256) (st' : Dk) (sq : Int)
  (hopen : ∀ W : World, Below w.heap.size w W → Calls Tryz.prog 70 #[.pointer (some a), .int .i64 5, .int .i64 32] W fun e w' => ∃ gl, e = .returned (.tuple #[.pointer (some ⟨gl, 0, none⟩), .int .i64 0]) ∧ LogK a st' k sq F gl W w')
  (hm : sec st.N 0 = qfs k) (hby : ∀ n, n < k → ∀ x ∈ sec st'.N n, 0 ≤ x ∧ x ≤ 255) (f : Fo) (hld : qmh (sec st'.N) f k) (htr : qml (sec st'.N) (f.nd 0) k) (hq : qju (sec st'.N 4)) (hq0 : qfg (sec st'.N 4) = []) (hlost : ∀ X ∈ qfh (sec st'.N) (f.nd 0) 32, X.k = 0 ∨ X.l ≠ 0) :
  Calls Tryz.prog 27 #[.pointer (some a)] w
   (fun e w' => ∃ gf F', e = .returned (.tuple #[.pointer (some ⟨gf, 0, none⟩), .int .i64 0]) ∧ FsAt w' gf ⟨st', k, sq, f, [], qfh (sec st'.N) (f.nd 0) 32, []⟩ F' w'.heap.size a ∧ qac F w w' ∧ (∀ i, F' i → F i ∨ w.heap.size ≤ i)) := by
 have H := Lib.hid h
 have hrd := qkg h 0 (by omega)
 rw [hm] at hrd
 have HRD := Lib.hid hrd
 have HSZ := Lib.hid (fun (W : World) (hW : Below w.heap.size w W) => qfz (h.below hW))
 have HOP := Lib.hid hopen
 have HBY := Lib.hid hby
 have HLD := Lib.hid hld
 have HTR := Lib.hid htr
 have HQ := Lib.hid hq
 have HQ0 := Lib.hid hq0
 have HLO := Lib.hid hlost
 have d1 : decide ((k : Int) < 64) = false := decide_eq_false (by omega)
 have d2 : ¬ ((k : Int) < 64) := by omega
 have d3 : ¬ (k < 64) := by omega
 clear h hrd hopen hby hld htr hq hq0 hlost hm
 go_enter Tryz.func27, Tryz.ntmps27
 go_wp2_with fail
 refine HRD.out.mono ?_
 rintro e w1 ⟨v1, rfl, hv1⟩
 have HB1 := Lib.hid hv1.below
 have HV1 := Lib.hid hv1.at
 clear hv1
 go_wp2_with fail
 refine (HSZ.out w1 HB1.out).mono ?_
 rintro e w2 ⟨rfl, rfl⟩
 go_wp2_with fail
 refine (HSZ.out w1 HB1.out).mono ?_
 rintro e w2 ⟨rfl, rfl⟩
 go_wp2_with fail
 refine (qxf k (by omega) w1).mono ?_
 rintro e w2 ⟨v2, rfl, hv2⟩
 have HB2 := Lib.hid (Below.step HB1.out hv2.below)
 have HEQ := Lib.hid (qdu v1 v2 (qfs k) (qfs k) w2 (qah.below HV1.out hv2.below) hv2.at rfl (by rw [qgt]; omega))
 rw [show eqB (qfs k) (qfs k) = true by unfold eqB; simp] at HEQ
 clear hv2
 go_wp2_with fail
 refine HEQ.out.mono ?_
 rintro e w3 ⟨rfl, hb3⟩
 have HB3 := Lib.hid (Below.step HB2.out hb3)
 clear hb3 HEQ
 go_wp2_with fail
 refine (HOP.out w3 HB3.out).mono ?_
 rintro e w4 ⟨gl, rfl, F1, y1, y2, y3, y4, y5, y6⟩
 have HY : Hid ((∀ i, F1 i → F i ∨ w3.heap.size ≤ i) ∧ ¬ F1 gl ∧ qac F w3 w4 ∧ w4.heap[gl]? = some (.cells (logR a sq) 165 (0, 0)) ∧ w3.heap.size ≤ gl) := ⟨y2, y3, y4, y5, y6⟩
 have HD4 := Lib.hid y1
 have HRR := Lib.hid (ybln y1 HBY.out)
 have hlo := ybgb (ybln y1 HBY.out) (by omega) f HLD.out
 obtain ⟨A, HA⟩ : ∃ A, Hid (encF f = A) := ⟨_, rfl⟩
 rw [HA.out] at hlo
 have HLOD : Hid (Calls Tryz.prog 36 #[.iface 25 (.pointer (some a))] w4 (fun e w' => e = .returned (.tuple #[.agg A, .int .i64 0]) ∧ Below w4.heap.size w4 w')) := hlo
 have HAS : Hid (A.size = 192) := by rw [← HA.out]; exact qaj _
 have HA1 : Hid (A.all (·.oneCell') = true) := by rw [← HA.out]; exact qio _
 clear y1 y2 y3 y4 y5 y6 hlo
 go_wp2_with fail
 refine HLOD.out.mono ?_
 rintro e w5 ⟨rfl, hb5⟩
 have HB5 := Lib.hid hb5
 clear hb5
 obtain ⟨Z0, HZ0⟩ : ∃ Z, Hid (Z = encF qil) := ⟨_, rfl⟩
 have HZV : Hid (∀ w, (zeroValue 80).run Tryz.prog w = .ok (.agg Z0) w) := by rw [HZ0.out]; exact forZ
 have HZS : Hid (Z0.size = 192) := by rw [HZ0.out]; exact qaj _
 have HF6 : Hid (((w5.alloc (.cells Z0 80)).setRow w5.heap.size A).heap[w5.heap.size]? = some (.cells A 80 (0, 0))) := setRow_heap _ _ _ _ _ _ (heap_alloc_new _ _)
 have HB6 : Hid (Below w5.heap.size w5 ((w5.alloc (.cells Z0 80)).setRow w5.heap.size A)) := Below.setRow ((Below.refl _ _).alloc (Nat.le_refl _) _) (Nat.le_refl _) _
 go_upto_region 10 with (first
  | (refine qbj rfl 80 rfl Z0 HZV.out ?_)
  | (refine wpList_store_row rfl 80 (.tmp 7) (.tmp 48) rfl w5.heap.size A rfl rfl 80 Z0 (heap_alloc_new _ _) (by rw [HAS.out]; exact forI) (by rw [HZS.out, HAS.out]) HA1.out ?_))
 obtain ⟨gF, HgF⟩ : ∃ x, Hid (w5.heap.size = x) := ⟨_, rfl⟩
 have HB46 : Hid (Below w4.heap.size w4 ((w5.alloc (.cells Z0 80)).setRow w5.heap.size A)) := Below.step HB5.out HB6.out
 clear HB6
 rw [HgF.out] at HF6 HB46 ⊢
 generalize (w5.alloc (.cells Z0 80)).setRow gF A = w6 at *
 obtain ⟨TT, HT⟩ : ∃ T, Hid (T = encT f 0) := ⟨_, rfl⟩
 have HTS : Hid (TT.size = 48) := by rw [HT.out]; exact qgs _ _
 have HTP : Hid (∀ j, j < TT.size → A[0 + j]? = TT[j]?) := by
  rw [HT.out, ← HA.out]
  have h2 : ∀ j, j < (encT f 0).size → (encF f)[0 + j]? = (encT f 0)[j]? := by
   have := qsp f 0 (by omega)
   simpa using this
  exact h2
 have htr := ybha (HRR.out.below HB46.out) f 0 HTR.out
 rw [← HT.out] at htr
 have HTRE : Hid (Calls Tryz.prog 71 #[.iface 25 (.pointer (some a)), .agg TT] w6 (fun e w' => ∃ v, e = .returned (.tuple #[v, .int .i64 0]) ∧ ybew w6 v (qfh (sec st'.N) (f.nd 0) 32) w')) := htr
 clear htr
 go_wp2_with (refine qat (by kernel_rfl) 78 (.tmp 56) rfl gF 0 rfl 80 A TT (0, 0) _ HF6.out HTP.out Tryz.underlying78 rfl (by rw [HTS.out]; exact ybjy) ?_)
 refine HTRE.out.mono ?_
 rintro e w7 ⟨v7, rfl, E, ho7, hn7, hb7⟩
 obtain ⟨L, HL⟩ : ∃ L, Hid (qfh (sec st'.N) (f.nd 0) 32 = L) := ⟨_, rfl⟩
 rw [HL.out] at HLO ho7 hn7
 have HLL : Hid (L.length = 32) := by show _ = _; rw [← HL.out]; exact qti _ _ _
 have hE32 : E.length = 32 := by rw [hn7.1, HLL.out]
 have HO7 := Lib.hid ho7
 have HN7 := Lib.hid hn7
 have HB7 : Hid (Below w4.heap.size w4 w7) := Below.step HB46.out hb7
 have HF7 := Lib.hid (qaa hb7 HF6.out)
 obtain ⟨qn, cn, rfl, HQN⟩ := qar ho7
 obtain ⟨gn, rfl, hgn, _⟩ := HQN (by rw [HLL.out]; omega)
 have HGN : Hid (w6.heap.size ≤ gn ∧ gn < w7.heap.size) := ⟨by omega, (ho7.lt gn rfl).2⟩
 rw [HLL.out] at HO7 ⊢
 clear hb7 ho7 hn7 HQN hgn
 have HRD7 := Lib.hid (qkg (HD4.out.below HB7.out) 4 (by omega))
 have HL4 : Hid ((sec st'.N 4).length = 64) := qhn HD4.out.lens.2 (by omega)
 have HY4 := Lib.hid (HBY.out 4 (by omega))
 go_wp2_with fail
 refine HRD7.out.mono ?_
 rintro e w8 ⟨v8, rfl, hv8⟩
 have HB8 := Lib.hid (Below.step HB7.out hv8.below)
 have HB78 := Lib.hid hv8.below
 have HUN := Lib.hid (qto v8 (sec st'.N 4) w8 hv8.at HY4.out (by rw [HL4.out]; omega))
 clear hv8
 go_wp2_with fail
 refine HUN.out.mono ?_
 rintro e w9 (⟨_, u, rfl, hu, hb9⟩ | ⟨hng, _⟩)
 case inr => exact absurd HQ.out hng
 have HB9 := Lib.hid (Below.step HB8.out hb9)
 have HB79 : Hid (Below w7.heap.size w7 w9) := Below.step HB78.out hb9
 rw [HQ0.out] at hu
 obtain ⟨qr, cr, rfl⟩ : ∃ qr cr, u = .slice qr 0 cr := by
  obtain ⟨_, ⟨h0, a0, c0, rfl⟩ | ⟨g, o, cap, rfl, _⟩⟩ := hu
  ·exact ⟨a0, c0, rfl⟩
  ·exact ⟨_, _, rfl⟩
 have HF9 := Lib.hid (qaa HB79.out HF7.out)
 clear hb9 hu HUN HRD7 HTRE
 have hmm1 : ∀ W : World, (Instr.makeMap 93 none).run Tryz.prog W = .ok (.map (some W.heap.size)) (W.alloc (.map #[] 0)) := fun _ => rfl
 have hmm2 : ∀ W : World, (Instr.makeMap 94 none).run Tryz.prog W = .ok (.map (some W.heap.size)) (W.alloc (.map #[] 0)) := fun _ => rfl
 obtain ⟨bt, Hbt⟩ : ∃ x, Hid (w9.heap.size = x) := ⟨_, rfl⟩
 obtain ⟨R, HR⟩ : ∃ R, Hid (fsR (.pointer (some a)) (.pointer (some ⟨gl, 0, none⟩)) f (.slice qr 0 cr) (.slice (some ⟨gn, 0, none⟩) 32 cn) (.map (some w9.heap.size)) (.map (some (w9.heap.size + 1))) = R) := ⟨_, rfl⟩
 have HBF : Hid (Tryz.prog.built 96 [(0, .pointer (some a)), (1, .pointer (some ⟨gl, 0, none⟩)), (2, .agg A), (3, .slice qr 0 cr), (4, .slice (some ⟨gn, 0, none⟩) 32 cn), (5, .map (some w9.heap.size)), (6, .map (some (w9.heap.size + 1)))] = some R) := by
  show _ = _
  rw [← HA.out, ← HR.out]
  exact ybrd a ⟨gl, 0, none⟩ f qr (some ⟨gn, 0, none⟩) 0 32 cr cn _ _
 go_wp2_with (first
  | (refine wpList_load_row rfl 80 (.tmp 7) rfl gF rfl 80 A (0, 0) _ HF9.out forT rfl (by rw [HAS.out]; exact forI) ?_)
  | (refine wpList_plain rfl fun K hK => qtq 96 _ rfl #[(0, .pointer (some a)), (1, .pointer (some ⟨gl, 0, none⟩)), (2, .agg A), (3, .slice qr 0 cr), (4, .slice (some ⟨gn, 0, none⟩) 32 cn), (5, .map (some w9.heap.size)), (6, .map (some (w9.heap.size + 1)))] (by simp only [List.map_toArray, List.map_cons, List.map_nil, Act.eval]; rfl) R HBF.out (hK _ _ ?_))
  | (refine wpList_plain rfl fun K hK => ybbz 96 (.tmp 83) rfl R rfl (hK _ _ ?_)))
 have HB10 : Hid (Below w9.heap.size w9 (((w9.alloc (.map #[] 0)).alloc (.map #[] 0)).alloc (.cells R 96))) := (((Below.refl _ _).alloc (Nat.le_refl _) _).alloc (by simp) _).alloc (by simp; omega) _
 have hs1 : (w9.alloc (.map #[] 0)).heap.size = w9.heap.size + 1 := by simp
 have hs2 : ((w9.alloc (.map #[] 0)).alloc (.map #[] 0)).heap.size = w9.heap.size + 1 + 1 := by simp
 have HR10 : Hid ((((w9.alloc (.map #[] 0)).alloc (.map #[] 0)).alloc (.cells R 96)).heap[w9.heap.size + 1 + 1]? = some (.cells R 96 (0, 0))) := by
  rw [← hs2]
  exact heap_alloc_new _ _
 have HMB : Hid (MapL Tryz.prog 3 (((w9.alloc (.map #[] 0)).alloc (.map #[] 0)).alloc (.cells R 96)) w9.heap.size []) := (MapL.made w9).of_block ((heap_alloc_old _ _ (by rw [hs2]; omega)).trans (heap_alloc_old _ _ (by rw [hs1]; omega)))
 have HMH : Hid (MapL Tryz.prog 3 (((w9.alloc (.map #[] 0)).alloc (.map #[] 0)).alloc (.cells R 96)) (w9.heap.size + 1) []) := by
  have := MapL.made (P := Tryz.prog) (K := 3) (w9.alloc (.map #[] 0))
  rw [hs1] at this
  exact this.of_block (heap_alloc_old _ _ (by rw [hs2]; omega))
 have HS10 : Hid ((((w9.alloc (.map #[] 0)).alloc (.map #[] 0)).alloc (.cells R 96)).heap.size = w9.heap.size + 1 + 1 + 1) := by show _ = _; simp
 clear hs1 hs2 hmm1 hmm2
 generalize ((w9.alloc (.map #[] 0)).alloc (.map #[] 0)).alloc (.cells R 96) = w10 at *
 have HB7x : Hid (Below w7.heap.size w7 w10) := Below.step HB79.out HB10.out
 have HO10 := Lib.hid (qap HO7.out HB7x.out)
 have hlost2 : ∀ x ∈ E, x.k = 0 ∨ x.l ≠ 0 := fun x hx => by
  obtain ⟨i, hi, rfl⟩ := List.mem_iff_getElem.1 hx
  have hi2 : i < L.length := by rw [← HN7.out.1]; exact hi
  obtain ⟨f0, f1, f2, f3, f4, f5, _⟩ := HN7.out.2 i hi hi2
  rw [f0, f5]
  exact HLO.out _ (List.getElem_mem hi2)
 have hlo := ybtj (.slice (some ⟨gn, 0, none⟩) 32 cn) (.slice none 0 0) E [] w10 (by rw [hE32]; exact qah.of_owns HO10.out) ⟨rfl, Or.inl ⟨rfl, _, _, rfl⟩⟩ (by omega) (by simp)
 rw [ybag hlost2] at hlo
 have HLS := Lib.hid hlo
 clear hlo hlost2
 go_wp2_with fail
 refine HLS.out.mono ?_
 rintro e w11 ⟨r, rfl, hr11, hb11⟩
 obtain ⟨qx, cx, rfl, _⟩ := qar hr11
 have HB11 := Lib.hid hb11
 clear hr11 hb11 HLS
 rw [show (([] : List Int).length) = 0 from rfl]
 go_wp2
 go_loopw [88] (fun iv wq => iv = .int .i64 0 ∧ wq = w11) (fun _ _ => 0)
 case atStart => exact ⟨rfl, rfl⟩
 case round =>
  obtain ⟨rfl, hwr⟩ := hrel
  subst hwr
  go_wp2
  go_ret2
  have hbx : Below w10.heap.size w10 wr := HB11.out
  have hb9x : Below w9.heap.size w9 wr := Below.step HB10.out hbx
  have hb7x : Below w7.heap.size w7 wr := Below.step HB7x.out hbx
  have hb4x : Below w4.heap.size w4 wr := Below.step HB9.out hb9x
  have hs4 : w4.heap.size ≤ w6.heap.size := HB46.out.size
  have hs6 : w6.heap.size ≤ w7.heap.size := by have := HGN.out; omega
  have hs7 : w7.heap.size ≤ w9.heap.size := HB79.out.size
  have hs11 : w9.heap.size + 1 + 1 + 1 ≤ wr.heap.size := by rw [← HS10.out]; exact hbx.size
  have hgl4 : gl < w4.heap.size := qab HY.out.2.2.2.1
  have hD := HD4.out.below hb4x
  have hF1 : ∀ i, F1 i → i < w4.heap.size := HD4.out.fin
  have hFp : ∀ i, (F1 i ∨ i = gl ∨ i = w9.heap.size + 1 + 1 ∨ i = w9.heap.size ∨ i = w9.heap.size + 1) → i < w6.heap.size ∨ w7.heap.size ≤ i := fun i hi => by
   rcases hi with hi | rfl | rfl | rfl | rfl
   ·exact Or.inl (Nat.lt_of_lt_of_le (hF1 i hi) hs4)
   ·exact Or.inl (by omega)
   ·exact Or.inr (by omega)
   ·exact Or.inr (by omega)
   ·exact Or.inr (by omega)
  have hFl : ∀ i, (F1 i ∨ i = gl ∨ i = w9.heap.size + 1 + 1 ∨ i = w9.heap.size ∨ i = w9.heap.size + 1) → i < wr.heap.size := fun i hi => by
   rcases hi with hi | rfl | rfl | rfl | rfl
   ·have := hF1 i hi; omega
   ·omega
   ·omega
   ·omega
   ·omega
  have hw3 : w.heap.size ≤ w3.heap.size := HB3.out.size
  have hrow := qaa hbx HR10.out
  rw [← HR.out] at hrow
  refine ⟨w9.heap.size + 1 + 1, fun i => F1 i ∨ i = gl ∨ i = w9.heap.size + 1 + 1 ∨ i = w9.heap.size ∨ i = w9.heap.size + 1, rfl, ⟨⟨gl, _, _, w9.heap.size, w9.heap.size + 1, E, [], F1, hrow, hD, fun i hi => Or.inl hi, HY.out.2.1, qaa hb4x HY.out.2.2.2.1, Or.inr (Or.inl rfl), fun _ _ => ⟨rfl, Or.inl ⟨rfl, _, _, rfl⟩⟩, ?_, ?_, HMB.out.of_block (hbx.block _ HMB.out.lt), qau.nil _ _, Or.inr (Or.inr (Or.inr (Or.inl rfl))), by omega, fun hc => by have := hF1 _ hc; omega, HMH.out.of_block (hbx.block _ HMH.out.lt), Or.inr (Or.inr (Or.inr (Or.inr rfl))), fun hc => by have := hF1 _ hc; omega⟩, Or.inr (Or.inr (Or.inl rfl)), by rw [HL.out]; exact HLL.out, hFl, hFl, hk, hk2, by show (0 : Nat) ≤ 20; omega⟩, ?_, fun i hi => ?_⟩
  ·have h1 := ybgh (G := fun i => i < w6.heap.size) HO7.out (fun b hb => by injection hb with hb; rw [← hb]; have := HGN.out.1; show ¬ (gn < _); omega)
   have h2 := ybgg h1 (qac.of_below hb7x) hFp
   rw [hE32]
   exact h2.mono fun _ hh => qah.of_owns hh
  ·rw [HL.out]
   exact ybtl HN7.out (qac.of_below hb7x) fun i hi => (hFp i hi).imp (fun h => Or.inl h) id
  ·exact ((qac.of_below HB3.out).step HY.out.2.2.1).step (qac.of_below hb4x)
  ·rcases hi with hi | rfl | rfl | rfl | rfl
   ·exact (HY.out.1 i hi).imp id fun h => Nat.le_trans hw3 h
   ·exact Or.inr (Nat.le_trans hw3 HY.out.2.2.2.2)
   all_goals exact Or.inr (by have := HY.out.2.2.1.size; omega)
theorem qek {st : Dk} (h : st.fu = -1) (n : Nat) (D : List Int) : (qcc st n D).fu = -1 ∧ (qcc st n D).N = putS st.N n D := by
 unfold qcc
 rw [if_neg (by rw [h]; decide)]
 refine ⟨?_, rfl⟩
 show decF st.fu = -1
 rw [h]; rfl
theorem zE_at (k : Nat) : ∀ j, j ≤ k → (zE (qbo k) j).fu = -1 ∧ (zE (qbo k) j).N.length = 64 * k ∧ ∀ n, n < k → sec (zE (qbo k) j).N n = qdh
 | 0, _ => ⟨rfl, by show (List.replicate _ _).length = _; simp, fun n hn => by
  show sec (List.replicate (64 * k) 0) n = qdh
  unfold sec qdh
  rw [List.drop_replicate, List.take_replicate]
  congr 1
  omega⟩
 | j + 1, hj => by
  obtain ⟨h1, h2, h3⟩ := zE_at k j (by omega)
  obtain ⟨e1, e2⟩ := qek h1 j qdh
  refine ⟨e1, ?_, fun n hn => ?_⟩
  ·show (qcc (zE (qbo k) j) j qdh).N.length = _
   rw [e2]
   exact qgj h2 (by omega) (by simp [qdh])
  ·show sec (qcc (zE (qbo k) j) j qdh).N n = _
   rw [e2]
   by_cases hnj : n = j
   ·subst hnj; exact qfw h2 hn (by simp [qdh])
   ·rw [qet h2 (by omega) hn (by simp [qdh]) hnj]; exact h3 n hn
theorem ybxc (k : Nat) (hk : 64 ≤ k) (b : List Int) (hb : b.length = 192) : ∀ j, j ≤ 3 → (fE (zE (qbo k) k) b j).fu = -1 ∧ (fE (zE (qbo k) k) b j).N.length = 64 * k ∧ ∀ n, n < k → sec (fE (zE (qbo k) k) b j).N n = if 1 ≤ n ∧ n < 1 + j then sec b (n - 1) else qdh
 | 0, _ => by
  obtain ⟨h1, h2, h3⟩ := zE_at k k (Nat.le_refl _)
  exact ⟨h1, h2, fun n hn => by rw [if_neg (by omega)]; exact h3 n hn⟩
 | j + 1, hj => by
  obtain ⟨h1, h2, h3⟩ := ybxc k hk b hb j (by omega)
  have hl : (sec b j).length = 64 := qhn (k := 3) hb (by omega)
  obtain ⟨e1, e2⟩ := qek h1 (1 + j) (sec b j)
  refine ⟨e1, ?_, fun n hn => ?_⟩
  ·show (qcc (fE (zE (qbo k) k) b j) (1 + j) (sec b j)).N.length = _
   rw [e2]
   exact qgj h2 (by omega) hl
  ·show sec (qcc (fE (zE (qbo k) k) b j) (1 + j) (sec b j)).N n = _
   rw [e2]
   by_cases hnj : n = 1 + j
   ·subst hnj
    rw [qfw h2 hn hl, if_pos (by omega), show 1 + j - 1 = j by omega]
   ·rw [qet h2 (by omega) hn hl hnj, h3 n hn]
    by_cases hc : 1 ≤ n ∧ n < 1 + j
    ·rw [if_pos hc, if_pos (by omega)]
    ·rw [if_neg hc, if_neg (by omega)]
def fmtS (k n : Nat) : List Int := if n = 0 then qfs k else if n = 37 then qif else if 1 ≤ n ∧ n < 4 then sec (qbv (qbe 16)) (n - 1) else qdh
theorem qwt (k : Nat) (hk : 64 ≤ k) (n : Nat) (hn : n < k) : sec (fmtE (qbo k) k).N n = fmtS k n := by
 obtain ⟨h1, h2, h3⟩ := ybxc k hk (qbv (qbe 16)) (qgu _) 3 (by omega)
 obtain ⟨e1, e2⟩ := qek h1 37 qif
 obtain ⟨g1, g2⟩ := qek e1 0 (qfs k)
 have hl2 : (qcc (fE (zE (qbo k) k) (qbv (qbe 16)) 3) 37 qif).N.length = 64 * k := by rw [e2]; exact qgj h2 (by omega) qgy
 have hf : (fmtE (qbo k) k).N = putS (putS (fE (zE (qbo k) k) (qbv (qbe 16)) 3).N 37 qif) 0 (qfs k) := by
  unfold fmtE qfr
  rw [if_neg (by rw [g1]; decide)]
  show (qcc (qcc (fE (zE (qbo k) k) (qbv (qbe 16)) 3) 37 qif) 0 (qfs k)).N = _
  rw [g2, e2]
 rw [hf, ← e2]
 unfold fmtS
 by_cases h0 : n = 0
 ·subst h0
  rw [if_pos rfl, qfw hl2 hn (qgt k)]
 ·rw [if_neg h0, qet hl2 (by omega) hn (qgt k) h0, e2]
  by_cases h37 : n = 37
  ·subst h37
   rw [if_pos rfl, qfw h2 hn qgy]
  ·rw [if_neg h37, qet h2 (by omega) hn qgy h37, h3 n hn]
theorem fmt_st (k : Nat) (hk : 64 ≤ k) : (fmtE (qbo k) k).fu = -1 ∧ (fmtE (qbo k) k).W = [] ∧ (fmtE (qbo k) k).N.length = 64 * k ∧ (fmtE (qbo k) k).S = (fmtE (qbo k) k).N := by
 obtain ⟨h1, h2, h3⟩ := ybxc k hk (qbv (qbe 16)) (qgu _) 3 (by omega)
 obtain ⟨e1, e2⟩ := qek h1 37 qif
 obtain ⟨g1, g2⟩ := qek e1 0 (qfs k)
 have hl2 : (qcc (fE (zE (qbo k) k) (qbv (qbe 16)) 3) 37 qif).N.length = 64 * k := by rw [e2]; exact qgj h2 (by omega) qgy
 unfold fmtE qfr
 rw [if_neg (by rw [g1]; decide)]
 refine ⟨?_, rfl, ?_, rfl⟩
 ·show decF _ = -1
  rw [g1]; rfl
 ·show (qcc (qcc (fE (zE (qbo k) k) (qbv (qbe 16)) 3) 37 qif) 0 (qfs k)).N.length = _
  rw [g2]
  exact qgj hl2 (by omega) (qgt k)
def qlj : Pn := ⟨2, 493, 0, 0, 0, 1, 1, []⟩
def qeg : List Pn := qlj :: List.replicate 31 zN
theorem ybsc : pnOf (half qif 0) = qlj := by kernel_rfl
theorem ybsd (i : Nat) (hi : i < 2) : half qdh i = List.replicate 32 0 := by
 have : i = 0 ∨ i = 1 := by omega
 rcases this with rfl | rfl <;> rfl
theorem ybym : pnOf (List.replicate 32 0) = zN := by kernel_rfl
set_option maxRecDepth 100000 in
theorem ybxh : encF (foB (qbv (qbe 16))) = encF (qbe 16) := by kernel_rfl
theorem ybsf : qbn (foB (qbv (qbe 16))) = 0 := by kernel_rfl
theorem yblx : qbd (qbe 16) 0 = true := by kernel_rfl
theorem qjs : qbd (qbe 16) 1 = false ∧ qbd (qbe 16) 2 = false ∧ qbd (qbe 16) 3 = false := ⟨by kernel_rfl, by kernel_rfl, by kernel_rfl⟩
theorem ybjr : qna (half qif 0) := ⟨by kernel_rfl, by unfold qop; decide, by kernel_rfl, by kernel_rfl⟩
theorem ybqm : qna (List.replicate 32 0) := ⟨by kernel_rfl, by unfold qop; decide, by kernel_rfl, by kernel_rfl⟩
theorem qpc : qju qdh := ⟨by kernel_rfl, by decide, by kernel_rfl, by kernel_rfl⟩
theorem ybqn : qfg qdh = [] := by kernel_rfl
theorem ybdc (k n : Nat) (hn : n ≠ 0) : fmtS k n = fmtS 64 n := by unfold fmtS; rw [if_neg hn, if_neg hn]
theorem qjr (k n : Nat) (h : 4 ≤ n) (h2 : n ≠ 37) : fmtS k n = qdh := by unfold fmtS; rw [if_neg (by omega), if_neg h2, if_neg (by omega)]
theorem qka (i : Nat) (hi : i < 16) : (qbe 16).nd 0 i = ((37 + i : Nat) : Int) := by
 show (if 0 = 0 ∧ i < 16 then _ else _) = _
 rw [if_pos ⟨rfl, hi⟩]
theorem qyv (k : Nat) (j : Nat) (hj : j < 32) : qhf (fmtS k) ((qbe 16).nd 0) j = if j = 0 then half qif 0 else List.replicate 32 0 := by
 unfold qhf
 rw [qka _ (by omega), Int.toNat_natCast]
 by_cases h0 : j = 0
 ·subst h0
  rw [if_pos rfl]
  rfl
 ·rw [if_neg h0]
  by_cases h1 : j = 1
  ·subst h1
   show half qif 1 = _
   unfold half qif
   rw [List.drop_append_of_le_length (by rw [qnq]; omega), List.drop_of_length_le (by rw [qnq]; omega)]
   rfl
  ·rw [qjr k _ (by omega) (by omega)]
   exact ybsd _ (by omega)
theorem ybuu (k : Nat) (hk : 64 ≤ k) : qml (fmtS k) ((qbe 16).nd 0) k := by
 refine ⟨fun j hj => ?_, fun j hj => ?_⟩
 ·rw [qka j hj]; omega
 ·rw [qyv k j hj]
  split
  ·exact ybjr
  ·exact ybqm
theorem ybpw (k : Nat) : qfh (fmtS k) ((qbe 16).nd 0) 32 = qeg := by
 unfold qfh qeg
 apply List.ext_getElem
 ·simp
 ·intro i h1 h2
  have hi : i < 32 := by simpa using h1
  rw [List.getElem_map, List.getElem_range, qyv k i hi]
  cases i with
  | zero => exact ybsc
  | succ i =>
   rw [if_neg (by omega), List.getElem_cons_succ, List.getElem_replicate]
   exact ybym
theorem qzk (k : Nat) : qew (fmtS k) = qbv (qbe 16) := by
 unfold qew
 rw [ybdc k 1 (by omega), ybdc k 2 (by omega), ybdc k 3 (by omega)]
 show sec (qbv (qbe 16)) 0 ++ (sec (qbv (qbe 16)) 1 ++ sec (qbv (qbe 16)) 2) = _
 kernel_rfl
theorem ybtg (k : Nat) (hk : 64 ≤ k) : qmh (fmtS k) (qbe 16) k := by
 refine ⟨by rw [qzk]; exact ybxh, by rw [qzk]; exact ybsf, yblx, fun t i ht hi hth => ?_⟩
 obtain ⟨h1, h2, h3⟩ := qjs
 have : t = 0 ∨ t = 1 ∨ t = 2 ∨ t = 3 := by omega
 rcases this with rfl | rfl | rfl | rfl
 ·rw [qka i hi]; omega
 ·rw [h1] at hth; cases hth
 ·rw [h2] at hth; cases hth
 ·rw [h3] at hth; cases hth
section
variable {N : Nat → List Int} {k : Nat}
theorem ybgc (hk : 64 ≤ k) (hN : ∀ n, n < k → N n = fmtS k n) : qmh N (qbe 16) k := by
 have h := ybtg k hk
 have e : qew N = qew (fmtS k) := by unfold qew; rw [hN 1 (by omega), hN 2 (by omega), hN 3 (by omega)]
 exact ⟨by rw [e]; exact h.eq, by rw [e]; exact h.right, h.root, h.nds⟩
theorem qyw (hk : 64 ≤ k) (hN : ∀ n, n < k → N n = fmtS k n) (j : Nat) (hj : j < 32) : qhf N ((qbe 16).nd 0) j = qhf (fmtS k) ((qbe 16).nd 0) j := by
 unfold qhf
 rw [qka _ (by omega), Int.toNat_natCast, hN _ (by omega)]
theorem ybhb (hk : 64 ≤ k) (hN : ∀ n, n < k → N n = fmtS k n) : qml N ((qbe 16).nd 0) k := by
 have h := ybuu k hk
 exact ⟨h.1, fun j hj => by rw [qyw hk hN j hj]; exact h.2 j hj⟩
theorem qtj (hk : 64 ≤ k) (hN : ∀ n, n < k → N n = fmtS k n) : qfh N ((qbe 16).nd 0) 32 = qeg := by
 rw [← ybpw k]
 unfold qfh
 refine List.map_congr_left fun j hj => ?_
 rw [qyw hk hN j (by simpa using hj)]
theorem ybyj (hk : 64 ≤ k) : ybqu ((qbe 16).nd 0) qeg ((qbe 16).hs 0) k := by
 have e1 : qji ((qbe 16).nd 0) 16 = (List.range 16).map (37 + ·) := by kernel_rfl
 have e2 : qey qeg = [] := by kernel_rfl
 refine ⟨by rw [e1, e2]; decide, fun i hi => ?_, fun x hx p hp => ?_, fun m hm => ?_, fun x hx => ?_⟩
 ·rw [qka i hi]; omega
 ·unfold qeg at hx
  rcases List.mem_cons.1 hx with rfl | hx
  ·cases hp
  ·rw [List.eq_of_mem_replicate hx] at hp; cases hp
 ·rw [e1, e2, List.append_nil, quz]
  show _ = (decide (0 = 0) && decide (37 ≤ m) && decide (m < 37 + 16))
  rw [decide_eq_true rfl, Bool.true_and]
  by_cases h : 37 ≤ m ∧ m < 37 + 16
  ·rw [decide_eq_true h.1, decide_eq_true h.2, decide_eq_true]
   ·rfl
   ·exact List.mem_map.2 ⟨m - 37, List.mem_range.2 (by omega), by omega⟩
  ·rw [decide_eq_false]
   ·by_cases h1 : 37 ≤ m
    ·rw [decide_eq_false (by omega : ¬ m < 37 + 16), Bool.and_false]
    ·rw [decide_eq_false h1, Bool.false_and]
   ·intro hc
    obtain ⟨i, hi, rfl⟩ := List.mem_map.1 hc
    have := List.mem_range.1 hi
    omega
 ·unfold qeg at hx
  rcases List.mem_cons.1 hx with rfl | hx
  ·decide
  ·rw [List.eq_of_mem_replicate hx]; decide
theorem qia (i : Nat) (hi : i < 32) : qeg.getD i zN = if i = 0 then qlj else zN := by
 unfold qeg
 cases i with
 | zero => rfl
 | succ i =>
  rw [if_neg (by omega), List.getD_cons_succ, List.getD_eq_getElem?_getD, List.getElem?_replicate, if_pos (by omega)]
  rfl
theorem qsx : qjj N qeg = [] := by
 unfold qjj
 rw [qia 0 (by omega), if_pos rfl]
 rfl
theorem ybli (hk : 64 ≤ k) (hN : ∀ n, n < k → N n = fmtS k n) : qlq N (qbe 16) 0 k qeg := by
 refine ⟨ybhb hk hN, qtj hk hN, ybyj hk, by rw [qia 0 (by omega), if_pos rfl]; decide, by rw [qsx]; kernel_rfl, ?_, by rw [qia 0 (by omega), if_pos rfl]; rfl, fun i hi => ?_⟩
 ·rw [qsx, show outD [] = [] by kernel_rfl]
  refine ⟨by simp [qeg], fun i h => ?_, fun x hx => (by cases hx), by simp⟩
  have hi : i < 32 := by simpa [qeg] using h
  have := qia i hi
  rw [List.getD_eq_getElem?_getD, List.getElem?_eq_getElem h, Option.getD_some] at this
  rw [this]
  by_cases h0 : i = 0
  ·rw [if_pos h0]; simp [h0, qlj]
  ·rw [if_neg h0]; simp [h0, zN]
 ·rw [qsx, show outD [] = [] by kernel_rfl, qia i hi]
  by_cases h0 : i = 0
  ·subst h0
   rw [if_pos rfl]
   exact ⟨by kernel_rfl, fun h => by cases h⟩
  ·rw [if_neg h0]
   have e : qxg [] i = 0 := by
    unfold qxg
    rw [if_neg h0]
    have h2 : qdw [] = List.replicate 32 0 := by kernel_rfl
    rw [h2, List.getD_eq_getElem?_getD, List.getElem?_replicate, if_pos hi]
    rfl
   rw [e]
   exact ⟨rfl, fun _ => by omega⟩
theorem ybfk (hk : 64 ≤ k) (hN : ∀ n, n < k → N n = fmtS k n) : qje N (qbe 16) k := by
 refine ⟨by rw [hN 0 (by omega)]; rfl, ybgc hk hN, by rw [hN 4 (by omega), qjr k 4 (by omega) (by omega)]; exact qpc, fun t ht hth => ?_⟩
 obtain ⟨h1, h2, h3⟩ := qjs
 have : t = 0 ∨ t = 1 ∨ t = 2 ∨ t = 3 := by omega
 rcases this with rfl | rfl | rfl | rfl
 ·exact ⟨qeg, ybli hk hN⟩
 ·rw [h1] at hth; cases hth
 ·rw [h2] at hth; cases hth
 ·rw [h3] at hth; cases hth
end
def fs0 (k : Nat) : Fs := ⟨fmtE (qbo k) k, k, 0, qbe 16, [], qeg, []⟩
theorem qwg (k n : Nat) (hk2 : k ≤ 256) : ∀ x ∈ fmtS k n, 0 ≤ x ∧ x ≤ 255 := by
 have hb : ∀ l : List Int, (l.all fun x => decide (0 ≤ x) && decide (x ≤ 255)) = true → ∀ x ∈ l, 0 ≤ x ∧ x ≤ 255 := fun l h x hx => by
  have := List.all_eq_true.1 h x hx
  simpa using this
 have hz : (qdh.all fun x => decide (0 ≤ x) && decide (x ≤ 255)) = true := by kernel_rfl
 unfold fmtS
 split
 ·intro x hx
  unfold qfs at hx
  have h0 := hb (over (List.replicate 64 0) 0 (bI ybnp)) (by kernel_rfl)
  rcases List.mem_or_eq_of_mem_set hx with hx | rfl
  ·rcases List.mem_or_eq_of_mem_set hx with hx | rfl
   ·exact h0 x hx
   ·omega
  ·omega
 ·split
  ·exact hb _ (by kernel_rfl)
  ·split
   ·next h => 
    have : n = 1 ∨ n = 2 ∨ n = 3 := by omega
    rcases this with rfl | rfl | rfl <;> exact hb _ (by kernel_rfl)
   ·exact hb _ hz
set_option maxRecDepth 100000 in
theorem qmy (k : Nat) (hk : 64 ≤ k) (hk2 : k ≤ 256) (w : World) :
  Calls Tryz.prog 9 #[.int .i64 (k : Int)] w
   (fun e w' => ∃ gf a F, e = .returned (.tuple #[.pointer (some ⟨gf, 0, none⟩), .pointer (some a)]) ∧ FsAt w' gf (fs0 k) F w'.heap.size a ∧ Below w.heap.size w w' ∧ (∀ i, F i → w.heap.size ≤ i)) := by
 have HN := Lib.hid (ybya k (k : Int) rfl (by omega) hk2 w)
 obtain ⟨g1, g2, g3, g4⟩ := fmt_st k hk
 have hsec := qwt k hk
 have HM := Lib.hid (fun (W : World) (a : Addr) (F : Nat → Prop) (h : qay W (.pointer (some a)) (fmtE (qbo k) k) k F) => ybgd h hk hk2 (fmtE (qbo k) k) 0 (fun W' hW' => ybnx (h.below hW') hk hk2 (by rw [hsec 5 (by omega), qjr k 5 (by omega) (by omega)]; rfl))
  (by rw [hsec 0 (by omega)]; rfl) (fun n hn => by rw [hsec n hn]; exact qwg k n hk2) (qbe 16) (ybgc hk hsec) (ybhb hk hsec) (by rw [hsec 4 (by omega), qjr k 4 (by omega) (by omega)]; exact qpc) (by rw [hsec 4 (by omega), qjr k 4 (by omega) (by omega)]; exact ybqn) (by
   rw [qtj hk hsec]
   intro X hX
   unfold qeg at hX
   rcases List.mem_cons.1 hX with rfl | hX
   ·right; decide
   ·left; rw [List.eq_of_mem_replicate hX]; rfl))
 rw [qtj hk hsec] at HM
 clear g1 g2 g3 g4 hsec
 go_enter Tryz.func9, Tryz.ntmps9
 go_wp2_with fail
 refine HN.out.mono ?_
 rintro e w1 ⟨d, F, rfl, hd, hF, hb, hne⟩
 obtain ⟨a, rfl⟩ := hd.ptr
 have HF := Lib.hid hF
 have HB := Lib.hid hb
 have HFM := Lib.hid (ybma hd hk hk2 (by simp [qbo]))
 clear hd hF hb hne
 go_wp2_with fail
 refine HFM.out.mono ?_
 rintro e w2 ⟨rfl, F2, y1, y2, y3⟩
 have HM2 := Lib.hid (HM.out w2 a F2 y1)
 have HB2 : Hid (Below w.heap.size w w2) := HB.out.trans (y3.to_below HF.out HB.out.size)
 have HF2 : Hid (∀ i, F2 i → w.heap.size ≤ i) := fun i hi => (y2 i hi).elim (HF.out i) (fun h => Nat.le_trans HB.out.size h)
 clear y1 y2 y3
 go_wp2_with fail
 refine HM2.out.mono ?_
 rintro e w3 ⟨gf, F3, rfl, h1, h2, h3⟩
 have HX : Hid (FsAt w3 gf (fs0 k) F3 w3.heap.size a ∧ Below w.heap.size w w3 ∧ ∀ i, F3 i → w.heap.size ≤ i) := ⟨h1, HB2.out.trans (h2.to_below HF2.out HB2.out.size), fun i hi => (h3 i hi).elim (HF2.out i) (fun h => Nat.le_trans HB2.out.size h)⟩
 clear h1 h2 h3
 go_wp2
 go_ret2
 exact ⟨gf, a, F3, rfl, HX.out⟩
end Go.Proofs.YtpoglnpjadmbpaaGreatDoor
namespace Go.Proofs.YtpoglnpjadmbpaaGreatDoor
open Go.RowKit Go.Sort Go.Shelf
def toJs (y : Int × Value) : Js := (Fin.ofNat 256 y.1.toNat, match y.2 with | .slice q n c => (q, n, c) | _ => (none, 0, 0))
def qlo (l : List (Int × Value)) : List Value := l.flatMap fun y => [.int .i64 y.1, y.2]
def IsW (y : Int × Value) : Prop := (0 ≤ y.1 ∧ y.1 < 256) ∧ ∃ q n c, y.2 = .slice q n c
theorem ybut {y : Int × Value} (h : IsW y) : encS (toJs y) = [.int .i64 y.1, y.2] := by
 obtain ⟨⟨h1, h2⟩, q, n, c, h3⟩ := h
 obtain ⟨k, v⟩ := y
 dsimp only at h1 h2 h3
 subst h3
 unfold encS toJs
 dsimp only
 rw [Fin.val_ofNat, Nat.mod_eq_of_lt (by omega)]
 congr 2
 omega
theorem qvx {l : List (Int × Value)} (h : ∀ y ∈ l, IsW y) : qlo l = (l.map toJs).flatMap encS := by
 unfold qlo
 rw [List.flatMap_map]
 induction l with
 | nil => rfl
 | cons y l ih => rw [List.flatMap_cons, List.flatMap_cons, ih (fun z hz => h z (List.mem_cons_of_mem _ hz)), ybut (h y List.mem_cons_self)]
theorem qqm {y : Int × Value} (h : IsW y) : ((toJs y).1.val : Int) = y.1 := by
 obtain ⟨⟨h1, h2⟩, _⟩ := h
 unfold toJs
 dsimp only
 rw [Fin.val_ofNat, Nat.mod_eq_of_lt (by omega)]
 omega
theorem ybpj {l done : List (Int × Value)} {T : List Js} (hl : qdc l) (hw : ∀ y ∈ l, IsW y) (hp : done.Perm l) (ht : T.Perm (done.map toJs)) (hs : T.Pairwise (fun a b => a.1.val ≤ b.1.val)) : T = l.map toJs := by
 have hp2 : T.Perm (l.map toJs) := ht.trans (hp.map _)
 have hr : (l.map toJs).Pairwise (fun a b => a.1.val ≤ b.1.val) := by
  rw [List.pairwise_map]
  refine (List.Pairwise.and_mem.1 hl).imp fun {a b} h => ?_
  have h1 := qqm (hw a h.1)
  have h2 := qqm (hw b h.2.1)
  have h3 := h.2.2
  omega
 refine List.Perm.eq_of_pairwise (fun x y hx hy h1 h2 => ?_) hs hr hp2
 obtain ⟨a, ha, rfl⟩ := List.mem_map.1 (hp2.mem_iff.1 hx)
 obtain ⟨b, hb, rfl⟩ := List.mem_map.1 hy
 have e1 := qqm (hw a ha)
 have e2 := qqm (hw b hb)
 have e3 : a.1 = b.1 := by omega
 have := qdj hl (k := a.1) (v := a.2) ha
 rw [e3, qdj hl (k := b.1) (v := b.2) hb] at this
 have : a = b := Prod.ext e3 (Option.some.inj this).symm
 rw [this]
theorem ybeq (l : List (Int × Value)) (k : Int) (v : Value) : qlo (l ++ [(k, v)]) = qlo l ++ [.int .i64 k, v] := by unfold qlo; rw [List.flatMap_append]; rfl
def qor (tl : List (Int × Value)) (todo : List (Int × List Int)) : List Jw := List.zipWith (fun y z => ⟨y.1.toNat, y.2, z.2⟩) tl todo
theorem qrz : ∀ {tl : List (Int × Value)} {todo : List (Int × List Int)}, tl.length = todo.length → (∀ y ∈ tl, IsW y) → qhh (qor tl todo) = qlo tl
 | [], [], _, _ => rfl
 | [], _ :: _, h, _ => by simp at h
 | _ :: _, [], h, _ => by simp at h
 | y :: tl, z :: todo, h, hw => by
  have ih := qrz (tl := tl) (todo := todo) (by simpa using h) fun q hq => hw q (List.mem_cons_of_mem _ hq)
  have h1 := (hw y List.mem_cons_self).1
  show qhh (⟨y.1.toNat, y.2, z.2⟩ :: qor tl todo) = _
  rw [show (⟨y.1.toNat, y.2, z.2⟩ : Jw) :: qor tl todo = [⟨y.1.toNat, y.2, z.2⟩] ++ qor tl todo from rfl, qnf, ih]
  show _ = [Value.int .i64 y.1, y.2] ++ qlo tl
  congr 1
  show [Value.int .i64 (y.1.toNat : Int), y.2] = _
  rw [show ((y.1.toNat : Nat) : Int) = y.1 by omega]
theorem ybaa : ∀ {tl : List (Int × Value)} {todo : List (Int × List Int)}, tl.map (·.1) = todo.map (·.1) → (qor tl todo).map jab = todo.map (fun y => (y.1.toNat, y.2))
 | [], [], _ => rfl
 | [], _ :: _, h => by simp at h
 | _ :: _, [], h => by simp at h
 | y :: tl, z :: todo, h => by
  simp only [List.map_cons, List.cons.injEq] at h
  have ih := ybaa h.2
  show jab ⟨y.1.toNat, y.2, z.2⟩ :: (qor tl todo).map jab = _
  rw [ih, List.map_cons]
  unfold jab
  rw [h.1]
theorem ybmz {tl : List (Int × Value)} {todo : List (Int × List Int)} (h : tl.length = todo.length) : (qor tl todo).length = tl.length := by unfold qor; rw [List.length_zipWith]; omega
theorem ybab {w : World} {B : Nat} : ∀ {tl : List (Int × Value)} {todo : List (Int × List Int)}, qau w B tl todo → (∀ y ∈ tl, IsW y) → ∀ x ∈ qor tl todo, qmg w B x
 | [], _, _, _, x, hx => by simp [qor] at hx
 | _ :: _, [], h, _, x, hx => by simp [qor] at hx
 | y :: tl, z :: todo, h, hw, x, hx => by
  obtain ⟨h1, h2, h3⟩ := h.tail
  rcases List.mem_cons.1 (show x ∈ ⟨y.1.toNat, y.2, z.2⟩ :: qor tl todo from hx) with rfl | hx
  ·have hk := (hw y List.mem_cons_self).1
   obtain ⟨g, cap, cur, q1, q2, q3, q4, q5, q6⟩ := h2
   exact ⟨by show y.1.toNat < 256; omega, q2, g, cap, cur, q1, ⟨q4, q3⟩, q5, q6⟩
  ·exact ybab h3 (fun q hq => hw q (List.mem_cons_of_mem _ hq)) x hx
theorem wsInfo : (Tryz.prog.info? 169).map (fun i => (i.zero, i.size, i.bytes)) = some (some (.agg #[.int .i64 0, .slice none 0 0]), 2, 32) := by kernel_rfl
theorem wsT : Tryz.prog.underlying 123 = some (.slice 169) := by kernel_rfl
set_option maxRecDepth 100000 in
theorem ybml {w : World} {gf : Nat} {s : Fs} {F : Nat → Prop} {B : Nat} {a : Addr} (h : FsAt w gf s F B a) (hk : ∀ y ∈ s.todo, 0 ≤ y.1 ∧ y.1 < 256) (hl : s.todo.length ≤ 1000) :
  Calls Tryz.prog 68 #[.pointer (some ⟨gf, 0, none⟩)] w
   (fun e w' => ∃ v E, e = .returned v ∧ qfn w' w.heap.size B v E ∧ E.map jab = s.todo.map (fun y => (y.1.toNat, y.2)) ∧ Below w.heap.size w w') := by
 obtain ⟨⟨gl, rv, nv, bt, bh, E, tl, FD, h1, h2, h3, h4, h5, h6, h7, h8, h9, h10, h11, h12, h13, h14, h15, h16, h17⟩, a1, a2, a3, a4, a5, a6, a7⟩ := h
 obtain ⟨_, _, _, _, c196, _⟩ := qfl h1
 have HM := Lib.hid h10
 have HSC := Lib.hid h11
 have HGF : Hid (gf < w.heap.size) := qab h1
 have hlen : tl.length = s.todo.length := h11.len
 have HLT : Hid (tl.length ≤ 1000) := by show _ ≤ _; omega
 have HIW : Hid (∀ y ∈ tl, IsW y) := fun y hy => by
  obtain ⟨i, hi, rfl⟩ := List.mem_iff_getElem.1 hy
  have hi2 : i < s.todo.length := by omega
  have hkey : tl[i].1 = s.todo[i].1 := by
   have := congrArg (fun l => l[i]?) h11.1
   simp only [List.getElem?_map, List.getElem?_eq_getElem hi, List.getElem?_eq_getElem hi2, Option.map_some, Option.some.injEq] at this
   exact this
  refine ⟨by rw [hkey]; exact hk _ (List.getElem_mem hi2), ?_⟩
  obtain ⟨g, cap, cur, hv, _⟩ := h11.2 i hi hi2
  exact ⟨_, _, _, hv⟩
 clear h1 h2 h3 h4 h5 h6 h7 h8 h9 h10 h11 h12 h13 h14 h15 h16 h17 a1 a2 a3 a4 a5 a6 a7 hlen
 obtain ⟨i0, hi0, hz0, hz1, hz2⟩ := info_parts wsInfo
 have HI0 := Lib.hid hi0
 have HIZ := Lib.hid hz0
 have HI1 := Lib.hid hz1
 have HI2 := Lib.hid hz2
 clear hi0 hz0 hz1 hz2
 go_enter Tryz.func68, Tryz.ntmps68
 go_wp2_with (at_range; refine qfm _ rfl _ _ rfl 3 38 intT qpx bt tl rfl HM.out ?_; intro w4 hr4 hg4 hs4)
 have HB4 : Hid (Below w.heap.size w w4) := Below.grown (Below.refl _ _) hg4 (Nat.le_refl _) (fun q hq => by cases hq)
 have HR4 := Lib.hid hr4
 obtain ⟨r0, Hr0⟩ : ∃ r, Hid (w.heap.size = r) := ⟨_, rfl⟩
 have HBT : Hid (bt < w.heap.size) := HM.out.lt
 clear hr4 hg4 c196
 simp only [Act.put, List.setIfInBounds_toArray, List.set_cons_zero, List.set_cons_succ]
 go_loopw [3] (fun ov wr => ∃ (done : List (Int × Value)) (cnt : Nat), Hid (qef Tryz.prog 3 wr bt w.heap.size tl done cnt) ∧ Hid (Below w.heap.size w wr) ∧ Hid (wr.ownsRow (w.heap.size + 1) 169 2 ov done.length (qlo done))) (fun _ wr => wr.rangeLeft bt w.heap.size)
 case atStart => exact ⟨[], tl.length, HR4, HB4, ⟨rfl, Or.inl ⟨rfl, rfl⟩⟩⟩
 case round =>
  obtain ⟨done, cnt, HRG, HBR, HOW⟩ := hrel
  have hle := HRG.out.left_eq
  go_wp2_with (first
   | (at_next; refine qgm _ rfl _ rfl 3 intT bt _ tl done cnt rfl HRG.out (fun hp => ?qd) (fun xk c' w' cnt' hxz hmem hnot hlen' hrg' hlt hgr hsz hen => ?qm); (case' qm => (have HRG' := Lib.hid hrg'; have HDL := Lib.hid hlen'; have HLE := Lib.hid hrg'.left_eq; have HCT := Lib.hid hlt; obtain ⟨q', n', cc', hcv⟩ := (HIW.out _ hmem).2; have hcv2 : c' = Value.slice q' n' cc' := hcv; subst hcv2; have HB' : Hid (Below w.heap.size w w') := Below.grown HBR.out hgr HBR.out.size (fun q hq => by injection hq with hq; omega); have HOW' : Hid (w'.ownsRow (w.heap.size + 1) 169 2 u3 done.length (qlo done)) := qav HOW.out (fun b hb => hgr.block b (HOW.out.lt b hb).2 (fun hc => by injection hc with hc; have := (HOW.out.lt b hb).1; omega)); have HSZ' : Hid (w.heap.size < w'.heap.size) := hrg'.lt; clear hcv hxz hmem hnot hlen' hrg' hlt hgr hsz)))
   | (at_builtin; refine wpList_append_own _ rfl _ _ 123 rfl (w.heap.size + 1) 169 i0 (.agg #[.int .i64 0, .slice none 0 0]) 2 32 wsT HI0.out HIZ.out HI1.out HI2.out rfl (by decide) _ done.length (qlo done) rfl (qap HOW'.out ((Below.refl _ _).alloc (Nat.le_refl _) _)) ⟨w'.heap.size, 0, none⟩ 1 1 [.int .i64 xk, .slice q' n' cc'] rfl rfl (World.news_of_block (cs := #[.int .i64 xk, .slice q' n' cc']) (t := 169) (fr := (0, 0)) (heap_alloc_new w' _)) (by simp [Value.oneCell']) (by unfold maxLen; have := HDL.out; have := HLT.out; omega) (by have := HDL.out; have := HLT.out; omega) (by have := HSZ'.out; simp; omega) ?_; intro v5 w5 hown hgrow _))
  ·have hne : ∀ b, u3.ownBlock = some b → w.heap.size + 1 ≤ b := fun b hb => (HOW'.out.lt b hb).1
   have hb5 : ∀ b, b ≤ w.heap.size → b < w'.heap.size → w5.heap[b]? = w'.heap[b]? := fun b h1 h2 => (hgrow.block b (by simp; omega) (fun hc => by have := hne b hc.symm; omega)).trans (heap_alloc_old _ _ h2)
   have hrg5 := HRG'.out.of_block (hb5 bt (by have := HBT.out; omega) HRG'.out.map.lt) (hb5 w.heap.size (Nat.le_refl _) HSZ'.out)
   refine ⟨⟨_, cnt', hrg5, Below.grown (HB'.out.alloc HB'.out.size _) hgrow (by have := HSZ'.out; simp; omega) (fun q hq => by have := hne q hq; omega), ?_⟩, by rw [hrg5.left_eq, hle]; exact HCT.out⟩
   show World.ownsRow _ _ _ _ _ _ _
   rw [ybeq, List.length_append]
   exact hown
  ·have hsub : ∀ y ∈ done, IsW y := fun y hy => HIW.out y (hp.mem_iff.1 hy)
   have how := HOW.out
   rw [qvx hsub, ← List.length_map (f := toJs)] at how
   have HSRT := Lib.hid (ybph (w.heap.size + 1) u3 (done.map toJs) wr how (by rw [List.length_map, hp.length_eq]; have := HLT.out; omega))
   have HPM := Lib.hid hp
   clear hp hsub how hle
   refine HSRT.out.mono ?_
   rintro e w6 ⟨rfl, T, hT1, hT2, hT3, hT4⟩
   have hTe := ybpj HRG.out.map.2.1 HIW.out HPM.out hT1 hT2
   have HB6 : Hid (Below w.heap.size w w6) := Below.grown HBR.out hT4 HBR.out.size (fun q hq => by have := (HOW.out.lt q hq).1; omega)
   have hlt2 : tl.length = s.todo.length := HSC.out.len
   have HJ : Hid (qfn w6 w.heap.size B u3 (qor tl s.todo)) := by
    refine ⟨?_, ybab (HSC.out.keep fun g cc _ hc => HB6.out.block g (qab hc)) HIW.out⟩
    rw [qrz hlt2 HIW.out, ybmz hlt2, qvx HIW.out]
    rw [hTe, List.length_map, HPM.out.length_eq] at hT3
    exact qcv hT3 (by omega)
   clear hT1 hT2 hT3 hT4 hTe hlt2
   go_wp2
   go_ret
   exact ⟨u3, _, rfl, HJ.out, ybaa HSC.out.1, HB6.out⟩
end Go.Proofs.YtpoglnpjadmbpaaGreatDoor
