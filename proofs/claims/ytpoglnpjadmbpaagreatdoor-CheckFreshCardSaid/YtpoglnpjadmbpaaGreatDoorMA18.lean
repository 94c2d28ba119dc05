/- Part of the proofs of CheckFresh, FsCut, FsHoles: the texts Quota14, ExtUnpW, ExtBackP. -/
import Derived.Test.YtpoglnpjadmbpaaGreatDoorMA15
import Derived.Lib.Overlaps
import Derived.Laws.Externs
import Derived.Lib.AppendZerosOnto
import Derived.Lib.AppendZeros
import Derived.Deep.DeepAppendWide
import Derived.Deep.RegionHeld3
import Derived.Deep.AppendLies
set_option maxHeartbeats 16000000
namespace Go.Proofs.YtpoglnpjadmbpaaGreatDoor
open Go.RowKit
def qro (l : List (Int × Int)) : List Int := l.flatMap fun x => [x.1, x.2 % 256, x.2 / 256]
theorem qzi (l : List (Int × Int)) : (qro l).length = l.length * 3 := by
 induction l with
 | nil => rfl
 | cons x l ih => simp only [qro, List.flatMap_cons, List.length_append, List.length_cons, List.length_nil] at *; omega
theorem qzh (a b : List (Int × Int)) : qro (a ++ b) = qro a ++ qro b := by simp [qro]
def qfe (n : Int) (l : List (Int × Int)) : List Int := n :: (qro l ++ List.replicate (63 - l.length * 3) 0)
theorem qnm (n : Int) (l : List (Int × Int)) (h : l.length ≤ 20) : (qfe n l).length = 64 := by
 have := qzi l
 simp [qfe]; omega
theorem ybol (n : Int) (l : List (Int × Int)) (x : Int × Int) (h : l.length < 20) :
  (((byts (qfe n l)).setIfInBounds (l.length * 3 + 1) (.int .u8 x.1)).setIfInBounds (l.length * 3 + 2) (.int .u8 (x.2 % 256))).setIfInBounds (l.length * 3 + 3) (.int .u8 (x.2 / 256)) = byts (qfe n (l ++ [x])) := by
 have h1 := qzi l
 unfold byts qfe
 rw [qzh, List.length_append, show 63 - l.length * 3 = (60 - l.length * 3) + 1 + 1 + 1 by omega, List.replicate_succ, List.replicate_succ, List.replicate_succ, show 63 - (l.length + [x].length) * 3 = 60 - l.length * 3 by simp; omega]
 simp only [List.setIfInBounds_toArray, List.map_append, List.map_cons, List.set_cons_succ]
 rw [List.set_append_right _ _ (by simp; omega)]
 rw [show l.length * 3 - (List.map (fun n => Value.int IntKind.u8 n) (qro l)).length = 0 by simp; omega]
 rw [List.set_append_right _ _ (by simp; omega)]
 rw [show l.length * 3 + 1 - (List.map (fun n => Value.int IntKind.u8 n) (qro l)).length = 1 by simp; omega]
 rw [List.set_append_right _ _ (by simp; omega)]
 rw [show l.length * 3 + 2 - (List.map (fun n => Value.int IntKind.u8 n) (qro l)).length = 2 by simp; omega]
 simp [qro]
theorem make64 (W : World) : (Instr.makeSlice 38 (.int .i64 64) (.int .i64 64)).run Tryz.prog W = .ok (.slice (some ⟨W.heap.size, 0, none⟩) 64 64) (W.alloc (.cells (byts (qfe 0 [])) 5)) := by kernel_rfl
theorem ybea (n : Int) : (byts (qfe 0 [])).setIfInBounds 0 (.int .u8 n) = byts (qfe n []) := rfl
def qwb (l : List (Int × Int)) (w : World) (e : Ending) (w' : World) : Prop :=
 ∃ g, e = .returned (.tuple #[.slice (some ⟨g, 0, none⟩) 64 64, .int .i64 0]) ∧ w.heap.size ≤ g ∧ w'.heap[g]? = some (.cells (byts (qfe l.length l)) 5 (0, 0)) ∧ Below w.heap.size w w'
theorem ybay {l : List (Int × Int)} (h : qdg l = 0) : l.length ≤ 20 ∧ okQ l = true := by
 unfold qdg at h
 split at h
 ·cases h
 ·split at h
  ·exact ⟨by omega, by assumption⟩
  ·cases h
theorem ybok (v : Value) (l : List (Int × Int)) (w : World) (h : qah w v 2 l.length (qby l)) (hl : l.length ≤ 1000000) (c : Int) (hc : Hid (qdg l = c)) (hc0 : (c != 0) = true) :
  Calls Tryz.prog 84 #[v] w fun e w' => e = .returned (.tuple #[.slice none 0 0, .int .i64 c]) ∧ Below w.heap.size w w' := by
 have HR := Lib.hid (qvp v l w h hl)
 rw [hc.out] at HR
 clear h
 go_enter Tryz.func84, Tryz.ntmps84
 go_wp2_with fail
 refine HR.out.mono ?_
 rintro e w' ⟨rfl, hb⟩
 go_wp2
 go_ret2
 exact ⟨rfl, hb⟩
set_option maxRecDepth 100000 in
theorem qvk (v : Value) (l : List (Int × Int)) (w : World) (h : qah w v 2 l.length (qby l)) (hr : qdg l = 0) :
  Calls Tryz.prog 84 #[v] w (qwb l w) := by
 obtain ⟨hl20, hok⟩ := ybay hr
 have HR := qvp v l w h (by omega)
 rw [hr] at HR
 have HRH := Lib.hid HR
 have HOK := Lib.hid hok
 obtain ⟨a, c, hv, HC⟩ := qvq h
 obtain ⟨n, HN⟩ : ∃ n, Hid (n = l.length) := ⟨_, rfl⟩
 rw [← HN.out] at hv hl20
 have HCH := Lib.hid HC
 clear HC h hok hr HR
 subst hv
 unfold qwb
 rw [← HN.out]
 obtain ⟨Z0, HZ⟩ : ∃ Z, Hid (Z = byts (qfe 0 [])) := ⟨_, rfl⟩
 have hmk : ∀ W : World, (Instr.makeSlice 38 (.int .i64 64) (.int .i64 64)).run Tryz.prog W = .ok (.slice (some ⟨W.heap.size, 0, none⟩) 64 64) (W.alloc (.cells Z0 5)) := fun W => by rw [HZ.out]; exact make64 W
 go_enter Tryz.func84, Tryz.ntmps84
 go_wp2_with fail
 refine HRH.out.mono ?_
 rintro e w1 ⟨rfl, hb1⟩
 have hs1 := hb1.size
 obtain ⟨B, HB⟩ : ∃ B, Hid (B = w1.heap.size) := ⟨_, rfl⟩
 have hZ0 : Hid ((w1.alloc (.cells Z0 5)).heap[B]? = some (.cells Z0 5 (0, 0))) := by show _ = _; rw [HB.out]; exact heap_alloc_new _ _
 have HB0 : Below w.heap.size w (w1.alloc (.cells Z0 5)) := hb1.alloc hs1 _
 have x0 : (w1.alloc (.cells Z0 5)).cell? ⟨B, 0, none⟩ = some (.int .u8 0) := by
  rw [cell_of_row _ _ _ _ _ _ hZ0.out, HZ.out]; rfl
 have f0 : (w1.alloc (.cells Z0 5)).frozen? ⟨B, 0, none⟩ = false := frozen_of_row _ _ _ _ _ hZ0.out
 rw [HB.out] at x0 f0
 have hn1 : (n : Int) % 256 = (n : Int) := by omega
 go_wp2_with fail
 have H00 : Hid ((w1.alloc (Obj.cells (Z0.setIfInBounds 0 (Value.int IntKind.u8 n)) 5)).heap[w1.heap.size]? = some (.cells (byts (qfe n (l.take 0))) 5 (0, 0))) := by
  show _ = _
  rw [heap_alloc_new, HZ.out, ybea]
  rfl
 have HB1 : Below w.heap.size w (w1.alloc (Obj.cells (Z0.setIfInBounds 0 (Value.int IntKind.u8 n)) 5)) := hb1.alloc hs1 _
 clear hmk hZ0 HB0 x0 f0 hn1
 go_loopw [21] (fun i wr => ∃ k : Nat, k ≤ n ∧ i = .int .i64 k ∧ Below w.heap.size w wr ∧ Hid (wr.heap[w1.heap.size]? = some (.cells (byts (qfe n (l.take k))) 5 (0, 0)))) (fun i _ => n - (intOf i).toNat)
 case atStart => exact ⟨0, Nat.zero_le _, rfl, HB1, H00⟩
 case round =>
  obtain ⟨k, hk, rfl, HBR, H0⟩ := hrel
  by_cases hlt : k < n
  ·have hkl : k < l.length := by rw [← HN.out]; exact hlt
   obtain ⟨g, o, rfl, hg, hc⟩ := HCH.out (by omega)
   obtain ⟨x, Hx⟩ : ∃ x, Hid (x = l[k].1) := ⟨l[k].1, rfl⟩
   obtain ⟨y, Hy⟩ : ∃ y, Hid (y = l[k].2) := ⟨l[k].2, rfl⟩
   have c0 : wr.cell? ⟨g, o + k * 2, none⟩ = some (.int .i64 x) := by rw [HBR.cell (p := ⟨g, o + k * 2, none⟩) hg, (hc k hkl).1, Hx.out]
   have c1 : wr.cell? ⟨g, o + k * 2 + 1, none⟩ = some (.int .i64 y) := by rw [HBR.cell (p := ⟨g, o + k * 2 + 1, none⟩) hg, (hc k hkl).2, Hy.out]
   have ho := (qhj l k).1 (ybwb HOK.out k hkl)
   rw [ybdj l k hkl, ← Hx.out, ← Hy.out] at ho
   obtain ⟨x0, x1, y0, y1, _⟩ := ho
   have hlen : (l.take k).length = k := by rw [List.length_take, ← HN.out]; omega
   have HXY : Hid (l.take (k + 1) = l.take k ++ [(x, y)]) := by
    show _ = _
    rw [← List.take_append_getElem hkl, Hx.out, Hy.out]
   have hsz : (byts (qfe n (l.take k))).size = 64 := by
    have := qnm n (l.take k) (by omega)
    simpa [byts] using this
   have hB : w1.heap.size < wr.heap.size := qab H0.out
   have hcx : ∀ j, j < 64 → ∃ x, wr.cell? ⟨w1.heap.size, j, none⟩ = some x := fun j hj => by
    rw [cell_of_row _ _ _ _ _ _ H0.out]
    exact ⟨_, Array.getElem?_eq_getElem (by rw [hsz]; exact hj)⟩
   obtain ⟨z1, hz1⟩ := hcx (3 * k + 1) (by omega)
   obtain ⟨z2, hz2⟩ := hcx (3 * k + 2) (by omega)
   obtain ⟨z3, hz3⟩ := hcx (3 * k + 3) (by omega)
   have f1 : wr.frozen? ⟨w1.heap.size, 3 * k + 1, none⟩ = false := frozen_of_row _ _ _ _ _ H0.out
   have f2 : wr.frozen? ⟨w1.heap.size, 3 * k + 2, none⟩ = false := frozen_of_row _ _ _ _ _ H0.out
   have f3 : wr.frozen? ⟨w1.heap.size, 3 * k + 3, none⟩ = false := frozen_of_row _ _ _ _ _ H0.out
   have HSZ := Lib.hid hsz
   have HLEN := Lib.hid hlen
   clear hcx hc hsz hlen
   go_wp2
   go_region
   all_goals
    go_wp2
    go_roundw
    case rel =>
     refine ⟨k + 1, by omega, by go_num, ?_, ?_⟩
     ·exact ((((HBR.setCell hs1 _).setCell hs1 _).setCell hs1 _).alloc (((HBR.setCell hs1 _).setCell hs1 _).setCell hs1 _).size _).drew
     ·have h1 := qad (heap_setCell_same _ _ (3 * k + 3) _ _ (.int .u8 (y / 256)) (heap_setCell_same _ _ (3 * k + 2) _ _ (.int .u8 (y % 256)) (heap_setCell_same _ _ (3 * k + 1) _ _ (.int .u8 x) H0.out))) (Obj.cells #[Value.int IntKind.i64 x, Value.int IntKind.i64 y] 145)
      have h2 := ybol n (l.take k) (x, y) (by rw [HLEN.out]; omega)
      rw [HLEN.out, show k * 3 = 3 * k by omega, ← HXY.out] at h2
      show _ = _
      rw [← h2]
      exact h1
    case measure => simp [intOf]; omega
  ·have hkn : k = n := by omega
   have HF : Hid (l.take k = l) := by show _ = _; rw [hkn, HN.out]; exact List.take_length
   have H4 : Hid (wr.heap[w1.heap.size]? = some (.cells (byts (qfe n l)) 5 (0, 0))) := by
    have := H0.out
    rw [HF.out] at this
    exact this
   clear H0 HF
   go_wp2
   go_ret2
   exact ⟨_, rfl, hs1, H4.out, HBR⟩
def ybch (bs : List Int) (w : World) (e : Ending) (w' : World) : Prop :=
 (qop bs ∧ ∃ v, e = .returned (.tuple #[v, .int .i64 0]) ∧ qan w' v (qfo bs).1 ∧ Below w.heap.size w w' ∧ ∀ b, v.ownBlock = some b → w.heap.size ≤ b) ∨
 (¬ qop bs ∧ e = .returned (.tuple #[.slice none 0 0, .int .i64 3]) ∧ Below w.heap.size w w')
theorem qvu {a b : ByteArray} (h : a.toList = b.toList) : a = b := by
 rw [ByteArray.toList_eq, ByteArray.toList_eq] at h
 cases a; cases b
 simp only [ByteArray.mk.injEq] at *
 exact Array.toList_inj.1 h
theorem ybgr : ∀ (bs : List Int), (∀ x, x ∈ bs → 0 ≤ x ∧ x ≤ 255) → ∀ y, y ∈ qkl bs → (0 ≤ y.1 ∧ y.1 ≤ 255) ∧ 0 ≤ y.2 ∧ y.2 ≤ 255
 | [], _, y, hy => by simp [qkl] at hy
 | [_], _, y, hy => by simp [qkl] at hy
 | a :: n :: r, h, y, hy => by
  rw [qkl] at hy
  split at hy
  ·rcases List.mem_cons.1 hy with rfl | hy
   ·exact ⟨h a (by simp), h n (by simp)⟩
   ·exact ybgr r (fun x hx => h x (by simp [hx])) y hy
  ·simp at hy
theorem ybtv {l : List (Int × Int)} (h : ∀ x, x ∈ l → (0 ≤ x.1 ∧ x.1 ≤ 255) ∧ 0 ≤ x.2 ∧ x.2 ≤ 255) : ∀ y, y ∈ qee l → 0 ≤ y ∧ y ≤ 255 := by
 intro y hy
 rcases List.mem_append.1 hy with hy | hy
 ·obtain ⟨x, hx, hy⟩ := List.mem_flatMap.1 hy
  have := h x hx
  simp at hy
  rcases hy with rfl | rfl <;> omega
 ·have := List.eq_of_mem_replicate hy
  omega
theorem qsl {P : List Int} (hr : qbm P = 0) : ∀ y, y ∈ qee (ofE P) → 0 ≤ y ∧ y ≤ 255 := by
 refine ybtv fun x hx => ?_
 have hl := qkh hr
 have := (ybak P.length P rfl (qxq hr)).1 x (by simpa [ofE] using hx)
 omega
theorem qla {P : List Int} (hr : qbm P = 0) : (qee (ofE P)).length = 16 := by
 have hl := qkh hr
 have := (ybak P.length P rfl (qxq hr)).2
 simp only [qee, List.length_append, List.length_replicate, qrn]
 have e : (ofE P).length = (ofR P).length := by simp [ofE]
 omega
theorem qpn (w : World) (g n : Nat) (ns : List Int) (t : TypeId) (hn : ns.length = n) (h : w.heap[g]? = some (.cells (byts ns) t (0, 0))) :
  (convert 38 9 (.slice (some ⟨g, 0, none⟩) n n)).run Tryz.prog w = .ok (.string (qce ns)) w :=
 qdp w 38 9 5 g 0 n n ns hn (by kernel_rfl) (by kernel_rfl) (by kernel_rfl) (fun j v hv => by
  rw [Nat.zero_add, cell_of_row _ _ _ _ _ _ h]
  simpa [byts] using hv)
set_option maxRecDepth 100000 in
theorem ybbt (v : Value) (bs : List Int) (w : World) (h : qae w v bs) (hn : bs.length ≠ 16) (hl : bs.length ≤ 1000000) :
  Calls Tryz.prog 155 #[v] w (ybch bs w) := by
 have _ := hl
 obtain ⟨N, HN⟩ : ∃ N, Hid (N = bs.length) := ⟨_, rfl⟩
 obtain ⟨q, cp, hu⟩ : ∃ p cp, v = .slice p N cp := by
  rw [HN.out]
  obtain ⟨_, ⟨h0, a0, c0, rfl⟩ | ⟨g, o, cap, rfl, hc⟩⟩ := h
  ·exact ⟨a0, c0, by rw [h0]⟩
  ·exact ⟨_, cap, rfl⟩
 subst hu
 rw [← HN.out] at hl hn
 have hne : ((N : Int) != 16) = true := by rw [bne_iff_ne]; omega
 have HB : Hid (¬ qop bs) := fun hg => hn (HN.out.trans hg.1)
 clear h hn
 go_enter Tryz.func155, Tryz.ntmps155
 go_wp2
 go_ret2
 exact Or.inr ⟨HB.out, rfl, Below.refl _ _⟩
set_option maxRecDepth 100000 in
theorem ybep (bs : List Int) (g off cap : Nat) (w : World) (hc : ∀ j (hj : j < bs.length), w.cell? ⟨g, off + j, none⟩ = some (.int .u8 bs[j])) (hn : bs.length = 16) (hx : ∀ x, x ∈ bs → 0 ≤ x ∧ x ≤ 255) :
    Calls Tryz.prog 155 #[.slice (some ⟨g, off, none⟩) 16 cap] w (ybch bs w) := by
  have HC := Lib.hid hc
  have HN := Lib.hid hn
  have HX := Lib.hid hx
  have HRI := Lib.hid (ybgr bs hx)
  have hgl := 0
  clear hc hn hx hgl
  obtain ⟨i0, hi, hz0, hz1, hz2⟩ := info_parts yblr
  have HI := Lib.hid hi
  have HZ0 := Lib.hid hz0
  have HZ1 := Lib.hid hz1
  have HZ2 := Lib.hid hz2
  clear hi hz0 hz1 hz2
  go_enter Tryz.func155, Tryz.ntmps155
  go_wp2
  go_loopw [4, 5] (fun o i wr => ∃ (k m : Nat) (acc : List (Int × Int)), m ≤ 16 ∧ i = .int .i64 m ∧ Hid (m = 2 * k ∧ acc.length = k) ∧ Hid (acc ++ qkl (bs.drop (2 * k)) = qkl bs) ∧ Hid (wr.ownsRow w.heap.size 221 2 o acc.length (qby acc)) ∧ Below w.heap.size w wr) (fun _ i _ => 16 - (intOf i).toNat)
  case atStart => exact ⟨0, 0, [], by omega, rfl, ⟨rfl, rfl⟩, rfl, World.ownsRow_nil _ _ _ _, Below.refl _ _⟩
  case round =>
    obtain ⟨k, m, acc, hk, rfl, HM, HR, HO, HB⟩ := hrel
    by_cases hlt : m < 16
    · have hm14 : m ≤ 14 := by have := HM.out.1; omega
      have h1 : 2 * k < bs.length := by rw [HN.out]; have := HM.out.1; omega
      have h2 : 2 * k + 1 < bs.length := by rw [HN.out]; have := HM.out.1; omega
      have e1 := HC.out (2 * k) h1
      have e2 := HC.out (2 * k + 1) h2
      have c1 := (HB.cell (block_lt_of_cell e1)).trans e1
      have c2 := (HB.cell (block_lt_of_cell e2)).trans e2
      have r1 := HX.out _ (List.getElem_mem h1)
      have r2 := HX.out _ (List.getElem_mem h2)
      have hd := ybjt bs k h2
      obtain ⟨a, ha⟩ : ∃ a, Hid (a = bs[2 * k]) := ⟨bs[2 * k], rfl⟩
      obtain ⟨n, hn⟩ : ∃ n, Hid (n = bs[2 * k + 1]) := ⟨bs[2 * k + 1], rfl⟩
      rw [← ha.out] at c1 r1 hd
      rw [← hn.out] at c2 r2 hd
      rw [← HM.out.1] at c1 c2
      have HD := Lib.hid hd
      clear e1 e2 hd
      obtain ⟨ha0, ha1⟩ := r1
      obtain ⟨hn0, hn1⟩ := r2
      have hlt' := (HO.out.alloc (.cells #[.int .i64 a, .int .i64 n] 221)).lt
      have HLT := Lib.hid hlt'
      clear hlt'
      by_cases hn0 : 0 < n
      · have s1 : IntKind.i64.wrap ((m : Int) + 1) = (m : Int) + 1 := IntWalk.i64_in _ (by omega)
        have s2 : 0 ≤ (m : Int) + 1 := by omega
        have s3 : ((m : Int) + 1).toNat = m + 1 := by omega
        have s4 : (m : Int) + 1 < 16 := by omega
        have s5 : (m : Int) < 16 := by omega
        have s6 : IntKind.i64.wrap a = a := IntWalk.i64_in _ (by omega)
        have s7 : IntKind.i64.wrap n = n := IntWalk.i64_in _ (by omega)
        have hL : acc.length ≤ 7 := by have := HM.out; omega
        have ag : Value.ownBlock u4 ≠ some g := fun hq => by
          have h1 := (HLT.out g hq).1
          have h2 := block_lt_of_cell (HC.out 0 (by rw [HN.out]; omega))
          simp at h2; omega
        have AG := Lib.hid ag
        have hgw := block_lt_of_cell c1
        simp only at hgw
        have HBd : Hid (Below w.heap.size w wr.drew) := ⟨HB.os, HB.tape, HB.output, HB.size, HB.block⟩
        have HLTd : Hid (∀ q, Value.ownBlock u4 = some q → w.heap.size ≤ q) := fun q hq => (HLT.out q hq).1
        have hsz := HB.size
        clear ag
        go_wp2_with fail
        go_region_held3 (fun w' => w'.cell? ⟨g, off + m, none⟩ = some (.int .u8 a) ∧ w'.cell? ⟨g, off + (m + 1), none⟩ = some (.int .u8 n))
          (first
            | go_keep
            | (go_split_ands
               refine ⟨?_, ?_⟩
               · (rw [hgrow.cell_far _ (by simp; omega) (Ne.symm AG.out)]; assumption)
               · (rw [hgrow.cell_far _ (by simp; omega) (Ne.symm AG.out)]; assumption)))
          ((refine step_append_lies _ (by rfl) _ _ _ (by rfl) w.heap.size 221 i0 _ 2 16 ybxb HI.out HZ0.out HZ1.out HZ2.out rfl (by omega) u4 acc.length (qby acc) (by rfl) ((HO.out.alloc _).drew)
              ⟨wr.heap.size, 0, none⟩ 1 1 [.int .i64 a, .int .i64 n] (by rfl) (by rfl) (World.news_of_block (cs := #[.int .i64 a, .int .i64 n]) (t := 221) (fr := (0, 0)) (heap_alloc_new wr _)) (by simp [Value.oneCell'])
              (by omega) (by unfold maxLen; omega) (by omega) (by simp; omega) (wr.heap.size + 1) (by simp) ?_; intro gg cap' w4 hown hgrow hat hltt))
        have HO4 : Hid (w4.ownsRow w.heap.size 221 2 (.slice (some ⟨gg, 0, none⟩) (acc.length + 1) cap') (acc ++ [(a, n)]).length (qby (acc ++ [(a, n)]))) := by
          rw [qdl, List.length_append]
          exact hown
        have HB4 : Below w.heap.size w w4 := Below.grown (qbk (HB.alloc HB.size _) 1) hgrow (by simp [World.drewN]; omega) HLTd.out
        have HR4 : Hid ((acc ++ [(a, n)]) ++ qkl (bs.drop (2 * (k + 1))) = qkl bs) := by
          rw [← HR.out, HD.out, if_pos hn0]; simp [Hid]
        clear hown hgrow hat hltt s1 s3 s6 s7
        go_wp2
        go_roundw
        case rel => exact ⟨k + 1, m + 2, acc ++ [(a, n)], by omega, by go_num, by have := HM.out; exact ⟨by omega, by simp; omega⟩, HR4, HO4, HB4⟩
        case measure => simp [intOf]; omega
      · have HRUN : Hid (acc = qkl bs) := by
          rw [← HR.out, HD.out, if_neg hn0]; simp [Hid]
        have hnz : n = 0 := by omega
        subst hnz
        have hL : acc.length ≤ 8 := by have := HM.out; omega
        obtain ⟨q2, c2, ho, _⟩ := qar HO.out
        subst ho
        go_wp2_with fail
        refine (qvl _ acc _ (qah.of_owns HO.out) (by omega) (fun x hx => by rw [HRUN.out] at hx; have := HRI.out x hx; omega)).mono ?_
        rintro e w3 (⟨h0, v, rfl, hown3, hb3⟩ | ⟨h0, rfl, hb3⟩)
        · have HPE : Hid ((qfo bs).2 = 0) := by rw [qfo, ← HRUN.out]; exact h0
          have HR0 : Hid (qbm (qfo bs).1 = 0) := qmb HPE.out
          have HI3 : Hid (qan w3 v (qfo bs).1) := by
            have := qah.of_owns hown3
            rw [HRUN.out] at this; exact this
          have HNW : Hid (∀ b, v.ownBlock = some b → w.heap.size ≤ b) := fun b hb => Nat.le_trans HB.size (hown3.lt b hb).1
          clear h0 hown3
          have hB3 := Below.step HB hb3
          go_wp2_with fail
          refine (qsm _ (qfo bs).1 _ HI3.out HR0.out).mono ?_
          rintro e w4 ⟨g4, rfl, hg4, hh4, hb4⟩
          have hB4 := Below.step hB3 hb4
          have hs1 := qpn w4 g4 16 _ _ (qla HR0.out) hh4
          have hs2 : (convert 38 9 (.slice (some ⟨g, off, none⟩) 16 cap)).run Tryz.prog w4 = .ok (.string (qce bs)) w4 :=
            qdp w4 38 9 5 g off cap 16 bs HN.out (by kernel_rfl) (by kernel_rfl) (by kernel_rfl) (fun j x hx => by
              have hj : j < bs.length := by
                rcases Nat.lt_or_ge j bs.length with h | h
                · exact h
                · rw [List.getElem?_eq_none (by simpa using h)] at hx; cases hx
              have e : (bs.map (Value.int .u8))[j]? = some (.int .u8 bs[j]) := by simp [hj]
              rw [e] at hx
              cases hx
              have := HC.out j hj
              exact (hB4.cell (block_lt_of_cell this)).trans this)
          have HI4 : Hid (qan w4 v (qfo bs).1) := qah.below HI3.out hb4
          clear hh4
          by_cases heq : qee (ofE (qfo bs).1) = bs
          · have HG : Hid (qop bs) := ⟨HN.out, HPE.out, heq⟩
            rw [heq] at hs1
            clear heq
            generalize qce bs = S at hs1 hs2
            go_wp2
            go_ret2
            exact Or.inl ⟨HG.out, _, rfl, HI4.out, hB4, HNW.out⟩
          · have HG : Hid (¬ qop bs) := fun h => heq h.2.2
            have hne : qce (qee (ofE (qfo bs).1)) ≠ qce bs := fun h => heq (qum (qsl HR0.out) HX.out h)
            clear heq
            generalize qce bs = S at hs1 hs2 hne
            generalize qce (qee (ofE (qfo bs).1)) = S' at hs1 hs2 hne
            have hne2 : (S'.toList == S.toList) = false := by rw [beq_eq_false_iff_ne]; exact fun h => hne (qvu h)
            clear hne
            go_wp2
            go_ret2
            exact Or.inr ⟨HG.out, rfl, hB4⟩
        · have HG : Hid (¬ qop bs) := fun h => h0 (by rw [HRUN.out]; exact h.2.1)
          generalize (ptsR acc []).2 = c at h0
          have hc0 : (c != 0) = true := by rw [bne_iff_ne]; exact h0
          have hB3 := Below.step HB hb3
          clear h0
          go_wp2
          go_ret2
          exact Or.inr ⟨HG.out, rfl, hB3⟩
    · have HRUN : Hid (acc = qkl bs) := by
        rw [← HR.out, List.drop_of_length_le (by rw [HN.out]; have := HM.out; omega)]; simp [Hid, qkl]
      have hL : acc.length ≤ 8 := by have := HM.out; omega
      obtain ⟨q2, c2, ho, _⟩ := qar HO.out
      subst ho
      go_wp2_with fail
      refine (qvl _ acc _ (qah.of_owns HO.out) (by omega) (fun x hx => by rw [HRUN.out] at hx; have := HRI.out x hx; omega)).mono ?_
      rintro e w3 (⟨h0, v, rfl, hown3, hb3⟩ | ⟨h0, rfl, hb3⟩)
      · have HPE : Hid ((qfo bs).2 = 0) := by rw [qfo, ← HRUN.out]; exact h0
        have HR0 : Hid (qbm (qfo bs).1 = 0) := qmb HPE.out
        have HI3 : Hid (qan w3 v (qfo bs).1) := by
          have := qah.of_owns hown3
          rw [HRUN.out] at this; exact this
        have HNW : Hid (∀ b, v.ownBlock = some b → w.heap.size ≤ b) := fun b hb => Nat.le_trans HB.size (hown3.lt b hb).1
        clear h0 hown3
        have hB3 := Below.step HB hb3
        go_wp2_with fail
        refine (qsm _ (qfo bs).1 _ HI3.out HR0.out).mono ?_
        rintro e w4 ⟨g4, rfl, hg4, hh4, hb4⟩
        have hB4 := Below.step hB3 hb4
        have hs1 := qpn w4 g4 16 _ _ (qla HR0.out) hh4
        have hs2 : (convert 38 9 (.slice (some ⟨g, off, none⟩) 16 cap)).run Tryz.prog w4 = .ok (.string (qce bs)) w4 :=
          qdp w4 38 9 5 g off cap 16 bs HN.out (by kernel_rfl) (by kernel_rfl) (by kernel_rfl) (fun j x hx => by
            have hj : j < bs.length := by
              rcases Nat.lt_or_ge j bs.length with h | h
              · exact h
              · rw [List.getElem?_eq_none (by simpa using h)] at hx; cases hx
            have e : (bs.map (Value.int .u8))[j]? = some (.int .u8 bs[j]) := by simp [hj]
            rw [e] at hx
            cases hx
            have := HC.out j hj
            exact (hB4.cell (block_lt_of_cell this)).trans this)
        have HI4 : Hid (qan w4 v (qfo bs).1) := qah.below HI3.out hb4
        clear hh4
        by_cases heq : qee (ofE (qfo bs).1) = bs
        · have HG : Hid (qop bs) := ⟨HN.out, HPE.out, heq⟩
          rw [heq] at hs1
          clear heq
          generalize qce bs = S at hs1 hs2
          go_wp2
          go_ret2
          exact Or.inl ⟨HG.out, _, rfl, HI4.out, hB4, HNW.out⟩
        · have HG : Hid (¬ qop bs) := fun h => heq h.2.2
          have hne : qce (qee (ofE (qfo bs).1)) ≠ qce bs := fun h => heq (qum (qsl HR0.out) HX.out h)
          clear heq
          generalize qce bs = S at hs1 hs2 hne
          generalize qce (qee (ofE (qfo bs).1)) = S' at hs1 hs2 hne
          have hne2 : (S'.toList == S.toList) = false := by rw [beq_eq_false_iff_ne]; exact fun h => hne (qvu h)
          clear hne
          go_wp2
          go_ret2
          exact Or.inr ⟨HG.out, rfl, hB4⟩
      · have HG : Hid (¬ qop bs) := fun h => h0 (by rw [HRUN.out]; exact h.2.1)
        generalize (ptsR acc []).2 = c at h0
        have hc0 : (c != 0) = true := by rw [bne_iff_ne]; exact h0
        have hB3 := Below.step HB hb3
        clear h0
        go_wp2
        go_ret2
        exact Or.inr ⟨HG.out, rfl, hB3⟩
theorem ybkc (v : Value) (bs : List Int) (w : World) (h : qae w v bs) (hl : bs.length ≤ 1000000) (hx : ∀ x, x ∈ bs → 0 ≤ x ∧ x ≤ 255) :
  Calls Tryz.prog 155 #[v] w (ybch bs w) := by
 by_cases hn : bs.length = 16
 ·obtain ⟨_, ⟨h0, _⟩ | ⟨g, off, cap, rfl, hc⟩⟩ := h
  ·omega
  ·rw [hn]
   exact ybep bs g off cap w (fun j hj => hc j _ (qcl bs j hj)) hn hx
 ·exact ybbt v bs w h hn hl
end Go.Proofs.YtpoglnpjadmbpaaGreatDoor
