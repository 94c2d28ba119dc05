/- Part of the proofs of CheckFresh, FsCut, FsHoles: the texts Snap8, Snap9, Snap10. -/
import Derived.Test.YtpoglnpjadmbpaaGreatDoorMA4
import Derived.Test.YtpoglnpjadmbpaaGreatDoorMA7
import Derived.Test.YtpoglnpjadmbpaaGreatDoorMA13
set_option maxHeartbeats 16000000
namespace Go.Proofs.YtpoglnpjadmbpaaGreatDoor
open Go.RowKit
section
variable {P : Program}
theorem qij {ops : Array Oper} {Q : Act → Prop} {rest : List Oper} {o : Oper} {a : Act} {C : World → Prop} (hw : Region.wanted o (yielded ops a.tmps) = true) (ty : TypeId) (x : Operand) (ho : o.op = .load ty x)
  (g off : Nat) (hx : a.eval x = .pointer (some ⟨g, off, none⟩)) (t : TypeId) (cs A : Array Value) (fr : Nat × Nat) (d : TypeDesc) (hg : ∀ w, C w → w.heap[g]? = some (.cells cs t fr)) (hA : ∀ j, j < A.size → cs[off + j]? = A[j]?)
  (hu : P.underlying ty = some d) (hd : (match d with | .struct _ | .array _ _ => true | _ => false) = true) (hi : (P.info? ty).map (·.size) = some A.size)
  (h : wpQuiet P ops C Q rest (a.put o.dst (.agg A))) : wpQuiet P ops C Q (o :: rest) a :=
 BigFrame.wpQuiet_want hw fun _ hK => ⟨.agg A, fun w hw => by
  unfold Oper.quietAt execOp
  simp only [ho, hx, Instr.loadAt, Instr.sureAddr, Sem.run_bind, Sem.run_pure, Result.andThen_ok, qfx w g off t ty cs A fr d (hg w hw) hA hu hd hi]
  exact ⟨rfl, rfl⟩, hK _ h⟩
theorem ybby {ops : Array Oper} {rest : List Oper} {o : Oper} {a : Act} {w : World} {Q : Exit → Act → World → Prop} (hw : Region.wanted o (yielded ops a.tmps) = true) (v : Value)
  (hr : ∀ w, (execOp a.eval o).run P w = .ok (.value v) w) (h : wpList P ops Q rest (a.put o.dst v) w) : wpList P ops Q (o :: rest) a w :=
 qme hw fun _ hK => by
  unfold Oper.wp
  rw [hr]
  exact hK _ _ h
theorem ybej {o : Oper} {a : Act} (ty ty' : TypeId) (x y : Operand) (ho : o.op = .binOp .neq ty x y ty') (X Y : Array Value) (hx : a.eval x = .agg X) (hy : a.eval y = .agg Y) (b : Bool)
  (hE : ∀ w, (Op.equalIn 10000 ty (.agg X) (.agg Y)).run P w = .ok b w) (hG : P.eqGuardType P.depth ty = false) (w : World) : (execOp a.eval o).run P w = .ok (.value (.bool (!b))) w := by
 unfold execOp
 simp [ho, hx, hy, Sem.run_bind, run_eqGuard_agg (P := P) w _ ty x y X Y hG, run_neq_struct, hE]
end
theorem ybjv (f : Fo) (n : Nat) : qdf f 4 n = ((qbd f 1 && f.hs 1 n) || (qbd f 2 && f.hs 2 n) || (qbd f 3 && f.hs 3 n)) := by
 simp only [qdf]
 cases qbd f 1 <;> cases qbd f 2 <;> cases qbd f 3 <;> simp [join, emp]
theorem qne (s t : Nat → Bool) : qdy (enc s) (enc t) 0 32 := fun j hj => ⟨.u8, _, _, by rw [Nat.zero_add]; exact qdi s j hj, by rw [Nat.zero_add]; exact qdi t j hj⟩
theorem ybbe (s : Nat → Bool) (w : World) : (Op.equalIn 10000 76 (.agg (enc s)) (.agg (enc s))).run Tryz.prog w = .ok true w := by
 rw [qkj (len := 32) (n := 1) setT byteI (qlv byteT) _ _ w (qne s s), (ybbg (qax s) (qax s) (qne s s)).2 rfl]
end Go.Proofs.YtpoglnpjadmbpaaGreatDoor
namespace Go.Proofs.YtpoglnpjadmbpaaGreatDoor
open Go.RowKit
def foB (bs : List Int) : Fo := ⟨fun k j => bs.getD (k * 16 + j) 0, fun k m => (bs.getD (64 + k * 32 + m / 8) 0).toNat.testBit (m % 8)⟩
def upF (bs : List Int) (k i : Nat) : Fo := ⟨fun a j => if a < k ∨ (a = k ∧ j < i) then (foB bs).nd a j else 0, fun a => if a < k then (foB bs).hs a else emp⟩
def U8s (bs : List Int) : Prop := ∀ x, x ∈ bs → 0 ≤ x ∧ x ≤ 255
theorem ybko {bs : List Int} (h : U8s bs) (i : Nat) : 0 ≤ bs.getD i 0 ∧ bs.getD i 0 ≤ 255 := by
 rw [List.getD_eq_getElem?_getD]
 cases hq : bs[i]? with
 | none => simp
 | some x => exact h x (List.mem_of_getElem? hq)
theorem quk {bs : List Int} (h : U8s bs) (k i : Nat) : (qbt ((foB bs).hs k) i : Int) = bs.getD (64 + k * 32 + i) 0 := by
 obtain ⟨h0, h1⟩ := ybko h (64 + k * 32 + i)
 obtain ⟨x, hx⟩ := Int.eq_ofNat_of_zero_le h0
 have e : qbt ((foB bs).hs k) i = qcy (fun b => x.testBit b) := qgq fun b hb => by
  have e1 : (8 * i + b) / 8 = i := by omega
  have e2 : (8 * i + b) % 8 = b := by omega
  unfold foB
  simp only [e1, e2]
  rw [hx, Int.toNat_natCast]
 rw [e, ybhj _ (by omega), hx]
theorem ybfd {f g : Fo} (h1 : ∀ k j, k < 4 → j < 16 → f.nd k j = g.nd k j) (h2 : ∀ k m, k < 4 → m < 256 → f.hs k m = g.hs k m) : encF f = encF g := by
 apply Array.ext_getElem?
 intro i
 by_cases hi : i < 192
 ·obtain ⟨a, j, ha, hj, rfl⟩ : ∃ a j, a < 4 ∧ j < 48 ∧ i = a * 48 + j := ⟨i / 48, i % 48, by omega, by omega, by omega⟩
  rw [qcb _ a j ha hj, qcb _ a j ha hj]
  unfold qdd
  by_cases h : j < 16
  ·rw [if_pos h, if_pos h, h1 a j ha h]
  ·rw [if_neg h, if_neg h]
   have e : qbt (f.hs a) (j - 16) = qbt (g.hs a) (j - 16) := qgq fun b hb => h2 a _ ha (by omega)
   rw [e]
 ·rw [Array.getElem?_eq_none (by rw [qaj]; omega), Array.getElem?_eq_none (by rw [qaj]; omega)]
theorem upF_0 (bs : List Int) : encF (upF bs 0 0) = encF qil := ybfd (fun k j _ _ => by simp [upF, qil]) (fun k m _ _ => by simp [upF, qil])
theorem upF_4 (bs : List Int) : encF (upF bs 4 0) = encF (foB bs) := ybfd (fun k j hk _ => by simp [upF, hk]) (fun k m hk _ => by simp [upF, hk])
theorem ybvh (bs : List Int) (k i : Nat) (hk : k < 4) (hi : i < 16) : (encF (upF bs k i)).setIfInBounds (k * 48 + i) (.int .i64 (bs.getD (k * 16 + i) 0)) = encF (upF bs k (i + 1)) := by
 apply Array.ext_getElem?
 intro n
 rw [Array.getElem?_setIfInBounds]
 by_cases hn : n < 192
 ·obtain ⟨a, j, ha, hj, rfl⟩ : ∃ a j, a < 4 ∧ j < 48 ∧ n = a * 48 + j := ⟨n / 48, n % 48, by omega, by omega, by omega⟩
  rw [qcb _ a j ha hj, qcb _ a j ha hj]
  by_cases he : k * 48 + i = a * 48 + j
  ·have ea : a = k := by omega
   have ej : j = i := by omega
   subst ea ej
   rw [if_pos rfl, if_pos (by rw [qaj]; omega)]
   unfold qdd upF
   simp only [if_pos hi]
   rw [if_pos (Or.inr ⟨trivial, by omega⟩)]
   rfl
  ·rw [if_neg he]
   unfold qdd upF
   by_cases h16 : j < 16
   ·simp only [if_pos h16]
    by_cases hc : a < k ∨ a = k ∧ j < i
    ·rw [if_pos hc, if_pos (by omega)]
    ·rw [if_neg hc, if_neg (by omega)]
   ·simp only [if_neg h16]
 ·rw [if_neg (by omega), Array.getElem?_eq_none (by rw [qaj]; omega), Array.getElem?_eq_none (by rw [qaj]; omega)]
theorem ybzi (bs : List Int) (hu : U8s bs) (hl : bs.length = 192) (k : Nat) (hk : k < 4) : ((encF (upF bs k 16)).toList.take (k * 48 + 16) ++ u8s ((bs.drop (64 + 32 * k)).take 32) ++ (encF (upF bs k 16)).toList.drop (k * 48 + 16 + (u8s ((bs.drop (64 + 32 * k)).take 32)).length)).toArray = encF (upF bs (k + 1) 0) := by
 have hlen : (u8s ((bs.drop (64 + 32 * k)).take 32)).length = 32 := by rw [qak, List.length_take, List.length_drop, hl]; omega
 apply Array.ext_getElem?
 intro n
 rw [hlen]
 by_cases hn : n < 192
 ·obtain ⟨a, j, ha, hj, rfl⟩ : ∃ a j, a < 4 ∧ j < 48 ∧ n = a * 48 + j := ⟨n / 48, n % 48, by omega, by omega, by omega⟩
  rw [qcb _ a j ha hj, List.getElem?_toArray]
  have hl1 : ((encF (upF bs k 16)).toList.take (k * 48 + 16)).length = k * 48 + 16 := by rw [List.length_take, Array.length_toList, qaj]; omega
  by_cases h1 : a * 48 + j < k * 48 + 16
  ·rw [List.append_assoc, List.getElem?_append_left (by omega), List.getElem?_take, if_pos h1, Array.getElem?_toList, qcb _ a j ha hj]
   unfold qdd upF
   by_cases h16 : j < 16
   ·simp only [if_pos h16]
    rw [if_pos (by omega), if_pos (by omega)]
   ·simp only [if_neg h16]
    rw [if_pos (by omega), if_pos (by omega)]
  ·by_cases h2 : a * 48 + j < k * 48 + 48
   ·have ea : a = k := by omega
    subst ea
    rw [List.append_assoc, List.getElem?_append_right (by omega), List.getElem?_append_left (by omega), hl1, show a * 48 + j - (a * 48 + 16) = j - 16 by omega]
    unfold u8s
    rw [List.getElem?_map, List.getElem?_take, if_pos (by omega), List.getElem?_drop]
    unfold qdd upF
    simp only [if_neg (show ¬ j < 16 by omega)]
    rw [if_pos (by omega), quk hu]
    rw [show 64 + 32 * a + (j - 16) = 64 + a * 32 + (j - 16) by omega, List.getD_eq_getElem?_getD]
    obtain ⟨x, hx⟩ : ∃ x, bs[64 + a * 32 + (j - 16)]? = some x := ⟨_, List.getElem?_eq_getElem (by omega)⟩
    rw [hx]
    rfl
   ·rw [List.getElem?_append_right (by rw [List.length_append]; omega), List.length_append, hl1, hlen, List.getElem?_drop, show k * 48 + 16 + 32 + (a * 48 + j - (k * 48 + 16 + 32)) = a * 48 + j by omega, Array.getElem?_toList, qcb _ a j ha hj]
    unfold qdd upF
    by_cases h16 : j < 16
    ·simp only [if_pos h16]
     rw [if_neg (by omega), if_neg (by omega)]
    ·simp only [if_neg h16]
     rw [if_neg (by omega), if_neg (by omega)]
 ·rw [Array.getElem?_eq_none (by simp [qaj, hlen]; omega), Array.getElem?_eq_none (by rw [qaj]; omega)]
theorem ybtx {bs : List Int} (hu : U8s bs) (hl : bs.length = 192) : qbv (foB bs) = bs := by
 apply List.ext_getElem?
 intro n
 by_cases hn : n < 192
 ·obtain ⟨x, hx⟩ : ∃ x, bs[n]? = some x := ⟨_, List.getElem?_eq_getElem (by omega)⟩
  have hD : bs.getD n 0 = x := by rw [List.getD_eq_getElem?_getD, hx]; rfl
  unfold qbv
  by_cases h : n < 64
  ·obtain ⟨k, i, hk, hi, rfl⟩ : ∃ k i, k < 4 ∧ i < 16 ∧ n = k * 16 + i := ⟨n / 16, n % 16, by omega, by omega, by omega⟩
   rw [List.getElem?_append_left (by rw [qyn]; exact h), ybvm _ k i hk hi, hx, ← hD]
   rfl
  ·obtain ⟨k, i, hk, hi, rfl⟩ : ∃ k i, k < 4 ∧ i < 32 ∧ n = 64 + k * 32 + i := ⟨(n - 64) / 32, (n - 64) % 32, by omega, by omega, by omega⟩
   rw [List.getElem?_append_right (by rw [qyn]; omega), qyn, show 64 + k * 32 + i - 64 = k * 32 + i by omega, ybvn _ k i hk hi, quk hu, hD, hx]
 ·rw [List.getElem?_eq_none (by rw [qgu]; omega), List.getElem?_eq_none (by omega)]
def unpF (bs : List Int) : Fo × Int := if bs.length = 192 ∧ qbn (foB bs) = 0 then (foB bs, 0) else (qil, 3)
set_option maxRecDepth 100000 in
theorem ybvf (v : Value) (bs : List Int) (w : World) (h : qae w v bs) (hn : bs.length ≠ 192) (hl : bs.length ≤ 1000000) (Z0 : Array Value) (HZ0 : Hid (Z0 = encF qil)) :
  Calls Tryz.prog 83 #[v] w fun e w' => e = .returned (.tuple #[.agg Z0, .int .i64 3]) ∧ Below w.heap.size w w' := by
 have _ := hl
 have HZ : Hid (∀ w, (zeroValue 80).run Tryz.prog w = .ok (.agg Z0) w) := by rw [HZ0.out]; exact forZ
 have HZS : Hid (Z0.size = 192) := by rw [HZ0.out]; exact qaj _
 have HZ1 : Hid (Z0.all (·.oneCell') = true) := by rw [HZ0.out]; exact qio _
 obtain ⟨N, HN⟩ : ∃ N, Hid (N = bs.length) := ⟨_, rfl⟩
 obtain ⟨q, cp, hu⟩ : ∃ p cp, v = .slice p N cp := by
  rw [HN.out]
  obtain ⟨_, ⟨h0, a0, c0, rfl⟩ | ⟨g, o, cap, rfl, hc⟩⟩ := h
  ·exact ⟨a0, c0, by rw [h0]⟩
  ·exact ⟨_, cap, rfl⟩
 subst hu
 rw [← HN.out] at hl hn
 have hne : ((N : Int) != 192) = true := by rw [bne_iff_ne]; omega
 clear h hn
 have hz := HZ.out
 go_enter Tryz.func83, Tryz.ntmps83
 go_wp2_with (first
  | (refine qbj rfl 80 rfl Z0 HZ.out ?_)
  | (refine wpList_store_row rfl 80 (.tmp 2) (.tmp 12) rfl w.heap.size Z0 rfl rfl 80 Z0 (heap_alloc_new w _) (by rw [HZS.out]; exact forI) rfl HZ1.out ?_))
 refine bodyPost_ret (qiy rfl _ _ w.heap.size 80 Z0 (0, 0) _ (.int .i64 3) rfl rfl (setRow_heap _ _ _ _ _ _ (heap_alloc_new w _)) forT rfl (by rw [HZS.out]; exact forI)) rfl ⟨rfl, ?_⟩
 exact Below.setRow ((Below.refl _ _).alloc (Nat.le_refl _) _) (Nat.le_refl _) _
theorem ybhm {w : World} {v : Value} {bs : List Int} (h : qae w v bs) (h0 : 0 < bs.length) : ∃ g o c, v = .slice (some ⟨g, o, none⟩) bs.length c ∧ g < w.heap.size ∧ ∀ j, j < bs.length → w.cell? ⟨g, o + j, none⟩ = some (.int .u8 (bs.getD j 0)) := by
 obtain ⟨_, ⟨h1, _⟩ | ⟨g, o, c, rfl, hc⟩⟩ := h
 ·omega
 ·have key : ∀ j, j < bs.length → w.cell? ⟨g, o + j, none⟩ = some (.int .u8 (bs.getD j 0)) := fun j hj => by
   rw [hc j _ (qcl bs j hj)]
   simp [hj]
  exact ⟨g, o, c, rfl, block_lt_of_cell (key 0 h0), key⟩
set_option maxRecDepth 100000 in
theorem ybzh (g o cp : Nat) (bs : List Int) (w : World) (hgw : g < w.heap.size) (HC : Hid (∀ j, j < 192 → w.cell? ⟨g, o + j, none⟩ = some (.int .u8 (bs.getD j 0)))) (HL : Hid (bs.length = 192)) (HU : Hid (U8s bs))
  (HBA : Hid (qae w (.slice (some ⟨g, o, none⟩) 192 cp) bs)) (hcp : 192 ≤ cp) (Z0 X : Array Value) (c : Int) (HZ0 : Hid (Z0 = encF qil)) (HX : Hid (X = encF (unpF bs).1)) (Hc : Hid (c = (unpF bs).2)) :
  Calls Tryz.prog 83 #[.slice (some ⟨g, o, none⟩) 192 cp] w fun e w' => e = .returned (.tuple #[.agg X, .int .i64 c]) ∧ Below w.heap.size w w' := by
 have HZ : Hid (∀ w, (zeroValue 80).run Tryz.prog w = .ok (.agg Z0) w) := by rw [HZ0.out]; exact forZ
 have HZS : Hid (Z0.size = 192) := by rw [HZ0.out]; exact qaj _
 have HZ1 : Hid (Z0.all (·.oneCell') = true) := by rw [HZ0.out]; exact qio _
 go_enter Tryz.func83, Tryz.ntmps83
 go_wp2_with (first
  | (refine qbj rfl 80 rfl Z0 HZ.out ?_))
 go_loopw [13] (fun i wr => ∃ k : Nat, k ≤ 4 ∧ i = .int .i64 k ∧ Hid (wr.heap[w.heap.size]? = some (.cells Z0 80 (0, 0))) ∧ Hid (wr.heap[w.heap.size + 1]? = some (.cells (encF (upF bs k 0)) 80 (0, 0))) ∧ Below w.heap.size w wr) (fun i _ => 4 - (intOf i).toNat)
 case atStart =>
  refine ⟨0, by omega, rfl, heap_alloc2_old w _ _, ?_, ((Below.refl _ _).alloc (Nat.le_refl _) _).alloc (by simp) _⟩
  rw [upF_0, ← HZ0.out]
  exact heap_alloc2_new w _ _
 case round =>
  obtain ⟨k, hk, rfl, HR, HF, HB⟩ := hrel
  by_cases hlt : k < 4
  ·have hlt2 : (k : Int) < 4 := by omega
   have hk0 : (0 : Int) ≤ (k : Int) := by omega
   obtain ⟨wo, hwo⟩ : ∃ wo : World, wo = wr := ⟨_, rfl⟩
   subst hwo
   go_wp2
   go_loopw [16] (fun i wr => ∃ j : Nat, j ≤ 16 ∧ i = .int .i64 j ∧ Hid (wr.heap[w.heap.size]? = some (.cells Z0 80 (0, 0))) ∧ Hid (wr.heap[w.heap.size + 1]? = some (.cells (encF (upF bs k j)) 80 (0, 0))) ∧ Below w.heap.size w wr) (fun i _ => 16 - (intOf i).toNat)
   case atStart => exact ⟨0, by omega, rfl, HR, HF, HB⟩
   case round =>
    obtain ⟨j, hj, rfl, HR', HF', HB'⟩ := hrel
    by_cases hjl : j < 16
    ·have hj2 : (j : Int) < 16 := by omega
     have hj0 : (0 : Int) ≤ (j : Int) := by omega
     obtain ⟨x, Hx⟩ : ∃ x, Hid (x = bs.getD (k * 16 + j) 0) := ⟨_, rfl⟩
     have hx1 := ybko HU.out (k * 16 + j)
     rw [← Hx.out] at hx1
     obtain ⟨hx0, hx255⟩ := hx1
     have cb : wr.cell? ⟨g, o + (16 * k + j), none⟩ = some (.int .u8 x) := by
      rw [HB'.cell (p := ⟨g, o + (16 * k + j), none⟩) hgw, Hx.out, show 16 * k + j = k * 16 + j by omega]
      exact HC.out _ (by omega)
     have cf : wr.cell? ⟨w.heap.size + 1, k * 48 + j, none⟩ = some (.int .i64 0) := by
      rw [cell_of_row _ _ _ _ _ _ HF'.out, qcb _ k j hlt (by omega)]
      unfold qdd upF
      simp [hjl]
     have ff : wr.frozen? ⟨w.heap.size + 1, k * 48 + j, none⟩ = false := frozen_of_row _ _ _ _ _ HF'.out
     have p1 : IntKind.i64.wrap (16 * (k : Int)) = 16 * (k : Int) := IntWalk.i64_in _ (by omega)
     have p2 : IntKind.i64.wrap (16 * (k : Int) + (j : Int)) = 16 * (k : Int) + (j : Int) := IntWalk.i64_in _ (by omega)
     have p3 : (16 * (k : Int) + (j : Int)).toNat = 16 * k + j := by omega
     have p4 : (0 : Int) ≤ 16 * (k : Int) + (j : Int) := by omega
     have p5 : 16 * (k : Int) + (j : Int) < 192 := by omega
     go_wp2
     go_still_tail 13, (by kernel_rfl)
     go_wp2
     go_roundw
     case rel =>
      refine ⟨j + 1, by omega, by go_num, (heap_setCell_other _ _ _ _ (by simp)).trans HR'.out, ?_, ?_⟩
      ·rw [← ybvh bs k j hlt hjl, ← Hx.out]
       exact heap_setCell_same _ _ _ _ _ _ HF'.out
      ·exact HB'.drew.setCell (by simp) _
     case measure => simp [intOf]; omega
    ·obtain rfl : j = 16 := by omega
     have p1 : IntKind.i64.wrap (32 * (k : Int)) = 32 * (k : Int) := IntWalk.i64_in _ (by omega)
     have p2 : IntKind.i64.wrap (64 + 32 * (k : Int)) = 64 + 32 * (k : Int) := IntWalk.i64_in _ (by omega)
     have p3 : (64 + 32 * (k : Int)).toNat = 64 + 32 * k := by omega
     have p4 : (0 : Int) ≤ 64 + 32 * (k : Int) := by omega
     have p5 : 64 + 32 * (k : Int) ≤ 192 := by omega
     have p6 : 64 + 32 * k ≠ cp := by omega
     go_wp2
     go_still_tail 9, (by kernel_rfl)
     go_wp2_with fail
     have hlen : (u8s ((bs.drop (64 + 32 * k)).take 32)).length = 32 := by rw [qak, List.length_take, List.length_drop, HL.out]; omega
     have hsrc : ∀ (j : Nat) (v : Value), (u8s ((bs.drop (64 + 32 * k)).take 32))[j]? = some v → wr.drew.cell? ((⟨g, o + (64 + 32 * k), none⟩ : Addr).add j) = some v := fun j v hv => by
      have hj := (List.getElem?_eq_some_iff.1 hv).1
      have hadd : (⟨g, o + (64 + 32 * k), none⟩ : Addr).add j = ⟨g, o + (64 + 32 * k) + j, none⟩ := by unfold Addr.add; split <;> simp_all
      rw [hadd, show o + (64 + 32 * k) + j = o + (64 + 32 * k + j) by omega]
      refine Eq.trans (HB'.cell (p := ⟨g, o + (64 + 32 * k + j), none⟩) hgw) ?_
      rw [HC.out _ (by omega)]
      unfold u8s at hv
      rw [List.getElem?_map, List.getElem?_take, if_pos (by omega), List.getElem?_drop] at hv
      rw [List.getD_eq_getElem?_getD]
      cases hq : bs[64 + 32 * k + j]? with
      | none => rw [hq] at hv; cases hv
      | some x => rw [hq] at hv; simpa using hv
     rw [run_copy_row (P := Tryz.prog) wr.drew 38 38 _ 5 (w.heap.size + 1) (k * 48 + 16) 32 32 ⟨g, o + (64 + 32 * k), none⟩ (192 - (64 + 32 * k)) (cp - (64 + 32 * k)) (encF (upF bs k 16)) 80 (u8s ((bs.drop (64 + 32 * k)).take 32)) ybqd (by kernel_rfl) HF'.out (by rw [hlen]; show 32 = min _ _; omega) hsrc (by rw [hlen, qaj]; omega) (qga _)]
     rw [ybzi bs HU.out HL.out k hlt, hlen]
     have HR4 : Hid ((wr.drew.setRow (w.heap.size + 1) (encF (upF bs (k + 1) 0))).heap[w.heap.size]? = some (.cells Z0 80 (0, 0))) := qdz (w := wr.drew) HR'.out _ _ (by omega)
     have HF4 : Hid ((wr.drew.setRow (w.heap.size + 1) (encF (upF bs (k + 1) 0))).heap[w.heap.size + 1]? = some (.cells (encF (upF bs (k + 1) 0)) 80 (0, 0))) := setRow_heap wr.drew _ _ _ _ _ HF'.out
     have HB4 : Below w.heap.size w (wr.drew.setRow (w.heap.size + 1) (encF (upF bs (k + 1) 0))) := Below.setRow HB'.drew (by omega) _
     clear hsrc hlen p1 p2 p3 p4 p5 p6
     go_wp2
     go_roundw
     case rel => exact ⟨k + 1, by omega, by go_num, HR4, HF4, HB4⟩
     case measure => simp [intOf]; omega
  ·obtain rfl : k = 4 := by omega
   obtain ⟨F, HF0⟩ : ∃ F, Hid (F = encF (foB bs)) := ⟨_, rfl⟩
   have HF1 : Hid (wr.heap[w.heap.size + 1]? = some (.cells F 80 (0, 0))) := by rw [HF0.out, ← upF_4]; exact HF.out
   have HFS : Hid (F.size = 192) := by rw [HF0.out]; exact qaj _
   have HFO : Hid (F.all (·.oneCell') = true) := by rw [HF0.out]; exact qio _
   clear HF
   have hz := HZ.out
   by_cases hr : qbn (foB bs) = 0
   ·have hU : unpF bs = (foB bs, 0) := by unfold unpF; rw [if_pos ⟨HL.out, hr⟩]
    have eX : F = X := by rw [HX.out, hU, HF0.out]
    have ec : c = 0 := by rw [Hc.out, hU]
    have HPK : Hid (∀ W : World, Calls Tryz.prog 76 #[.agg F] W (qmi (foB bs) W)) := fun W => by rw [HF0.out]; exact qow _ hr W
    subst eX ec
    clear hU hr
    go_wp2_with (refine wpList_load_row rfl 80 (.tmp 4) rfl (w.heap.size + 1) rfl 80 F (0, 0) _ HF1.out forT rfl (by rw [HFS.out]; exact forI) ?_)
    refine (HPK.out _).mono ?_
    rintro e w2 ⟨u, rfl, hown, hb2⟩
    have HUB : Hid (qae w2 u bs) := by
     have := qah.of_owns hown
     rw [ybtx HU.out HL.out] at this
     rw [← HL.out] at this
     exact this
    have HF2 : Hid (w2.heap[w.heap.size + 1]? = some (.cells F 80 (0, 0))) := qaa hb2 HF1.out
    have HR2 : Hid (w2.heap[w.heap.size]? = some (.cells Z0 80 (0, 0))) := qaa hb2 HR.out
    have hB2 := Below.step HB hb2
    have HBB : Hid (qae w2 (.slice (some ⟨g, o, none⟩) 192 cp) bs) := qah.below HBA.out hB2
    clear hown hb2 HF1 HR HB
    go_wp2_with fail
    refine (qjf _ _ _ _ _ HUB.out HBB.out rfl (by rw [HL.out]; omega)).mono ?_
    have HEQ : Hid (qtu bs bs = true) := by show _ = _; unfold qtu; simp
    rw [HEQ.out]
    rintro e w3 ⟨rfl, hb3⟩
    have HF3 : Hid (w3.heap[w.heap.size + 1]? = some (.cells F 80 (0, 0))) := qaa hb3 HF2.out
    have HR3 : Hid (w3.heap[w.heap.size]? = some (.cells Z0 80 (0, 0))) := qaa hb3 HR2.out
    have hB3 := Below.step hB2 hb3
    clear hb3 HF2 HR2 hB2
    go_wp2_with (first
     | (refine wpList_load_row rfl 80 (.tmp 4) rfl (w.heap.size + 1) rfl 80 F (0, 0) _ HF3.out forT rfl (by rw [HFS.out]; exact forI) ?_)
     | (refine wpList_store_row rfl 80 (.tmp 2) (.tmp 58) rfl w.heap.size F rfl rfl 80 Z0 HR3.out (by rw [HFS.out]; exact forI) (by rw [HFS.out, HZS.out]) HFO.out ?_))
    refine bodyPost_ret (qiy rfl _ _ w.heap.size 80 F (0, 0) _ (.int .i64 0) rfl rfl (setRow_heap _ _ _ _ _ _ HR3.out) forT rfl (by rw [HFS.out]; exact forI)) rfl ⟨rfl, ?_⟩
    exact Below.setRow hB3 (Nat.le_refl _) _
   ·have hU : unpF bs = (qil, 3) := by unfold unpF; rw [if_neg fun h => hr h.2]
    have eX : Z0 = X := by rw [HX.out, hU, HZ0.out]
    have ec : c = 3 := by rw [Hc.out, hU]
    obtain ⟨r, Hr⟩ : ∃ r, Hid (r = qbn (foB bs)) := ⟨_, rfl⟩
    have hr1 : (r == 0) = false := by rw [Hr.out]; simpa using hr
    have hr2 : (r != 0) = true := by rw [Hr.out]; simpa using hr
    have HPK : Hid (∀ W : World, Calls Tryz.prog 76 #[.agg F] W fun e w' => e = .returned (.tuple #[.slice none 0 0, .int .i64 r]) ∧ Below W.heap.size W w') := fun W => yboh _ F r HF0 Hr hr2 W
    subst eX ec
    clear hU hr
    go_wp2_with (refine wpList_load_row rfl 80 (.tmp 4) rfl (w.heap.size + 1) rfl 80 F (0, 0) _ HF1.out forT rfl (by rw [HFS.out]; exact forI) ?_)
    refine (HPK.out _).mono ?_
    rintro e w2 ⟨rfl, hb2⟩
    have HR2 : Hid (w2.heap[w.heap.size]? = some (.cells Z0 80 (0, 0))) := qaa hb2 HR.out
    have hB2 := Below.step HB hb2
    clear hb2 HF1 HR HB
    go_wp2_with (first
     | (refine wpList_store_row rfl 80 (.tmp 2) (.tmp 57) rfl w.heap.size Z0 rfl rfl 80 Z0 HR2.out (by rw [HZS.out]; exact forI) rfl HZ1.out ?_))
    refine bodyPost_ret (qiy rfl _ _ w.heap.size 80 Z0 (0, 0) _ (.int .i64 3) rfl rfl (setRow_heap _ _ _ _ _ _ HR2.out) forT rfl (by rw [HZS.out]; exact forI)) rfl ⟨rfl, ?_⟩
    exact Below.setRow hB2 (Nat.le_refl _) _
def ybwk (v : Value) (n : Nat) : Prop := ∀ p l c, v = .slice p l c → n ≤ c
theorem ybve (v : Value) (bs : List Int) (w : World) (h : qae w v bs) (hu : U8s bs) (hr : ybwk v bs.length) (hl : bs.length ≤ 1000000) :
  Calls Tryz.prog 83 #[v] w fun e w' => e = .returned (.tuple #[.agg (encF (unpF bs).1), .int .i64 (unpF bs).2]) ∧ Below w.heap.size w w' := by
 by_cases hn : bs.length = 192
 ·obtain ⟨g, o, c, rfl, hg, hc⟩ := ybhm h (by omega)
  have hcp := hr _ _ _ rfl
  rw [hn] at h hc hcp ⊢
  exact ybzh g o c bs w hg hc hn hu h hcp _ _ _ rfl rfl rfl
 ·have hU : unpF bs = (qil, 3) := by unfold unpF; rw [if_neg fun h => hn h.1]
  rw [hU]
  exact ybvf v bs w h hn hl _ rfl
end Go.Proofs.YtpoglnpjadmbpaaGreatDoor
