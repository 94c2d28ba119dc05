/- Part of the proofs of CheckFresh, FsCut, FsHoles: the texts DkOps. -/
import Derived.Test.YtpoglnpjadmbpaaGreatDoorMA3
import Derived.Test.YtpoglnpjadmbpaaGreatDoorProg
import Derived.WalkSpells
import Derived.WalkLawsBesides
import Derived.LoopTactic
import Derived.Lib.BufferWrite
set_option maxHeartbeats 16000000
namespace Go.Proofs.YtpoglnpjadmbpaaGreatDoor
open Go.RowKit
theorem qtm : (Tryz.prog.info? 5).map (fun i => (i.zero, i.size, i.bytes)) = some (some (.int .u8 0), 1, 1) := by kernel_rfl
theorem u8sT : Tryz.prog.underlying 38 = some (.slice 5) := by kernel_rfl
theorem qoe : (Tryz.prog.info? 5).map (·.size) = some 1 := by kernel_rfl
def qel (D : List Int) (w : World) (v : Value) (w' : World) : Prop :=
 ∃ g cap cur, v = .slice (some ⟨g, 0, none⟩) D.length cap ∧ (w.heap.size ≤ g ∧ D.length ≤ cap) ∧ w'.heap[g]? = some (.cells cur 5 (0, 0)) ∧ cur.toList.take D.length = u8s D ∧ Below w.heap.size w w'
theorem qaw {w : World} {g n cap : Nat} {cur : Array Value} {t : TypeId} {fr : Nat × Nat} {D : List Int} (hn : D.length = n) (h : w.heap[g]? = some (.cells cur t fr)) (hc : cur.toList.take n = u8s D) :
  qae w (.slice (some ⟨g, 0, none⟩) n cap) D := by
 refine ⟨by rw [qak]; omega, Or.inr ⟨g, 0, cap, by rw [hn], fun j x hx => ?_⟩⟩
 rw [Nat.zero_add, cell_of_row _ _ j _ t fr h]
 have hj := (List.getElem?_eq_some_iff.1 hx).1
 rw [qak] at hj
 rw [← hc, List.getElem?_take, if_pos (by omega)] at hx
 simpa using hx
theorem qel.at {D : List Int} {w w' : World} {v : Value} (h : qel D w v w') : qae w' v D := by
 obtain ⟨g, cap, cur, rfl, _, h1, h2, _⟩ := h
 exact qaw rfl h1 h2
theorem qel.below {D : List Int} {w w' : World} {v : Value} (h : qel D w v w') : Below w.heap.size w w' := by
 obtain ⟨g, cap, cur, rfl, _, h1, h2, h3⟩ := h
 exact h3
def qfj (D : List Int) (w : World) (e : Ending) (w' : World) : Prop := ∃ v, e = .returned v ∧ qel D w v w'
set_option maxRecDepth 100000 in
theorem qgr (v : Value) (D : List Int) (w : World) (h : qae w v D) (h0 : 0 < D.length) (h1 : D.length ≤ 1000000) :
  Calls Tryz.prog 98 #[v] w (qfj D w) := by
 obtain ⟨hl, ⟨hn, _⟩ | ⟨g, o, c, rfl, hc⟩⟩ := h
 ·omega
 obtain ⟨i0, hi, hz0, hz1, hz2⟩ := info_parts qtm
 have HI := Lib.hid hi
 have HZ0 := Lib.hid hz0
 have HZ1 := Lib.hid hz1
 have HZ2 := Lib.hid hz2
 clear hi hz0 hz1 hz2
 have HC := Lib.hid hc
 obtain ⟨n, HN⟩ : ∃ n, Hid (n = D.length) := ⟨_, rfl⟩
 rw [← HN.out] at h0 h1 ⊢
 clear hc hl
 have q22 : ∀ (w : World) (a : Option Addr) (n c n' c' : Nat), (binOp .eql 38 (.slice a n c) (.slice none n' c')).run Tryz.prog w = .ok (.bool a.isNone) w := fun w a n c n' c' => Lib.run_eql_slice_nil w _ _ a n c n' c' u8sT
 go_enter Tryz.func98, Tryz.ntmps98
 go_wp2_with (at_builtin; refine wpList_append_own _ rfl _ _ 38 rfl w.heap.size 5 i0 (.int .u8 0) 1 1 u8sT HI.out HZ0.out HZ1.out HZ2.out rfl (by decide) _ _ _ rfl (World.ownsRow_made w #[] 0 (Nat.le_refl _) (Nat.zero_le _) rfl) ⟨g, o, none⟩ n c (u8s D) rfl ?qc1 ?qc2 ?qc3 ?qc4 ?qc5 ?qc6 ?_)
 case qc1 => rw [qak, ← HN.out]; omega
 case qc2 =>
  intro j u hj
  have hadd : (⟨g, o, none⟩ : Addr).add j = ⟨g, o + j, none⟩ := by unfold Addr.add; split <;> simp_all
  rw [hadd]
  have := HC.out j u hj
  rw [World.cell?_alloc_lt _ _ _ (block_lt_of_cell this)]
  exact this
 case qc3 => exact qga D
 case qc4 => unfold maxLen; omega
 case qc5 => omega
 case qc6 => simp
 intro v' w1 hown hgrow hnil
 go_wp2
 go_ret
 refine ⟨v', rfl, ?_⟩
 obtain ⟨_, ⟨_, e0⟩ | ⟨g', cap, cur, rfl, hg', hh, hcp, _, _, ht⟩⟩ := hown
 ·omega
 ·refine ⟨g', cap, cur, by rw [HN.out], ⟨hg', by rw [← HN.out]; exact hcp⟩, hh, by rw [← HN.out]; simpa using ht, ?_⟩
  exact ((Below.refl _ w).alloc (Nat.le_refl _) _).grown hgrow (by simp) (by intro k hk; simp [Value.ownBlock] at hk; omega)
section
variable {w : World} {gd gs gn : Nat} {wt : Value} {E : List (Nat × Value)} {st : Dk} {L k : Nat} {F : Nat → Prop}
theorem Lies.c0 (h : Lies w gd gs gn wt E st L k F) : w.cell? ⟨gd, 0, none⟩ = some (.slice (some ⟨gs, 0, none⟩) L L) := cell_of_row _ _ _ _ _ _ h.hd
theorem Lies.c1 (h : Lies w gd gs gn wt E st L k F) : w.cell? ⟨gd, 1, none⟩ = some (.slice (some ⟨gn, 0, none⟩) L L) := cell_of_row _ _ _ _ _ _ h.hd
theorem Lies.c2 (h : Lies w gd gs gn wt E st L k F) : w.cell? ⟨gd, 2, none⟩ = some wt := cell_of_row _ _ _ _ _ _ h.hd
theorem Lies.c3 (h : Lies w gd gs gn wt E st L k F) : w.cell? ⟨gd, 3, none⟩ = some (.int .i64 st.fu) := cell_of_row _ _ _ _ _ _ h.hd
theorem Lies.z (h : Lies w gd gs gn wt E st L k F) (i : Nat) : w.frozen? ⟨gd, i, none⟩ = false := by simp [World.frozen?, h.hd]
theorem qnx (h : Lies w gd gs gn wt E st L k F) : Calls Tryz.prog 41 #[.pointer (some ⟨gd, 0, none⟩)] w fun e w' => e = .returned (.int .i64 (k : Int)) ∧ w = w' := by
 have c1 := h.c1
 have hl := h.hL
 have h1 := h.k1
 have HL := Lib.hid hl
 have hb : L ≤ 1000000 := by omega
 clear h hl
 go_enter Tryz.func41, Tryz.ntmps41
 go_wp2
 go_ret
 have := HL.out
 exact ⟨ret_i (by omega), rfl⟩
def decF (f : Int) : Int := if 0 < f then f - 1 else f
theorem qzr (h : Lies w gd gs gn wt E st L k F) (hf : st.fu = 0) : Calls Tryz.prog 113 #[.pointer (some ⟨gd, 0, none⟩)] w fun e w' => e = .returned (.bool false) ∧ w = w' := by
 have c3 := h.c3
 rw [hf] at c3
 clear h hf
 go_enter Tryz.func113, Tryz.ntmps113
 go_wp2
 go_ret
 exact ⟨rfl, rfl⟩
theorem qzs (h : Lies w gd gs gn wt E st L k F) (hf : st.fu ≠ 0) : Calls Tryz.prog 113 #[.pointer (some ⟨gd, 0, none⟩)] w fun e w' => e = .returned (.bool true) ∧ Lies w' gd gs gn wt E { st with fu := decF st.fu } L k F ∧ qac F w w' := by
 have c3 := h.c3
 have z3 := h.z 3
 have hg := h.f0
 have hg1 := h.f1
 have H := Lib.hid h
 obtain ⟨f, HF⟩ : ∃ f, Hid (f = st.fu) := ⟨_, rfl⟩
 rw [← HF.out] at c3 hf hg hg1 ⊢
 clear h
 by_cases hp : 0 < f
 ·have hb : (f == 0) = false := by simpa using hf
  clear hf
  go_enter Tryz.func113, Tryz.ntmps113
  go_wp2
  go_ret
  have e : decF f = f - 1 := by unfold decF; rw [if_pos hp]
  rw [e]
  exact ⟨rfl, H.out.setFu _ (by omega) (by omega), qac.setCell H.out.fd _⟩
 ·have hb : (f == 0) = false := by simpa using hf
  clear hf
  go_enter Tryz.func113, Tryz.ntmps113
  go_wp2
  go_ret
  have e : decF f = f := by unfold decF; rw [if_neg (by omega)]
  rw [e]
  have e2 : ({ st with fu := f } : Dk) = st := by rw [HF.out]
  rw [e2]
  exact ⟨rfl, H.out, qac.refl _ _⟩
theorem yblg {g n : Nat} {l : List Int} {t : TypeId} {fr : Nat × Nat} {c : Nat} (hl : l.length = 64 * k) (hn : n < k) (h : w.heap[g]? = some (.cells (u8s l).toArray t fr)) :
  qae w (.slice (some ⟨g, n * 64, none⟩) 64 c) (sec l n) := by
 refine ⟨by rw [qak]; omega, Or.inr ⟨g, n * 64, c, by rw [qhn hl hn], fun j x hx => ?_⟩⟩
 rw [cell_of_row _ _ _ _ t fr h]
 have hj := (List.getElem?_eq_some_iff.1 hx).1
 rw [qak, qhn hl hn] at hj
 unfold sec at hx
 rw [qci, qea, List.getElem?_take, if_pos hj, List.getElem?_drop] at hx
 rw [List.getElem?_toArray, Nat.mul_comm]
 exact hx
def qqt (D : List Int) (w : World) (e : Ending) (w' : World) : Prop := ∃ v, e = .returned (.tuple #[v, .int .i64 0]) ∧ qel D w v w'
set_option maxRecDepth 100000 in
theorem ybou (h : Lies w gd gs gn wt E st L k F) (n : Nat) (hn : n < k) : Calls Tryz.prog 69 #[.pointer (some ⟨gd, 0, none⟩), .int .i64 (n : Int)] w (qqt (sec st.N n) w) := by
 have c1 := h.c1
 have hl : st.N.length = 64 * k := by rw [h.ln, h.hL]
 have h4 := h.k1
 have HB : Hid (∀ c, qae w (.slice (some ⟨gn, n * 64, none⟩) 64 c) (sec st.N n)) := fun c => yblg hl hn h.hn
 have HS : Hid ((sec st.N n).length = 64) := qhn hl hn
 have H := Lib.hid h
 have hL : 64 * k ≤ L := by have := h.hL; omega
 have hL1 : L ≤ 64 * k := by have := h.hL; omega
 clear h hl
 have hn1 : ¬ (k : Int) ≤ (n : Int) := by omega
 have hn2 : (0 : Int) ≤ (n : Int) := by omega
 have hn3 : ((n : Int) + 1) * 64 ≤ (L : Int) := by omega
 have hcap : ¬ L = n * 64 := by omega
 go_enter Tryz.func69, Tryz.ntmps69
 go_wp2_with fail
 refine (qnx H.out).mono ?_
 rintro e w' ⟨rfl, rfl⟩
 go_wp2_with fail
 rw [show (n + 1) * 64 - n * 64 = 64 by omega]
 refine (qgr _ _ _ (HB.out _) (by rw [HS.out]; omega) (by rw [HS.out]; omega)).mono ?_
 rintro e w' ⟨v, rfl, hv⟩
 go_wp2
 go_ret2
 exact ⟨v, rfl, hv⟩
end
end Go.Proofs.YtpoglnpjadmbpaaGreatDoor
