/- Part of the proofs of CheckFresh, FsCut, FsHoles: the texts Tx3, Tx4, Tx5, Fs1, Fs2. -/
import Derived.Test.YtpoglnpjadmbpaaGreatDoorMA38
set_option maxHeartbeats 16000000
namespace Go.Proofs.YtpoglnpjadmbpaaGreatDoor
open Go.RowKit
theorem qpx : Tryz.prog.underlying 93 = some (.map 3 38) := by kernel_rfl
theorem u8sZ : ∀ w, (zeroValue 38).run Tryz.prog w = .ok (.slice none 0 0) w := (zero_of_info (P := Tryz.prog) (t := 38) (v := .slice none 0 0) (n := 1) (by kernel_rfl)).1
def secE (s : Fs) (n : Nat) : List Int := (getZ s.todo (n : Int)).getD (sec s.dk.N n)
theorem qfl {w : World} {gf : Nat} {d lg : Value} {fo : Fo} {rv nv tv hv : Value} {t : TypeId} {fr : Nat × Nat} (h : w.heap[gf]? = some (.cells (fsR d lg fo rv nv tv hv) t fr)) :
  w.cell? ⟨gf, 0, none⟩ = some d ∧ w.cell? ⟨gf, 1, none⟩ = some lg ∧ w.cell? ⟨gf, 194, none⟩ = some rv ∧ w.cell? ⟨gf, 195, none⟩ = some nv ∧ w.cell? ⟨gf, 196, none⟩ = some tv ∧ w.cell? ⟨gf, 197, none⟩ = some hv :=
 have c := fun i (hi : i < 198) => (cell_of_row _ _ i _ _ _ h).trans (qir d lg fo rv nv tv hv i hi)
 ⟨c 0 (by omega), c 1 (by omega), c 194 (by omega), c 195 (by omega), c 196 (by omega), c 197 (by omega)⟩
set_option maxRecDepth 100000 in
theorem qru {w : World} {gf : Nat} {s : Fs} {F : Nat → Prop} {B : Nat} {a : Addr} (h : FsAt w gf s F B a) (n : Nat) (hn : n < s.k) :
  Calls Tryz.prog 137 #[.pointer (some ⟨gf, 0, none⟩), .int .i64 (n : Int)] w (qqt (secE s n) w) := by
 obtain ⟨⟨gl, rv, nv, bt, bh, E, tl, FD, h1, h2, h3, h4, h5, h6, h7, h8, h9, h10, h11, h12, h13, h14, h15, h16, h17⟩, a1, a2, a3, a4, a5, a6, a7⟩ := h
 obtain ⟨c0, _, _, _, c196, _⟩ := qfl h1
 have hlk := h10.look_ok (k := (n : Int)) intT qpx (u8sZ w) (by unfold InZ; omega)
 have HRD := Lib.hid (qkg h2 n hn)
 rcases h11.get (k := (n : Int)) with ⟨g1, g2⟩ | ⟨v, D, g1, g2, g3⟩
 ·unfold hasZ at hlk
  rw [g1] at hlk
  have HE : Hid (secE s n = sec s.dk.N n) := by show _ = _; unfold secE; rw [g2]; rfl
  rw [show ((none : Option Value).getD (.slice none 0 0)) = .slice none 0 0 from rfl, show ((none : Option Value).isSome) = false from rfl] at hlk
  clear h1 h2 h3 h4 h5 h6 h7 h8 h9 h10 h11 h12 h13 h14 h15 h16 h17 a1 a2 a3 a4 a5 a6 a7 g1 g2
  go_enter Tryz.func137, Tryz.ntmps137
  go_wp2_with fail
  refine HRD.out.mono ?_
  rintro e w1 ⟨v1, rfl, hv1⟩
  have HV := Lib.hid hv1
  clear hv1
  go_wp2
  go_ret2
  rw [HE.out]
  exact ⟨v1, rfl, HV.out⟩
 ·unfold hasZ at hlk
  rw [g1] at hlk
  have HE : Hid (secE s n = D) := by show _ = _; unfold secE; rw [g2]; rfl
  rw [show ((some v).getD (.slice none 0 0)) = v from rfl, show ((some v).isSome) = true from rfl] at hlk
  have hD64 : D.length = 64 := by obtain ⟨_, _, _, _, hh, _⟩ := g3; exact hh
  have HCL := Lib.hid (qgr v D w g3.at (by omega) (by omega))
  clear h1 h2 h3 h4 h5 h6 h7 h8 h9 h10 h11 h12 h13 h14 h15 h16 h17 a1 a2 a3 a4 a5 a6 a7 g1 g2 g3
  go_enter Tryz.func137, Tryz.ntmps137
  go_wp2_with fail
  refine HCL.out.mono ?_
  rintro e w1 ⟨v1, rfl, hv1⟩
  have HV := Lib.hid hv1
  clear hv1
  go_wp2
  go_ret2
  rw [HE.out]
  exact ⟨v1, rfl, HV.out⟩
def secT (x : Tx) (s : Fs) (n : Nat) : List Int := (getZ x.put (n : Int)).getD (secE s n)
set_option maxRecDepth 100000 in
theorem ybqb {w : World} {B : Nat} {F F1 T : Nat → Prop} {gt gf : Nat} {x : Tx} {s : Fs} {a : Addr} {B0 : Nat} (h : TxAt w B F gt (.pointer (some ⟨gf, 0, none⟩)) x T) (hf : FsAt w gf s F1 B0 a) (n : Nat) (hn : n < s.k) :
  Calls Tryz.prog 92 #[.pointer (some ⟨gt, 0, none⟩), .int .i64 (n : Int)] w (qfj (secT x s n) w) := by
 obtain ⟨rv, gn, cn, gd, gp, gv, E, pl, hl⟩ := h.lies
 obtain ⟨c0, _, _, _, c196, _⟩ := qcp hl.row
 have hlk := hl.puts.look_ok (k := (n : Int)) intT qpx (u8sZ w) (by unfold InZ; have := hf.k1; omega)
 have HRD := Lib.hid (qru hf n hn)
 rcases hl.secs.get (k := (n : Int)) with ⟨g1, g2⟩ | ⟨v, D, g1, g2, g3⟩
 ·unfold hasZ at hlk
  rw [g1] at hlk
  have HE : Hid (secT x s n = secE s n) := by show _ = _; unfold secT; rw [g2]; rfl
  rw [show ((none : Option Value).getD (.slice none 0 0)) = .slice none 0 0 from rfl, show ((none : Option Value).isSome) = false from rfl] at hlk
  clear h hf hl g1 g2
  go_enter Tryz.func92, Tryz.ntmps92
  go_wp2_with fail
  refine HRD.out.mono ?_
  rintro e w1 ⟨v1, rfl, hv1⟩
  have HV := Lib.hid hv1
  clear hv1
  go_wp2
  go_ret
  rw [HE.out]
  exact ⟨v1, rfl, HV.out⟩
 ·unfold hasZ at hlk
  rw [g1] at hlk
  have HE : Hid (secT x s n = D) := by show _ = _; unfold secT; rw [g2]; rfl
  rw [show ((some v).getD (.slice none 0 0)) = v from rfl, show ((some v).isSome) = true from rfl] at hlk
  have hD64 : D.length = 64 := by obtain ⟨_, _, _, _, hh, _⟩ := g3; exact hh
  have HCL := Lib.hid (qgr v D w g3.at (by omega) (by omega))
  clear h hf hl g1 g2 g3 hD64
  go_enter Tryz.func92, Tryz.ntmps92
  go_wp2_with fail
  refine HCL.out.mono ?_
  rintro e w1 ⟨v1, rfl, hv1⟩
  have HV := Lib.hid hv1
  clear hv1
  go_wp2
  go_ret
  rw [HE.out]
  exact ⟨v1, rfl, HV.out⟩
def qck (x : Tx) (s : Fs) (P : List Int) (k : Nat) : List Int := if P.getD k 0 = 0 then List.replicate 64 0 else secT x s (P.getD k 0).toNat
theorem qfj.bump {D : List Int} {w w1 : World} {e : Ending} {w' : World} (hb : Below w.heap.size w w1) (h : qfj D w1 e w') : qfj D w e w' := by
 obtain ⟨v, he, g, cap, cur, h1, h2, h3, h4, h5⟩ := h
 exact ⟨v, he, g, cap, cur, h1, ⟨Nat.le_trans hb.size h2.1, h2.2⟩, h3, h4, Below.step hb h5⟩
set_option maxRecDepth 100000 in
theorem qxz {w : World} {B : Nat} {F F1 T : Nat → Prop} {gt gf : Nat} {x : Tx} {s : Fs} {a : Addr} {B0 : Nat} (h : TxAt w B F gt (.pointer (some ⟨gf, 0, none⟩)) x T) (hf : FsAt w gf s F1 B0 a) (X : Pn) (q : Option Addr) (n c : Nat) (hX : qan w (.slice q n c) X.P) (k : Nat) (hk : k < 8) (hP : ∀ p ∈ X.P, 0 ≤ p ∧ p < (s.k : Int)) (hPl : X.P.length ≤ 8) :
  Calls Tryz.prog 51 #[.pointer (some ⟨gt, 0, none⟩), .agg #[.int .i64 X.k, .int .i64 X.m, .int .i64 X.u, .int .i64 X.g, .int .i64 X.s, .int .i64 X.l, .int .i64 X.up, .slice q n c], .int .i64 (k : Int)] w (qfj (qck x s X.P k) w) := by
 obtain ⟨p, cp, hv, HPP⟩ := qjx hX
 injection hv with e1 e2 e3
 subst e1 e3
 have HN : Hid (X.P.length = n) := e2.symm
 clear e2
 rw [HN.out] at HPP hPl
 have HBX : Hid (Below w.heap.size w (w.alloc (.cells #[.int .i64 X.k, .int .i64 X.m, .int .i64 X.u, .int .i64 X.g, .int .i64 X.s, .int .i64 X.l, .int .i64 X.up, .slice q n c] 103))) := (Below.refl _ _).alloc (Nat.le_refl _) _
 have H1 := Lib.hid (h.below HBX.out)
 have HF1 := Lib.hid (hf.below HBX.out)
 obtain ⟨Z, HZ⟩ : ∃ Z, Hid (Z = List.replicate 64 (0 : Int)) := ⟨_, rfl⟩
 have hmk : ∀ W : World, (Instr.makeSlice 38 (.int .i64 64) (.int .i64 64)).run Tryz.prog W = .ok (.slice (some ⟨W.heap.size, 0, none⟩) 64 64) (W.alloc (.cells (u8s Z).toArray 5)) := fun W => by
  rw [HZ.out]; exact qhl 64 64 rfl (by omega) W
 have HZR : Hid (qck x s X.P k = Z → qfj (qck x s X.P k) w (.returned (.slice (some ⟨(w.alloc (.cells #[.int .i64 X.k, .int .i64 X.m, .int .i64 X.u, .int .i64 X.g, .int .i64 X.s, .int .i64 X.l, .int .i64 X.up, .slice q n c] 103)).heap.size, 0, none⟩) 64 64)) ((w.alloc (.cells #[.int .i64 X.k, .int .i64 X.m, .int .i64 X.u, .int .i64 X.g, .int .i64 X.s, .int .i64 X.l, .int .i64 X.up, .slice q n c] 103)).alloc (.cells (u8s Z).toArray 5))) := fun hz => by
  have hZl : Z.length = 64 := by rw [HZ.out]; simp
  refine qfj.bump HBX.out ⟨_, rfl, _, 64, _, by rw [hz, hZl], ⟨Nat.le_refl _, by rw [hz, hZl]; exact Nat.le_refl _⟩, heap_alloc_new _ _, ?_, (Below.refl _ _).alloc (Nat.le_refl _) _⟩
  rw [hz, List.take_of_length_le (by rw [List.toList_toArray, qak]; exact Nat.le_refl _)]
 by_cases hkn : n ≤ k
 ·have HE : Hid (qck x s X.P k = Z) := by
   show _ = _
   unfold qck
   rw [List.getD_eq_getElem?_getD, List.getElem?_eq_none (by rw [HN.out]; exact hkn), show (none : Option Int).getD 0 = 0 from rfl, if_pos rfl, HZ.out]
  have d1 : decide ((n : Int) ≤ (k : Int)) = true := decide_eq_true (by omega)
  have d2 : (n : Int) ≤ (k : Int) := by omega
  clear h hf hX HPP
  go_enter Tryz.func51, Tryz.ntmps51
  go_wp2
  go_ret
  simpa using HZR.out HE.out
 ·have hkP : k < X.P.length := by rw [HN.out]; omega
  obtain ⟨gp, op, rfl, hcp⟩ := HPP.out (by omega)
  have cj := hcp k _ (qdn X.P k hkP)
  have hgl := block_lt_of_cell cj
  have hgn : ¬ gp = w.heap.size := by show ¬ gp = w.heap.size; have h2 : gp < w.heap.size := hgl; omega
  have hpr := hP _ (List.getElem_mem hkP)
  have hgd : X.P.getD k 0 = X.P[k] := by rw [List.getD_eq_getElem?_getD, List.getElem?_eq_getElem hkP]; rfl
  have d1 : decide ((n : Int) ≤ (k : Int)) = false := decide_eq_false (by omega)
  have d2 : ¬ (n : Int) ≤ (k : Int) := by omega
  have d3 : (k : Int) < (n : Int) := by omega
  obtain ⟨y, Hy⟩ : ∃ y, Hid (X.P[k]'hkP = y) := ⟨_, rfl⟩
  rw [Hy.out] at cj hpr hgd
  by_cases hy0 : y = 0
  ·subst hy0
   have HE : Hid (qck x s X.P k = Z) := by show _ = _; unfold qck; rw [hgd, if_pos rfl, HZ.out]
   clear h hf hX HPP hcp
   go_enter Tryz.func51, Tryz.ntmps51
   go_wp2
   go_ret
   simpa using HZR.out HE.out
  ·have b0 : (y == 0) = false := by simpa using hy0
   obtain ⟨p, Hp⟩ : ∃ p : Nat, Hid (y = (p : Int)) := ⟨y.toNat, by show _ = _; omega⟩
   have HE : Hid (qck x s X.P k = secT x s p) := by show _ = _; unfold qck; rw [hgd, if_neg hy0, Hp.out]; rfl
   have hpk : p < s.k := by have := Hp.out; omega
   have HSC := Lib.hid (ybqb H1.out HF1.out p hpk)
   rw [← Hp.out] at HSC
   clear h hf hX HPP hcp hy0
   go_enter Tryz.func51, Tryz.ntmps51
   go_wp2_with fail
   refine HSC.out.mono ?_
   intro e w1 hr
   obtain ⟨v1, rfl, hv1⟩ := hr
   have HV := Lib.hid hv1
   clear hv1
   go_wp2
   go_ret
   rw [HE.out]
   exact qfj.bump HBX.out ⟨v1, rfl, HV.out⟩
def ybqv (x : Tx) (s : Fs) (p : Int) (p' : Nat) (fo : Fo) : Prop :=
 (p = 0 ∧ ybfn x.fo s.k p' ∧ fo = useF x.fo p') ∨ (p = (p' : Int) ∧ 0 < p' ∧ p' < 256 ∧ (∀ k, 1 ≤ k → k < 4 → qbd x.fo k = false) ∧ fo = x.fo)
theorem tx_own {w : World} {B : Nat} {F F1 T : Nat → Prop} {gt gf : Nat} {x : Tx} {s : Fs} {a : Addr} {B0 : Nat} (h : TxAt w B F gt (.pointer (some ⟨gf, 0, none⟩)) x T) (hf : FsAt w gf s F1 B0 a) (p : Int) (p' : Nat) (fo : Fo) (ho : ybqv x s p p' fo) :
  Calls Tryz.prog 93 #[.pointer (some ⟨gt, 0, none⟩), .int .i64 p] w
   (fun e w' => e = .returned (.int .i64 (p' : Int)) ∧ qec B F gt (.pointer (some ⟨gf, 0, none⟩)) { x with fo := fo } T w w') := by
 rcases ho with ⟨rfl, h1, rfl⟩ | ⟨rfl, h1, h2, h3, rfl⟩
 ·exact ybzf h hf p' h1
 ·exact (ybqa h p' h1 h2 h3).mono fun e w' ⟨he, hb⟩ => ⟨he, qec.same h hb⟩
theorem qbs.putMap {w w' : World} {B : Nat} {F T : Nat → Prop} {gt : Nat} {fp : Value} {x : Tx} {rv : Value} {gn cn gd gp : Nat} {gv : Value} {E : List Nd} {pl : List (Int × Value)} (h : qbs w B F T gt fp x rv gn cn gd gp gv E pl) (hx : TxAt w B F gt fp x T) (p : Int) (v : Value) (D : List Int)
  (hv : qen w B v D) (hk : qac (fun i => i = gp) w w') (hm : MapL Tryz.prog 3 w' gp (putZ pl p v)) (hl : x.put.length < 1000) : TxAt w' B F gt fp { x with put := putZ x.put p D } T := by
 have hkT : qac T w w' := hk.mono fun i _ hi => by rw [hi]; exact h.tp
 have hb : ∀ b, b < w.heap.size → b ≠ gp → w'.heap[b]? = w.heap[b]? := fun b h1 h2 => hk.block b h1 h2
 obtain ⟨cu, q1, q2, q3, q4, q5, q6⟩ := h.block
 refine qbs.at (x := { x with put := putZ x.put p D }) (rv := rv) (gn := gn) (cn := cn) (gd := gd) (gp := gp) (gv := gv) (E := E) (pl := putZ pl p v) ⟨(hb gt (qab h.row) (qai h.row h.puts)).trans h.row, ybbo h.rows hkT (fun _ hi => Or.inl hi), ?_, ybkb h.nds hkT (fun _ hi => Or.inl hi), ?_, hm, ?_, h.ne, ?_, h.tn, h.td, h.tp, h.tg⟩ hx.self hx.len (fun i hi => Nat.lt_of_lt_of_le (hx.fin i hi) hk.size) hx.new hx.gone (Nat.le_trans (qeq _ _ _) hl) hx.dirty hx.rows hx.fake
 ·exact qav h.own fun b hb2 => hb b (h.own.lt b hb2).2 (by injection hb2 with hb2; rw [← hb2]; exact qai q1 h.puts)
 ·exact h.dirt.of_block (hb gd h.dirt.lt h.ne)
 ·exact qau.put (qgo hv fun g cc _ hc => hb g (qab hc) (qai hc h.puts)) (h.secs.keep fun g cc _ hc => hb g (qab hc) (qai hc h.puts))
 ·refine qav h.gone fun b hb2 => hb b (h.gone.lt b hb2).2 ?_
  obtain ⟨_, ⟨hv, _⟩ | ⟨g, c1, cu1, hv, _, hh1, _⟩⟩ := id h.gone
  ·rw [hv] at hb2; cases hb2
  ·rw [hv] at hb2
   injection hb2 with hb2
   rw [← hb2]
   exact qai hh1 h.puts
set_option maxRecDepth 100000 in
theorem qya {w w0 : World} {F F1 T : Nat → Prop} {gt gf : Nat} {x : Tx} {s : Fs} {a : Addr} {B0 : Nat} (hf : FsAt w0 gf s F1 B0 a) (hb : Below w0.heap.size w0 w) (h : TxAt w w0.heap.size F gt (.pointer (some ⟨gf, 0, none⟩)) x T) (gb : Nat) (X : Pn) (q : Option Addr) (n c : Nat)
  (hr : w.heap[gb]? = some (.cells #[.int .i64 X.k, .int .i64 X.m, .int .i64 X.u, .int .i64 X.g, .int .i64 X.s, .int .i64 X.l, .int .i64 X.up, .slice q n c] 103 (0, 0))) (hX : qan w (.slice q n c) X.P) (hgb : F gb ∧ ¬ T gb ∧ w0.heap.size ≤ gb)
  (k : Nat) (hk : k < X.P.length) (hPl : X.P.length ≤ 8) (p' : Nat) (hp' : p' < 256) (fo : Fo) (ho : ybqv x s X.P[k] p' fo) (v : Value) (D : List Int) (hv : qen w w0.heap.size v D) (hvT : ∀ b, v.ownBlock = some b → ¬ T b) (hpl : x.put.length < 900) :
  Calls Tryz.prog 52 #[.pointer (some ⟨gt, 0, none⟩), .pointer (some ⟨gb, 0, none⟩), .int .i64 (k : Int), v] w
   (fun e w' => e = .returned (.tuple #[]) ∧ ∃ T' g' c', TxAt w' w0.heap.size F gt (.pointer (some ⟨gf, 0, none⟩)) { x with fo := fo, put := putZ x.put (p' : Int) D } T' ∧ (∀ i, T' i → T i ∨ w.heap.size ≤ i) ∧ (∀ i, T i → T' i) ∧
    qac (fun i => T i ∨ i = gb) w w' ∧ w'.heap[gb]? = some (.cells #[.int .i64 X.k, .int .i64 X.m, .int .i64 X.u, .int .i64 X.g, .int .i64 X.s, .int .i64 X.l, .int .i64 X.up, .slice (some ⟨g', 0, none⟩) X.P.length c'] 103 (0, 0)) ∧
    (w.heap.size ≤ g' ∧ ¬ T' g' ∧ X.P.length ≤ c') ∧ ∃ cu, w'.heap[g']? = some (.cells cu 3 (0, 0)) ∧ cu.toList.take X.P.length = ints (X.P.set k (p' : Int))) := by
 have H := Lib.hid h
 have HF := Lib.hid hf
 have HBB := Lib.hid hb
 have HO := Lib.hid ho
 have HV := Lib.hid hv
 have HVT := Lib.hid hvT
 have HX := Lib.hid hX
 have HR := Lib.hid hr
 have c7 := (qam hr).2.2.2.2.2.2.2
 have f7 : w.frozen? ⟨gb, 7, none⟩ = false := frozen_of_row _ _ _ _ _ hr
 have hgl : gb < w.heap.size := qab hr
 have HCL := Lib.hid (qgh (.slice q n c) X.P w hX (by omega))
 clear ho hv hX
 go_enter Tryz.func52, Tryz.ntmps52
 go_wp2_with fail
 refine HCL.out.mono ?_
 intro e w1 hres
 obtain ⟨v1, rfl, hO1, hb1, _⟩ := hres
 obtain ⟨_, ⟨hv1, h0⟩ | ⟨g1, c1, cu1, rfl, hg1, hh1, hc1, hm1, hs1, ht1⟩⟩ := id hO1
 ·omega
 obtain ⟨N, HN⟩ : ∃ N, Hid (X.P.length = N) := ⟨_, rfl⟩
 have hkN : k < N := by rw [← HN.out]; exact hk
 have hkN2 : (k : Int) < (N : Int) := by omega
 rw [HN.out] at hc1 ht1 ⊢
 have HB1 := Lib.hid hb1
 have H1 := Lib.hid (h.grow hb1 g1 hg1)
 have HRW := Lib.hid (qaa hb1 hr)
 have d7 := (hb1.cell (p := ⟨gb, 7, none⟩) hgl).trans c7
 have e7 : w1.frozen? ⟨gb, 7, none⟩ = false := frozen_of_row _ _ _ _ _ HRW.out
 have hne1 : gb ≠ g1 := by omega
 have HH1 := Lib.hid hh1
 obtain ⟨w2, HW2⟩ : ∃ x, Hid (w1.setCell ⟨gb, 7, none⟩ (.slice (some ⟨g1, 0, none⟩) N c1) = x) := ⟨_, rfl⟩
 have HK2 : Hid (qac (fun i => i = gb) w w2) := by show _; rw [← HW2.out]; exact (qac.of_below hb1).step (qac.setCell (F := fun i => i = gb) (p := ⟨gb, 7, none⟩) rfl _)
 have HT2 : Hid (TxAt w2 w0.heap.size (fun i => F i ∨ i = g1) gt (.pointer (some ⟨gf, 0, none⟩)) x T) := by show _; rw [← HW2.out]; exact H1.out.local (Or.inl hgb.1) hgb.2.1 HRW.out (by decide) (qac.setCell (F := fun i => i = gb) (p := ⟨gb, 7, none⟩) rfl _)
 have HBW2 : Hid (Below w0.heap.size w0 w2) := hb.trans (HK2.out.to_below (fun i hi => by rw [hi]; exact hgb.2.2) hb.size)
 have HF2 : Hid (FsAt w2 gf s F1 B0 a) := hf.below HBW2.out
 have HR2 : Hid (w2.heap[gb]? = some (.cells #[.int .i64 X.k, .int .i64 X.m, .int .i64 X.u, .int .i64 X.g, .int .i64 X.s, .int .i64 X.l, .int .i64 X.up, .slice (some ⟨g1, 0, none⟩) N c1] 103 (0, 0))) := by show _ = _; rw [← HW2.out]; exact heap_setCell_same _ _ 7 _ _ _ HRW.out
 have HG2 : Hid (w2.heap[g1]? = some (.cells cu1 3 (0, 0))) := by show _ = _; rw [← HW2.out]; exact (Below.heap_setCell _ _ _ _ (Ne.symm hne1)).trans hh1
 have n7 : w2.cell? ⟨gb, 7, none⟩ = some (.slice (some ⟨g1, 0, none⟩) N c1) := (qam HR2.out).2.2.2.2.2.2.2
 obtain ⟨y, Hy⟩ : ∃ y, Hid (X.P[k]'hk = y) := ⟨_, rfl⟩
 have nk : w2.cell? ⟨g1, k, none⟩ = some (.int .i64 y) := by
  rw [cell_of_row _ _ _ _ _ _ HG2.out, ← Array.getElem?_toList]
  have h3 : (cu1.toList.take (N * 1))[k]? = (ints X.P)[k]? := by rw [ht1]
  rw [List.getElem?_take, if_pos (by omega), qdn X.P k hk, Hy.out] at h3
  exact h3
 have fk : w2.frozen? ⟨g1, k, none⟩ = false := frozen_of_row _ _ _ _ _ HG2.out
 have HO2 : Hid (ybqv x s y p' fo) := by show _; rw [← Hy.out]; exact HO.out
 have HT1 := Lib.hid ht1
 have HS1 : Hid (N ≤ c1 ∧ cu1.size = c1 * 1 ∧ w.heap.size ≤ g1) := ⟨hc1, hs1, hg1⟩
 clear hO1 hb1 hh1 ht1 hc1 hm1 hs1 hg1 HCL
 go_upto_region 1 with fail
 rw [HW2.out]
 have HOW : Hid (∀ W : World, Below w2.heap.size w2 W → Calls Tryz.prog 93 #[.pointer (some ⟨gt, 0, none⟩), .int .i64 y] W
   (fun e w' => e = .returned (.int .i64 (p' : Int)) ∧ qec w0.heap.size (fun i => F i ∨ i = g1) gt (.pointer (some ⟨gf, 0, none⟩)) { x with fo := fo } T W w')) := fun W hW => tx_own (HT2.out.below hW) (HF2.out.below hW) y p' fo HO2.out
 have HGT : Hid (¬ T gb ∧ ¬ T g1 ∧ gb < w2.heap.size ∧ g1 < w2.heap.size) := ⟨hgb.2.1, fun hc => by have := HT2.out.fin g1 hc; have h2 := h.fin g1 hc; have h3 := HS1.out.2.2; omega, qab HR2.out, qab HG2.out⟩
 have HS : ∀ W : World, (∃ W0, Below w2.heap.size w2 W0 ∧ qac T W0 W) → (W.cell? ⟨gb, 7, none⟩ = some (.slice (some ⟨g1, 0, none⟩) N c1) ∧ W.cell? ⟨g1, k, none⟩ = some (.int .i64 y) ∧ W.frozen? ⟨g1, k, none⟩ = false) := fun W ⟨W0, hW, hk⟩ =>
  ⟨((hk.cell (Nat.lt_of_lt_of_le HGT.out.2.2.1 hW.size) HGT.out.1).trans (hW.cell (p := ⟨gb, 7, none⟩) HGT.out.2.2.1)).trans n7, ((hk.cell (Nat.lt_of_lt_of_le HGT.out.2.2.2 hW.size) HGT.out.2.1).trans (hW.cell (p := ⟨g1, k, none⟩) HGT.out.2.2.2)).trans nk,
   frozen_of_row _ _ _ _ _ ((hk.block g1 (Nat.lt_of_lt_of_le HGT.out.2.2.2 hW.size) HGT.out.2.1).trans (qaa hW HG2.out))⟩
 have HSS := Lib.hid HS
 have m0 := HSS.out w2.drew ⟨w2.drew, (Below.refl _ _).drew, qac.refl _ _⟩
 clear HS c7 f7 d7 e7
 go_cut [0, 1, 2, 3] (fun s0 s1 s2 s3 wx => s0 = .pointer (some ⟨gt, 0, none⟩) ∧ s1 = .pointer (some ⟨gb, 0, none⟩) ∧ s2 = .int .i64 (k : Int) ∧ s3 = v ∧ ∃ W, Hid (qec w0.heap.size (fun i => F i ∨ i = g1) gt (.pointer (some ⟨gf, 0, none⟩)) { x with fo := fo } T w2.drew W) ∧ Hid (wx = W.setCell ⟨g1, k, none⟩ (.int .i64 (p' : Int))))
 case first =>
  go_region_with (first
   | (go_at_call 93; go_loud ((with_reducible refine (HOW.out w2.drew (Below.refl _ _).drew).mono ?_); (rintro e w3 ⟨rfl, hd3⟩); (obtain ⟨m3a, m3b, m3c⟩ := HSS.out w3 ⟨w2.drew, (Below.refl _ _).drew, hd3.choose_spec.2.2.1⟩); (have HD3 := Lib.hid hd3); clear hd3)))
  all_goals
   go_wp2_with fail
   go_meet
   case rel => exact ⟨rfl, rfl, rfl, rfl, _, HD3, rfl⟩
 case rest =>
  obtain ⟨rfl, rfl, rfl, rfl, W, ⟨T', t1, t2, t3, t4⟩, HWC⟩ := hcut
  have HT1' := Lib.hid t1
  have hgT' : ¬ T' gb ∧ ¬ T' g1 := ⟨fun hc => (t2 gb hc).elim HGT.out.1 (fun h1 => absurd h1 (Nat.not_le_of_lt HGT.out.2.2.1)), fun hc => (t2 g1 hc).elim HGT.out.2.1 (fun h1 => absurd h1 (Nat.not_le_of_lt HGT.out.2.2.2))⟩
  have hGW : W.heap[g1]? = some (.cells cu1 3 (0, 0)) := (t3.block g1 HGT.out.2.2.2 HGT.out.2.1).trans HG2.out
  have hRW : W.heap[gb]? = some (.cells #[.int .i64 X.k, .int .i64 X.m, .int .i64 X.u, .int .i64 X.g, .int .i64 X.s, .int .i64 X.l, .int .i64 X.up, .slice (some ⟨g1, 0, none⟩) N c1] 103 (0, 0)) := (t3.block gb HGT.out.2.2.1 HGT.out.1).trans HR2.out
  have HTW : Hid (TxAt wc w0.heap.size (fun i => F i ∨ i = g1) gt (.pointer (some ⟨gf, 0, none⟩)) { x with fo := fo } T') := by
   show _
   rw [HWC.out]
   exact HT1'.out.local (Or.inr rfl) hgT'.2 hGW (by decide) (qac.setCell (F := fun i => i = g1) (p := ⟨g1, k, none⟩) rfl _)
  have hgwl : g1 < W.heap.size := qab hGW
  obtain ⟨cu2, HC2⟩ : ∃ cu, Hid (cu1.setIfInBounds k (.int .i64 (p' : Int)) = cu) := ⟨_, rfl⟩
  have HGC : Hid (wc.heap[g1]? = some (.cells cu2 3 (0, 0))) := by show _ = _; rw [HWC.out, ← HC2.out]; exact heap_setCell_same _ _ k _ _ _ hGW
  have HRC : Hid (wc.heap[gb]? = some (.cells #[.int .i64 X.k, .int .i64 X.m, .int .i64 X.u, .int .i64 X.g, .int .i64 X.s, .int .i64 X.l, .int .i64 X.up, .slice (some ⟨g1, 0, none⟩) N c1] 103 (0, 0))) := by show _ = _; rw [HWC.out]; exact (Below.heap_setCell _ _ _ _ hne1).trans hRW
  have HCI : Hid (cu2.toList.take N = ints (X.P.set k (p' : Int))) := by
   show _ = _
   rw [← HC2.out]
   have h1 := HT1.out
   rw [Nat.mul_one] at h1
   rw [Array.toList_setIfInBounds, List.take_set, h1]
   unfold ints
   rw [List.map_set]
  have HK3 : Hid (qac (fun i => T i ∨ i = gb) w wc) := by
   show _
   rw [HWC.out]
   have k1 : qac (fun i => T i ∨ i = gb) w w2 := HK2.out.mono fun i _ hi => Or.inr hi
   have k2 : qac (fun i => T i ∨ i = gb) w2 W := (qac.of_below ((Below.refl _ _).drew)).step (t3.mono fun i _ hi => Or.inl hi)
   exact (k1.step k2).trans (qac.setCell (F := fun i => i = g1) (p := ⟨g1, k, none⟩) rfl _) fun i hi => Or.inr (by rw [hi]; exact HS1.out.2.2)
  have HTT : Hid ((∀ i, T' i → T i ∨ w.heap.size ≤ i) ∧ ∀ i, T i → T' i) := ⟨fun i hi => (t2 i hi).imp id (fun h1 => Nat.le_trans HK2.out.size h1), t4⟩
  have HGT' := Lib.hid hgT'
  obtain ⟨rv, gn, cn, gd, gp, gv, E, pl, hl⟩ := HTW.out.lies
  obtain ⟨_, _, _, _, c196, _⟩ := qcp hl.row
  have n7 : wc.cell? ⟨gb, 7, none⟩ = some (.slice (some ⟨g1, 0, none⟩) N c1) := (qam HRC.out).2.2.2.2.2.2.2
  have nk : wc.cell? ⟨g1, k, none⟩ = some (.int .i64 (p' : Int)) := by
   rw [cell_of_row _ _ _ _ _ _ HGC.out, ← Array.getElem?_toList]
   have h3 : (cu2.toList.take N)[k]? = (ints (X.P.set k (p' : Int)))[k]? := by rw [HCI.out]
   rw [List.getElem?_take, if_pos hkN, qdn _ k (by rw [List.length_set]; exact hk), List.getElem_set_self] at h3
   exact h3
  have k196 := cell_regrown c196
  have k7 := cell_regrown n7
  have kk := cell_regrown nk
  have HL := Lib.hid hl
  have HVC : Hid (qen wc w0.heap.size u3 D) := by
   obtain ⟨g, cap, cur, z1, z2, z3, z4, z5, z6⟩ := HV.out
   refine ⟨g, cap, cur, z1, z2, z3, z4, (HK3.out.block g (qab z5) (fun hT => ?_)).trans z5, z6⟩
   rcases hT with hT | hT
   ·exact HVT.out g (by rw [z1]; rfl) hT
   ·rw [hT, HR.out] at z5; injection z5 with z5; injection z5 with _ z5; exact absurd z5 (by decide)
  clear t1 t2 t3 t4 hGW hRW hgT' hl c196 n7 nk m0 HOW HSS
  go_wp2_with fail
  refine qds 12 (by kernel_rfl) (by kernel_rfl) ?_
  simp only [List.take_succ_cons, List.take_zero, List.drop_succ_cons, List.drop_zero]
  repeat (first
   | go_big_quiet_skip
   | (go_big_quiet_want; go_big_quiet_op; go_big_quiet_on))
  refine wpQuiet_nil ?_
  intro w5 hw5
  have HB5 := Lib.hid (qaq hw5)
  have HP5 : Hid (MapL Tryz.prog 3 w5 gp pl) := HL.out.puts.of_block (HB5.out.block _ HL.out.puts.lt)
  have hl5 : pl.length < 900 := by rw [HL.out.secs.len]; exact hpl
  go_wp2_with (at_mapUpdate; refine qho _ rfl _ _ _ _ rfl 3 38 intT qpx gp pl (p' : Int) u3 rfl HP5.out (by omega) rfl rfl (by unfold InZ; omega) ?_; intro w6 hm6 ht6)
  go_end0
  have hk6 : qac (fun i => i = gp) w5 w6 := qac.grown ht6.grown (fun r hr => by injection hr with hr; exact hr.symm)
  have hV5 : qen w5 w0.heap.size u3 D := qgo HVC.out fun g cc _ hc => HB5.out.block g (qab hc)
  have hT6 := (HL.out.below HB5.out).putMap (HTW.out.below HB5.out) (p' : Int) u3 D hV5 hk6 hm6 (by show x.put.length < 1000; omega)
  have hb6 : ∀ (b : Nat) (c : Array Value) (t : TypeId), wc.heap[b]? = some (.cells c t (0, 0)) → w6.heap[b]? = some (.cells c t (0, 0)) := fun b c t hc => by
   have h5 := qaa HB5.out hc
   exact (hk6.block b (qab h5) (qai h5 HP5.out)).trans h5
  refine ⟨rfl, T', hT6.outer (fun i _ hi => Or.inl hi), HTT.out.1, HTT.out.2, ?_, g1, c1, ?_, ⟨HS1.out.2.2, HGT'.out.2, ?_⟩, cu2, hb6 g1 _ _ HGC.out, ?_⟩
  ·refine (HK3.out.step (qac.of_below HB5.out)).trans hk6 fun i hi => ?_
   rcases HTT.out.1 gp HL.out.tp with h1 | h1
   ·exact Or.inl (Or.inl (by rw [hi]; exact h1))
   ·exact Or.inr (by rw [hi]; exact h1)
  ·rw [HN.out]; exact hb6 gb _ _ HRC.out
  ·rw [HN.out]; exact HS1.out.1
  ·rw [HN.out]; exact HCI.out
def qcj (f : Fo) : Prop := ∀ k, 1 ≤ k → k < 4 → qbd f k = false
theorem qcj.use {f : Fo} (h : qcj f) (n : Nat) : qcj (useF f n) := fun k h1 h4 => h k h1 h4
def qtx (f : Fo) (k : Nat) : Option Nat := (List.range k).find? fun n => decide (37 ≤ n) && !qfb f 4 n
theorem ybfo {f : Fo} {k n : Nat} (h : qtx f k = some n) : ybfn f k n := by
 unfold qtx at h
 rw [List.find?_range_eq_some] at h
 obtain ⟨h1, h2, h3⟩ := h
 simp only [Bool.and_eq_true, decide_eq_true_eq, Bool.not_eq_true'] at h1
 refine ⟨h1.1, List.mem_range.1 h2, h1.2, fun m m1 m2 => ?_⟩
 have := h3 m m2
 simpa [m1] using this
def ownE (f : Fo) (k : Nat) (p : Int) : Option (Nat × Fo) := if p = 0 then (qtx f k).map fun n => (n, useF f n) else if 0 < p ∧ p < 256 then some (p.toNat, f) else none
theorem ybod {x : Tx} {s : Fs} {p : Int} {p' : Nat} {fo : Fo} (h : ownE x.fo s.k p = some (p', fo)) (hn : qcj x.fo) (hk : s.k ≤ 256) : ybqv x s p p' fo ∧ p' < 256 ∧ qcj fo := by
 unfold ownE at h
 by_cases h0 : p = 0
 ·rw [if_pos h0] at h
  cases hf : qtx x.fo s.k with
  | none => rw [hf] at h; cases h
  | some n =>
   rw [hf] at h
   simp only [Option.map_some, Option.some.injEq, Prod.mk.injEq] at h
   obtain ⟨rfl, rfl⟩ := h
   have := ybfo hf
   exact ⟨Or.inl ⟨h0, this, rfl⟩, by have := this.2.1; omega, hn.use _⟩
 ·rw [if_neg h0] at h
  by_cases h1 : 0 < p ∧ p < 256
  ·rw [if_pos h1] at h
   simp only [Option.some.injEq, Prod.mk.injEq] at h
   obtain ⟨rfl, rfl⟩ := h
   exact ⟨Or.inr ⟨by omega, by omega, by omega, hn, rfl⟩, by omega, hn⟩
  ·rw [if_neg h1] at h; cases h
def blkB (D : List Int) (i : Nat) : List Int := over (List.replicate 64 0) 0 (((D.drop (64 * i))).take 64)
structure Fw where
 fo : Fo
 put : List (Int × List Int)
 P : List Int
def qhv (k : Nat) (D : List Int) (st : Fw) : Nat → Option Fw
 | 0 => some st
 | i + 1 => (qhv k D st i).bind fun y => (ownE y.fo k (y.P.getD i 0)).map fun q => ⟨q.2, putZ y.put (q.1 : Int) (blkB D i), y.P.set i (q.1 : Int)⟩
theorem qmw {k : Nat} {D : List Int} {st : Fw} : ∀ {i : Nat} {y : Fw}, qhv k D st i = some y → y.P.length = st.P.length ∧ y.put.length ≤ st.put.length + i
 | 0, y, h => by simp only [qhv, Option.some.injEq] at h; subst h; exact ⟨rfl, Nat.le_refl _⟩
 | i + 1, y, h => by
  unfold qhv at h
  cases h1 : qhv k D st i with
  | none => rw [h1] at h; cases h
  | some z =>
   rw [h1] at h
   simp only [Option.bind_some] at h
   cases h2 : ownE z.fo k (z.P.getD i 0) with
   | none => rw [h2] at h; cases h
   | some q =>
    rw [h2] at h
    simp only [Option.map_some, Option.some.injEq] at h
    subst h
    obtain ⟨a, b⟩ := qmw h1
    refine ⟨by simpa using a, ?_⟩
    have := qeq (q.1 : Int) (blkB D i) z.put
    show (putZ z.put (q.1 : Int) (blkB D i)).length ≤ _
    omega
theorem qur {k : Nat} {D : List Int} {st : Fw} (hs : qcj st.fo) : ∀ {i : Nat} {y : Fw}, qhv k D st i = some y → qcj y.fo
 | 0, y, h => by simp only [qhv, Option.some.injEq] at h; subst h; exact hs
 | i + 1, y, h => by
  unfold qhv at h
  cases h1 : qhv k D st i with
  | none => rw [h1] at h; cases h
  | some z =>
   rw [h1] at h
   simp only [Option.bind_some] at h
   cases h2 : ownE z.fo k (z.P.getD i 0) with
   | none => rw [h2] at h; cases h
   | some q =>
    rw [h2] at h
    simp only [Option.map_some, Option.some.injEq] at h
    subst h
    have hz := qur hs h1
    unfold ownE at h2
    split at h2
    ·cases hf : qtx z.fo k with
     | none => rw [hf] at h2; cases h2
     | some n => rw [hf] at h2; simp only [Option.map_some, Option.some.injEq] at h2; subst h2; exact hz.use n
    ·split at h2
     ·simp only [Option.some.injEq] at h2; subst h2; exact hz
     ·cases h2
theorem qzd {k : Nat} {D : List Int} {st : Fw} {n : Nat} {y : Fw} (h : qhv k D st n = some y) : ∀ i, i ≤ n → ∃ z, qhv k D st i = some z := by
 induction n generalizing y with
 | zero =>
  intro i hi
  obtain rfl : i = 0 := by omega
  exact ⟨_, h⟩
 | succ n ih =>
  intro i hi
  by_cases he : i = n + 1
  ·subst he; exact ⟨_, h⟩
  ·unfold qhv at h
   cases h1 : qhv k D st n with
   | none => rw [h1] at h; cases h
   | some z => exact ih h1 i (by omega)
theorem qxt {P : Program} (w : World) (dT sT ty elem : TypeId) (hu : P.underlying dT = some (.slice elem)) (hsz : (P.info? elem).map (·.size) = some 1) (g : Nat) (cur D : List Int) (t : TypeId) (hg : w.heap[g]? = some (.cells (u8s cur).toArray t (0, 0))) (hl : cur.length = 64)
  (g' o' m c : Nat) (hm : D.length = m) (hc : ∀ (j : Nat) (x : Value), (u8s D)[j]? = some x → w.cell? ⟨g', o' + j, none⟩ = some x) :
  (Builtin.copy_ #[dT, sT] ty #[.slice (some ⟨g, 0, none⟩) 64 64, .slice (some ⟨g', o', none⟩) m c]).run P w = .ok (goInt (u8s (D.take 64)).length) (w.setRow g (u8s (over cur 0 (D.take 64))).toArray) := by
 have hrun := run_copy_row (P := P) w dT sT ty elem g 0 64 64 ⟨g', o', none⟩ m c (u8s cur).toArray t (u8s (D.take 64)) hu hsz hg (by rw [qak, List.length_take, hm]; exact Nat.min_comm 64 m) (fun j v hv => by
  have hadd : (⟨g', o', none⟩ : Addr).add j = ⟨g', o' + j, none⟩ := by unfold Addr.add; split <;> simp_all
  rw [hadd]
  rw [qci, List.getElem?_take] at hv
  split at hv
  ·exact hc j v hv
  ·cases hv) (by rw [Nat.zero_add, qak, List.length_take, show (u8s cur).toArray.size = 64 by simp [qak, hl]]; exact Nat.min_le_left _ _) (qga _)
 have e : ((u8s cur).toArray.toList.take 0 ++ u8s (D.take 64) ++ (u8s cur).toArray.toList.drop (0 + (u8s (D.take 64)).length)).toArray = (u8s (over cur 0 (D.take 64))).toArray := by
  unfold over
  rw [qbf, qbf, List.toList_toArray, List.take_zero, List.take_zero, qea, qak]
  rfl
 rw [e] at hrun
 exact hrun
structure LF (w0 w : World) (F T : Nat → Prop) (gt gf gb : Nat) (x : Tx) (X : Pn) (nD : Nat) (K : Nat) (yj : Fw) (wq : World) : Prop where
 ex : ∃ T' q' c', TxAt wq w0.heap.size F gt (.pointer (some ⟨gf, 0, none⟩)) { x with fo := yj.fo, put := yj.put } T' ∧ (∀ i, T' i → T i ∨ w.heap.size ≤ i) ∧ (∀ i, T i → T' i) ∧ ¬ T' gb ∧
  wq.heap[gb]? = some (.cells #[.int .i64 X.k, .int .i64 X.m, .int .i64 X.u, .int .i64 X.g, .int .i64 (nD : Int), .int .i64 X.l, .int .i64 X.up, .slice q' K c'] 103 (0, 0)) ∧
  qan wq (.slice q' K c') yj.P ∧ ∀ b, (Value.slice q' K c').ownBlock = some b → w.heap.size ≤ b ∧ ¬ T' b
 keeps : qac T w wq
set_option maxRecDepth 100000 in
theorem ybpz {w w0 : World} {F F1 T : Nat → Prop} {gt gf : Nat} {x : Tx} {s : Fs} {a : Addr} {B0 : Nat} (hf : FsAt w0 gf s F1 B0 a) (hb : Below w0.heap.size w0 w) (h : TxAt w w0.heap.size F gt (.pointer (some ⟨gf, 0, none⟩)) x T) (hF : ∀ i, F i → i < w.heap.size)
  (i : Nat) (hi : i < 32) (X : Pn) (hX : x.nodes[i]? = some X) (v : Value) (D : List Int) (hv : qbp w v D) (hvT : ∀ b, v.ownBlock = some b → ¬ T b) (hD : D.length ≤ 512) (hg : X.P.length ≤ (D.length + 63) / 64)
  (hn : qcj x.fo) (y : Fw) (hy : qhv s.k D ⟨x.fo, x.put, X.P ++ List.replicate ((D.length + 63) / 64 - X.P.length) 0⟩ ((D.length + 63) / 64) = some y) (hpl : x.put.length < 800) (hdl : x.dirty.length < 900) :
  Calls Tryz.prog 91 #[.pointer (some ⟨gt, 0, none⟩), .int .i64 ((i : Int) + 1), v] w
   (fun e w' => e = .returned (.tuple #[]) ∧ qec w0.heap.size F gt (.pointer (some ⟨gf, 0, none⟩)) { x with fo := y.fo, put := y.put, nodes := x.nodes.set i { X with P := y.P, s := (D.length : Int) }, dirty := putZ x.dirty ((i : Int) + 1) (.bool true) } T w w') := by
 have H := Lib.hid h
 have HF := Lib.hid hf
 have HBB := Lib.hid hb
 have HV := Lib.hid hv
 have HVT := Lib.hid hvT
 have HFF := Lib.hid hF
 obtain ⟨K, HK⟩ : ∃ K, Hid ((D.length + 63) / 64 = K) := ⟨_, rfl⟩
 rw [HK.out] at hg hy
 have hK8 : K ≤ 8 := by rw [← HK.out]; omega
 have HND := Lib.hid (qtl h i hi X hX)
 have HBK : Hid (∀ W : World, Calls Tryz.prog 50 #[.int .i64 (D.length : Int)] W fun e w' => e = .returned (.int .i64 (K : Int)) ∧ W = w') := fun W => by
  have := qhr (D.length : Int) W (by omega) (by omega)
  have e : qbq (D.length : Int) = (K : Int) := by unfold qbq; rw [← HK.out]; split <;> omega
  rw [e] at this
  exact this
 obtain ⟨nD, HnD⟩ : ∃ n, Hid (D.length = n) := ⟨_, rfl⟩
 obtain ⟨vp, vc, hvs⟩ := qdm hv.1 nD HnD.out
 subst hvs
 rw [HnD.out] at HBK hD
 have HY := Lib.hid hy
 have HNS := Lib.hid hn
 clear h hf hb hv hvT hF hy hn hX
 go_enter Tryz.func91, Tryz.ntmps91
 go_wp2_with fail
 refine HND.out.mono ?_
 rintro e w1 ⟨q, n, c, rfl, hnv, hb1⟩
 have HB1 := Lib.hid hb1
 have HNV := Lib.hid hnv
 clear hb1 hnv HND
 go_wp2_with fail
 refine (HBK.out _).mono ?_
 rintro e w2 ⟨rfl, rfl⟩
 obtain ⟨gb, Hgb⟩ : ∃ x, Hid (w1.heap.size = x) := ⟨_, rfl⟩
 have HB2 : Hid (Below w.heap.size w (w1.alloc (.cells #[.int .i64 X.k, .int .i64 X.m, .int .i64 X.u, .int .i64 X.g, .int .i64 X.s, .int .i64 X.l, .int .i64 X.up, .slice q n c] 103))) := HB1.out.alloc HB1.out.size _
 have HR2 : Hid ((w1.alloc (.cells #[.int .i64 X.k, .int .i64 X.m, .int .i64 X.u, .int .i64 X.g, .int .i64 X.s, .int .i64 X.l, .int .i64 X.up, .slice q n c] 103)).heap[gb]? = some (.cells #[.int .i64 X.k, .int .i64 X.m, .int .i64 X.u, .int .i64 X.g, .int .i64 X.s, .int .i64 X.l, .int .i64 X.up, .slice q n c] 103 (0, 0))) := by rw [← Hgb.out]; exact heap_alloc_new _ _
 have HP2 : Hid (qan (w1.alloc (.cells #[.int .i64 X.k, .int .i64 X.m, .int .i64 X.u, .int .i64 X.g, .int .i64 X.s, .int .i64 X.l, .int .i64 X.up, .slice q n c] 103)) (.slice q n c) X.P) := qah.below HNV.out.now ((Below.refl _ _).alloc (Nat.le_refl _) _)
 have hgw : w.heap.size ≤ gb := by rw [← Hgb.out]; exact HB1.out.size
 rw [Hgb.out]
 generalize w1.alloc (.cells #[.int .i64 X.k, .int .i64 X.m, .int .i64 X.u, .int .i64 X.g, .int .i64 X.s, .int .i64 X.l, .int .i64 X.up, .slice q n c] 103) = w2 at *
 have HT2 : Hid (TxAt w2 w0.heap.size (fun i => F i ∨ i = gb) gt (.pointer (some ⟨gf, 0, none⟩)) x T) := H.out.grow HB2.out gb hgw
 have c7 := (qam HR2.out).2.2.2.2.2.2.2
 clear HNV HB1
 go_wp2_with fail
 refine (qgh (.slice q n c) X.P w2 HP2.out (by omega)).mono ?_
 rintro e w3 ⟨v3, rfl, hO3, hb3, _⟩
 have HO3 := Lib.hid hO3
 have HB3 := Lib.hid hb3
 have HR3 := Lib.hid (qaa hb3 HR2.out)
 obtain ⟨q3, c3, hv3, _⟩ := qar hO3
 subst hv3
 obtain ⟨m, Hm⟩ : ∃ m, Hid (X.P.length = m) := ⟨_, rfl⟩
 rw [Hm.out] at HO3 hg ⊢
 clear hO3 hb3 c7 HP2
 go_wp2
 go_loopw [8] (fun pv wr => pv = .slice q3 m c3 ∧ Hid (wr = w3)) (fun _ _ => 0)
 case atStart => exact ⟨rfl, rfl⟩
 case round =>
  obtain ⟨rfl, hwr⟩ := hrel
  have hwr2 := hwr.out
  subst hwr2
  have hg2 : ¬ ((K : Int) < (m : Int)) := by omega
  have hg3 : ¬ K < m := by omega
  obtain ⟨i0, hi0, hz0, hz1, hz2⟩ := info_parts qku
  have HI0 := Lib.hid hi0
  have HIZ := Lib.hid hz0
  have HI1 := Lib.hid hz1
  have HI2 := Lib.hid hz2
  clear hi0 hz0 hz1 hz2 hwr
  go_wp2
  go_loopw [8] (fun pv wq => ∃ j : Nat, m ≤ j ∧ j ≤ K ∧ Hid (wq.ownsRow w2.heap.size 3 1 pv j (ints (X.P ++ List.replicate (j - m) 0))) ∧ Hid (Below w2.heap.size w2 wq)) (fun pv _ => K - lenV pv)
  case atStart => exact ⟨m, Nat.le_refl _, hg, by rw [Nat.sub_self, List.replicate_zero, List.append_nil]; exact HO3, HB3⟩
  case round =>
   obtain ⟨j, hj1, hj2, HOj, HBj⟩ := hrel
   obtain ⟨qj, cj, hvj, _⟩ := qar HOj.out
   subst hvj
   by_cases hjK : j < K
   ·have hjK2 : (j : Int) < (K : Int) := by omega
    have hjm : (ints (X.P ++ List.replicate (j - m) 0)) ++ [Value.int .i64 0] = ints (X.P ++ List.replicate (j + 1 - m) 0) := by
     rw [show j + 1 - m = (j - m) + 1 by omega, List.replicate_succ', ← List.append_assoc]
     simp [ints]
    have HJM := Lib.hid hjm
    have HOA := Lib.hid (fun o => qap HOj.out ((Below.refl wr.heap.size wr).alloc (Nat.le_refl _) o))
    have HSX : Hid (w2.heap.size ≤ wr.heap.size) := HBj.out.size
    clear hjm
    go_wp2_with (at_builtin; refine wpList_append_own _ rfl _ _ 32 rfl w2.heap.size 3 i0 (.int .i64 0) 1 8 qpg HI0.out HIZ.out HI1.out HI2.out rfl (by decide) _ _ _ rfl (HOA.out _) ⟨wr.heap.size, 0, none⟩ 1 1 [.int .i64 0] rfl rfl (World.news_of_block (cs := #[.int .i64 0]) (t := 3) (fr := (0, 0)) (heap_alloc_new wr _)) (by simp [Value.oneCell']) (by unfold maxLen; omega) (by omega) (by have := HSX.out; simp; omega) ?_; intro v5 w5 hown hgrow _)
    have HO5 : Hid (w5.ownsRow w2.heap.size 3 1 v5 (j + 1) (ints (X.P ++ List.replicate (j + 1 - m) 0))) := by show _; rw [← HJM.out]; exact hown
    have HB5 : Hid (Below w2.heap.size w2 w5) := Below.grown (HBj.out.alloc HBj.out.size _) hgrow (by have := HSX.out; simp; omega) (fun r hr => (HOj.out.lt r hr).1)
    clear hown hgrow
    go_wp2
    go_roundw
    case rel => exact ⟨j + 1, by omega, by omega, HO5, HB5⟩
    case measure =>
     obtain ⟨q5, c5, h5, _⟩ := qar HO5.out
     rw [h5]
     simp [lenV]; omega
   ·obtain rfl : j = K := by omega
    have hjK2 : ¬ ((j : Int) < (j : Int)) := by omega
    have hRj := qaa HBj.out HR2.out
    have s4 : wr.cell? ⟨gb, 4, none⟩ = some (.int .i64 X.s) := (qam hRj).2.2.2.2.1
    have s7 : wr.cell? ⟨gb, 7, none⟩ = some (.slice q n c) := (qam hRj).2.2.2.2.2.2.2
    have z4 : wr.frozen? ⟨gb, 4, none⟩ = false := frozen_of_row _ _ _ _ _ hRj
    have z7 : wr.frozen? ⟨gb, 7, none⟩ = false := frozen_of_row _ _ _ _ _ hRj
    have HRj := Lib.hid hRj
    clear hRj
    go_wp2
    have hj8 : j ≤ 8 := hK8
    have hgwr : gb < wr.heap.size := qab HRj.out
    have hk6 : qac (fun i => i = gb) wr ((wr.setCell ⟨gb, 7, none⟩ (.slice qj j cj)).setCell ⟨gb, 4, none⟩ (.int .i64 (nD : Int))) := (qac.setCell (F := fun i => i = gb) (p := ⟨gb, 7, none⟩) rfl _).step (qac.setCell (F := fun i => i = gb) (p := ⟨gb, 4, none⟩) rfl _)
    have hr6 : ((wr.setCell ⟨gb, 7, none⟩ (.slice qj j cj)).setCell ⟨gb, 4, none⟩ (.int .i64 (nD : Int))).heap[gb]? = some (.cells #[.int .i64 X.k, .int .i64 X.m, .int .i64 X.u, .int .i64 X.g, .int .i64 (nD : Int), .int .i64 X.l, .int .i64 X.up, .slice qj j cj] 103 (0, 0)) :=
     heap_setCell_same _ _ 4 _ _ _ (heap_setCell_same _ _ 7 _ _ _ HRj.out)
    have hwb : Below w.heap.size w wr := HB2.out.trans (HBj.out.mono HB2.out.size)
    have hTj : TxAt wr w0.heap.size (fun i => F i ∨ i = gb) gt (.pointer (some ⟨gf, 0, none⟩)) x T := HT2.out.below HBj.out
    have hgT : ¬ T gb := fun hc => by have := H.out.fin gb hc; omega
    have HLF0 : Hid (LF w0 w (fun i => F i ∨ i = gb) T gt gf gb x X nD j ⟨x.fo, x.put, X.P ++ List.replicate (j - m) 0⟩ ((wr.setCell ⟨gb, 7, none⟩ (.slice qj j cj)).setCell ⟨gb, 4, none⟩ (.int .i64 (nD : Int)))) := by
     refine ⟨⟨T, qj, cj, hTj.local (Or.inr rfl) hgT HRj.out (by decide) hk6, fun _ hi => Or.inl hi, fun _ hi => hi, hgT, hr6, ?_, fun b hb => ?_⟩, (qac.of_below hwb).trans hk6 fun i hi => Or.inr (by rw [hi]; exact hgw)⟩
     ·have h1 : qan wr (.slice qj j cj) (X.P ++ List.replicate (j - m) 0) := by
       have := qah.of_owns HOj.out
       have hl : j = (X.P ++ List.replicate (j - m) 0).length := by rw [List.length_append, List.length_replicate, Hm.out]; omega
       unfold qan
       rw [← hl]
       exact this
      exact qle h1 fun b hb hl => hk6.block b hl (fun hc => by
       have h2 := (HOj.out.lt b hb).1
       rw [hc] at h2
       have := qab HR2.out
       omega)
     ·have h2 := (HOj.out.lt b hb)
      exact ⟨Nat.le_trans HB2.out.size h2.1, fun hc => by have := H.out.fin b hc; have := HB2.out.size; omega⟩
    generalize (wr.setCell ⟨gb, 7, none⟩ (.slice qj j cj)).setCell ⟨gb, 4, none⟩ (.int .i64 (nD : Int)) = w6 at *
    rw [Hm.out] at HY
    go_loopw [57] (fun iv wq => ∃ (k : Nat) (yk : Fw), k ≤ j ∧ iv = .int .i64 k ∧ Hid (qhv s.k D ⟨x.fo, x.put, X.P ++ List.replicate (j - m) 0⟩ k = some yk) ∧ Hid (LF w0 w (fun i => F i ∨ i = gb) T gt gf gb x X nD j yk wq)) (fun iv _ => j - (intOf iv).toNat)
    case atStart => exact ⟨0, _, Nat.zero_le _, rfl, rfl, HLF0⟩
    case round =>
     obtain ⟨k, yk, hkj, rfl, HYK, HLK⟩ := hrel
     by_cases hkl : k < j
     ·obtain ⟨⟨T', q', c', hT', t1, t2, t3, hR', hP', hbl'⟩, hkp⟩ := HLK.out
      obtain ⟨y1, hy1⟩ := qzd HY.out (k + 1) (by omega)
      have hst := hy1
      unfold qhv at hst
      rw [HYK.out, Option.bind_some] at hst
      obtain ⟨⟨p', fo'⟩, hown, hy1e⟩ := Option.map_eq_some_iff.1 hst
      have hPl : yk.P.length = j := by
       have := (qmw HYK.out).1
       rw [this, List.length_append, List.length_replicate, Hm.out]
       omega
      have hkP : k < yk.P.length := by omega
      have hgd : yk.P.getD k 0 = yk.P[k] := by rw [List.getD_eq_getElem?_getD, List.getElem?_eq_getElem hkP]; rfl
      rw [hgd] at hown
      have hsn : qcj yk.fo := qur HNS.out HYK.out
      obtain ⟨ho1, hp256, _⟩ := ybod (x := { x with fo := yk.fo, put := yk.put }) (s := s) hown hsn HF.out.k1
      have hkn : 64 * k < nD := by have := HK.out; rw [HnD.out] at this; omega
      have hcap : nD ≤ vc := HV.out.2 _ _ _ rfl
      obtain ⟨_, ⟨h0, _⟩ | ⟨gv, ov, cv, hvv, hcv⟩⟩ := id HV.out.1
      ·have := HnD.out; omega
      injection hvv with e1 e2 e3
      subst e1 e3
      clear e2
      have hvw : gv < w.heap.size := block_lt_of_cell (hcv 0 _ (qcl D 0 (by have := HnD.out; omega)))
      obtain ⟨Z, HZ⟩ : ∃ Z, Hid (Z = List.replicate 64 (0 : Int)) := ⟨_, rfl⟩
      have hmk : ∀ W : World, (Instr.makeSlice 38 (.int .i64 64) (.int .i64 64)).run Tryz.prog W = .ok (.slice (some ⟨W.heap.size, 0, none⟩) 64 64) (W.alloc (.cells (u8s Z).toArray 5)) := fun W => by
       rw [HZ.out]; exact qhl 64 64 rfl (by omega) W
      have hcr : ∀ (r : Nat) (u : Value), (u8s (D.drop (64 * k)))[r]? = some u → (wr.alloc (.cells (u8s Z).toArray 5)).cell? ⟨gv, ov + 64 * k + r, none⟩ = some u := fun r u hr => by
       rw [qea, List.getElem?_drop] at hr
       have h1 := hcv (64 * k + r) u hr
       rw [← Nat.add_assoc] at h1
       rw [World.cell?_alloc_lt _ _ _ (Nat.lt_of_lt_of_le hvw hkp.size), hkp.cell hvw (HVT.out gv rfl)]
       exact h1
      have hcp := qxt (P := Tryz.prog) (wr.alloc (.cells (u8s Z).toArray 5)) 38 38 3 5 u8sT qoe wr.heap.size Z (D.drop (64 * k)) 5 (heap_alloc_new wr _) (by rw [HZ.out]; simp) gv (ov + 64 * k) (nD - 64 * k) (vc - 64 * k) (by rw [List.length_drop, HnD.out]) hcr
      obtain ⟨W, HW⟩ : ∃ W, Hid ((wr.alloc (.cells (u8s Z).toArray 5)).setRow wr.heap.size (u8s (over Z 0 ((D.drop (64 * k)).take 64))).toArray = W) := ⟨_, rfl⟩
      rw [HW.out] at hcp
      obtain ⟨nc, Hnc⟩ : ∃ n, Hid (goInt (u8s ((D.drop (64 * k)).take 64)).length = n) := ⟨_, rfl⟩
      rw [Hnc.out] at hcp
      have hbW : Below wr.heap.size wr W := by
       rw [← HW.out]
       exact Below.setRow ((Below.refl _ _).alloc (Nat.le_refl _) _) (Nat.le_refl _) _
      have hsW : W.heap[wr.heap.size]? = some (.cells (u8s (blkB D k)).toArray 5 (0, 0)) := by
       rw [← HW.out, show blkB D k = over Z 0 ((D.drop (64 * k)).take 64) by rw [HZ.out]; rfl]
       exact setRow_heap _ _ _ _ _ _ (heap_alloc_new _ _)
      have hbl64 : (blkB D k).length = 64 := by unfold blkB over; simp; omega
      have hS64 : qen W w0.heap.size (.slice (some ⟨wr.heap.size, 0, none⟩) 64 64) (blkB D k) := ⟨_, 64, _, rfl, hbl64, Nat.le_refl _, Nat.le_trans HBB.out.size hkp.size, hsW, by rw [List.take_of_length_le (by rw [List.toList_toArray, qak, hbl64]; exact Nat.le_refl _)]⟩
      have hbW0 : Below w0.heap.size w0 W := (HBB.out.trans (hkp.to_below H.out.new HBB.out.size)).trans (hbW.mono (Nat.le_trans HBB.out.size hkp.size))
      have hXW : qan W (.slice q' j c') yk.P := qah.below hP' hbW
      have HWR := Lib.hid (qya HF.out hbW0 (hT'.below hbW) gb { X with P := yk.P, s := (nD : Int) } q' j c' (qaa hbW hR') hXW ⟨Or.inr rfl, t3, Nat.le_trans HBB.out.size hgw⟩ k hkP (by rw [hPl]; omega) p' hp256 fo' ho1 _ (blkB D k) hS64 (fun b hb hc => by
       injection hb with hb
       have hb' : wr.heap.size = b := hb
       have := hT'.fin b hc
       omega) (by have h1 : yk.put.length ≤ x.put.length + k := (qmw HYK.out).2; show yk.put.length < 900; omega))
      have HKP := Lib.hid hkp
      have HT1 := Lib.hid t1
      have HT2' := Lib.hid t2
      have HBW := Lib.hid hbW
      have HPL := Lib.hid hPl
      have HY1 : Hid (qhv s.k D ⟨x.fo, x.put, X.P ++ List.replicate (j - m) 0⟩ (k + 1) = some ⟨fo', putZ yk.put (p' : Int) (blkB D k), yk.P.set k (p' : Int)⟩) := by
       show _ = _
       rw [hy1, ← hy1e]
      have HFW : Hid (∀ i, T' i → i < wr.heap.size) := hT'.fin
      have HT3 : Hid (¬ T' gb ∧ gb < wr.heap.size) := ⟨t3, qab hR'⟩
      have i64 : IntKind.i64.wrap (64 * (k : Int)) = 64 * (k : Int) := IntWalk.i64_in _ (by omega)
      have hkn2 : (64 * (k : Int)) ≤ (nD : Int) := by omega
      have hkc : 64 * k ≤ vc := by omega
      have hkc2 : ¬ vc = 64 * k := by omega
      have hkl2 : (k : Int) < (j : Int) := by omega
      clear hT' t1 t2 t3 hR' hP' hbl' hkp hy1 hst hown hy1e hPl hkP hgd hsn ho1 hcv hcr hbW hsW hbl64 hS64 hbW0 hXW
      go_wp2_with fail
      refine HWR.out.mono ?_
      rintro e w7 ⟨rfl, T2, g2, c2, hT2, u1, u2, u3, u4, ⟨u5, u6, u7⟩, cu2, u8a, u9⟩
      have hpl2 : (yk.P.set k (p' : Int)).length = j := by rw [List.length_set, HPL.out]
      have HLN : Hid (LF w0 w (fun i => F i ∨ i = gb) T gt gf gb x X nD j ⟨fo', putZ yk.put (p' : Int) (blkB D k), yk.P.set k (p' : Int)⟩ w7) := by
       have hwW : w.heap.size ≤ W.heap.size := Nat.le_trans HKP.out.size HBW.out.size
       refine ⟨⟨T2, some ⟨g2, 0, none⟩, c2, hT2, fun r hr => ?_, fun r hr => u2 r (HT2'.out r hr), fun hc => ?_, ?_, ?_, fun b hb => ?_⟩, ?_⟩
       ·rcases u1 r hr with h1 | h1
        ·exact HT1.out r h1
        ·exact Or.inr (Nat.le_trans hwW h1)
       ·rcases u1 gb hc with h1 | h1
        ·exact HT3.out.1 h1
        ·have := HT3.out.2
         have := HBW.out.size
         omega
       ·have := u4
        rw [show yk.P.length = j from HPL.out] at this
        exact this
       ·refine ⟨by simp [ints, HPL.out], Or.inr ⟨g2, 0, c2, by rw [hpl2], fun r u hr => ?_⟩⟩
        rw [Nat.zero_add, cell_of_row _ _ _ _ _ _ u8a, ← Array.getElem?_toList]
        have hrl : r < yk.P.length := by
         have := (List.getElem?_eq_some_iff.1 hr).1
         simpa [ints] using this
        have h3 : (cu2.toList.take yk.P.length)[r]? = some u := by rw [u9]; exact hr
        rwa [List.getElem?_take, if_pos hrl] at h3
       ·injection hb with hb
        have hb' : g2 = b := hb
        subst hb'
        exact ⟨Nat.le_trans hwW u5, u6⟩
       ·refine (HKP.out.step (qac.of_below HBW.out)).trans u3 fun r hr => ?_
        rcases hr with hr | hr
        ·exact HT1.out r hr
        ·exact Or.inr (by rw [hr]; exact hgw)
      clear hT2 u1 u2 u3 u4 u5 u6 u7 u8a u9 HWR HW hcp hmk
      go_wp2
      go_roundw
      case rel => exact ⟨k + 1, _, by omega, by go_num, HY1, HLN⟩
      case measure => simp [intOf]; omega
     ·obtain rfl : k = j := by omega
      obtain ⟨⟨T', q', c', hT', t1, t2, t3, hR', hP', hbl'⟩, hkp⟩ := HLK.out
      have hyk : yk = y := by
       have h1 := HYK.out
       rw [HY.out] at h1
       injection h1 with h1
       exact h1.symm
      subst hyk
      have hyl : yk.P.length = k := by
       rw [(qmw HYK.out).1, List.length_append, List.length_replicate, Hm.out]
       omega
      have hnv : ybcf (fun r => F r ∨ T' r) { X with P := yk.P, s := (nD : Int) } wr q' k c' := qsk hP' fun b hb _ hG => by
       obtain ⟨b1, b2⟩ := hbl' b hb
       rcases hG with hG | hG
       ·have := HFF.out b hG; omega
       ·exact b2 hG
      have hTF : TxAt wr w0.heap.size F gt (.pointer (some ⟨gf, 0, none⟩)) { x with fo := yk.fo, put := yk.put } T' := hT'.outer fun r _ hr => Or.inl hr
      have HSE := Lib.hid (ybhc hTF i hi { X with P := yk.P, s := (nD : Int) } q' k c' hnv hdl)
      have HKP : Hid ((∀ r, T' r → T r ∨ w.heap.size ≤ r) ∧ qac T w wr ∧ ∀ r, T r → T' r) := ⟨t1, hkp, t2⟩
      obtain ⟨z0, z1, z2, z3, z4, z5, z6, z7⟩ := qam hR'
      clear hT' t1 t2 t3 hP' hbl' hkp hnv hTF
      go_wp2_with fail
      refine HSE.out.mono ?_
      rintro e w7 ⟨rfl, T2, s1, s2, s3, s4⟩
      go_wp2
      trace_state
      refine ⟨rfl, .tuple #[], (by simp [results, Tryz.results91, go_sem]), ?_⟩
      rw [HnD.out]
      refine ⟨rfl, T2, s1, fun r hr => ?_, HKP.out.2.1.trans s3 HKP.out.1, fun r hr => s4 r (HKP.out.2.2 r hr)⟩
      rcases s2 r hr with h1 | h1
      ·exact HKP.out.1 r h1
      ·exact Or.inr (Nat.le_trans HKP.out.2.1.size h1)
theorem qdv {w : World} {gf : Nat} {s : Fs} {F : Nat → Prop} {B : Nat} {a : Addr} (h : FsAt w gf s F B a) (i : Nat) (hi : i < 32) (X : Pn) (hX : s.nodes[i]? = some X) :
  ∃ gn on cn yq yn yc, w.cell? ⟨gf, 195, none⟩ = some (.slice (some ⟨gn, on, none⟩) 32 cn) ∧ gn < w.heap.size ∧
   w.cell? ⟨gn, on + i * 8, none⟩ = some (.int .i64 X.k) ∧ w.cell? ⟨gn, on + i * 8 + 1, none⟩ = some (.int .i64 X.m) ∧ w.cell? ⟨gn, on + i * 8 + 2, none⟩ = some (.int .i64 X.u) ∧ w.cell? ⟨gn, on + i * 8 + 3, none⟩ = some (.int .i64 X.g) ∧
   w.cell? ⟨gn, on + i * 8 + 4, none⟩ = some (.int .i64 X.s) ∧ w.cell? ⟨gn, on + i * 8 + 5, none⟩ = some (.int .i64 X.l) ∧ w.cell? ⟨gn, on + i * 8 + 6, none⟩ = some (.int .i64 X.up) ∧ w.cell? ⟨gn, on + i * 8 + 7, none⟩ = some (.slice yq yn yc) ∧
   Out F w (fun w' => qan w' (.slice yq yn yc) X.P) := by
 obtain ⟨⟨gl, rv, nv, bt, bh, E, tl, FD, h1, h2, h3, h4, h5, h6, h7, h8, h9, h10, h11, h12, h13, h14, h15, h16, h17⟩, a1, a2, a3, a4, a5, a6, a7⟩ := h
 obtain ⟨_, _, _, c195, _, _⟩ := qfl h1
 have hEL : E.length = 32 := by rw [h9.1]; exact a2
 obtain ⟨p2, cp2, hv2, HP⟩ := qeh h8.now
 rw [hEL] at hv2 HP
 subst hv2
 obtain ⟨g, o, rfl, hg, hc⟩ := HP.out (by omega)
 have hiE : i < E.length := by omega
 have hiX : i < s.nodes.length := by omega
 obtain ⟨e0, e1, e2, e3, e4, e5, e6, e7⟩ := qda hc i hiE
 have HND := h9.2 i hiE hiX
 have hXX : s.nodes[i] = X := by rw [List.getElem?_eq_getElem hiX] at hX; injection hX
 rw [hXX] at HND
 obtain ⟨f0, f1, f2, f3, f4, f5, f6, HIY⟩ := HND
 rw [f0] at e0; rw [f1] at e1; rw [f2] at e2; rw [f3] at e3; rw [f4] at e4; rw [f5] at e5; rw [f6] at e6
 exact ⟨g, o, cp2, _, _, _, c195, hg, e0, e1, e2, e3, e4, e5, e6, e7, HIY⟩
set_option maxRecDepth 100000 in
theorem qmz {w : World} {gf : Nat} {s : Fs} {F : Nat → Prop} {B : Nat} {a : Addr} (h : FsAt w gf s F B a) (i : Nat) (hi : i < 32) (X : Pn) (hX : s.nodes[i]? = some X) :
  Calls Tryz.prog 60 #[.pointer (some ⟨gf, 0, none⟩), .int .i64 ((i : Int) + 1)] w (fun e w' => e = .returned (.bool (decide (X.k ≠ 0))) ∧ w = w') := by
 obtain ⟨gn, on, cn, yq, yn, yc, c195, hgn, e0, _⟩ := qdv h i hi X hX
 have i1 : IntKind.i64.wrap ((i : Int) + 1 - 1) = (i : Int) := by rw [IntWalk.i64_in _ (by omega)]; omega
 have d1 : (1 : Int) ≤ (i : Int) + 1 := by omega
 have d2 : (i : Int) + 1 ≤ 32 := by omega
 have d3 : decide ((1 : Int) ≤ (i : Int) + 1) = true := decide_eq_true d1
 have d4 : decide ((i : Int) + 1 ≤ 32) = true := decide_eq_true d2
 obtain ⟨y, Hy⟩ : ∃ y, Hid (X.k = y) := ⟨_, rfl⟩
 rw [Hy.out] at e0 ⊢
 clear h hX
 by_cases hy : y = 0
 ·subst hy
  go_enter Tryz.func60, Tryz.ntmps60
  go_wp2
  go_ret
  simp
 ·have b0 : (y == 0) = false := by simpa using hy
  have b1 : (y != 0) = true := by simpa using hy
  have hd : decide (y ≠ 0) = true := decide_eq_true hy
  rw [hd]
  go_enter Tryz.func60, Tryz.ntmps60
  go_wp2
  go_ret
  simp
set_option maxRecDepth 100000 in
theorem qjt {w : World} {gf : Nat} {s : Fs} {F : Nat → Prop} {B : Nat} {a : Addr} (h : FsAt w gf s F B a) (i : Nat) (hi : i < 32) (X : Pn) (hX : s.nodes[i]? = some X) :
  Calls Tryz.prog 30 #[.pointer (some ⟨gf, 0, none⟩), .int .i64 ((i : Int) + 1)] w (fun e w' => e = .returned (.int .i64 (if X.k = 0 then 4 else if X.k = 2 then 0 else 12)) ∧ w = w') := by
 have HTH := Lib.hid (qmz h i hi X hX)
 obtain ⟨gn, on, cn, yq, yn, yc, c195, hgn, e0, _⟩ := qdv h i hi X hX
 have i1 : IntKind.i64.wrap ((i : Int) + 1 - 1) = (i : Int) := by rw [IntWalk.i64_in _ (by omega)]; omega
 obtain ⟨y, Hy⟩ : ∃ y, Hid (X.k = y) := ⟨_, rfl⟩
 rw [Hy.out] at e0 HTH ⊢
 clear h hX
 by_cases hy : y = 0
 ·subst hy
  go_enter Tryz.func30, Tryz.ntmps30
  go_wp2_with fail
  refine HTH.out.mono ?_
  rintro e w1 ⟨rfl, rfl⟩
  go_wp2
  go_ret
  simp
 ·rw [show decide (y ≠ 0) = true from decide_eq_true hy] at HTH
  rw [if_neg hy]
  by_cases hy2 : y = 2
  ·subst hy2
   go_enter Tryz.func30, Tryz.ntmps30
   go_wp2_with fail
   refine HTH.out.mono ?_
   rintro e w1 ⟨rfl, rfl⟩
   go_wp2
   go_ret
   simp
  ·have b0 : (y == 2) = false := by simpa using hy2
   have b1 : (y != 2) = true := by simpa using hy2
   rw [if_neg hy2]
   go_enter Tryz.func30, Tryz.ntmps30
   go_wp2_with fail
   refine HTH.out.mono ?_
   rintro e w1 ⟨rfl, rfl⟩
   go_wp2
   go_ret
   simp
set_option maxRecDepth 100000 in
theorem qoo {w : World} {gf : Nat} {s : Fs} {F : Nat → Prop} {B : Nat} {a : Addr} (h : FsAt w gf s F B a) (i : Nat) (hi : i < 32) (X : Pn) (hX : s.nodes[i]? = some X) :
  Calls Tryz.prog 47 #[.pointer (some ⟨gf, 0, none⟩), .int .i64 ((i : Int) + 1)] w (fun e w' => e = .returned (.int .i64 (if X.k = 0 then 4 else if X.k = 1 then 0 else 12)) ∧ w = w') := by
 have HTH := Lib.hid (qmz h i hi X hX)
 obtain ⟨gn, on, cn, yq, yn, yc, c195, hgn, e0, _⟩ := qdv h i hi X hX
 have i1 : IntKind.i64.wrap ((i : Int) + 1 - 1) = (i : Int) := by rw [IntWalk.i64_in _ (by omega)]; omega
 obtain ⟨y, Hy⟩ : ∃ y, Hid (X.k = y) := ⟨_, rfl⟩
 rw [Hy.out] at e0 HTH ⊢
 clear h hX
 by_cases hy : y = 0
 ·subst hy
  go_enter Tryz.func47, Tryz.ntmps47
  go_wp2_with fail
  refine HTH.out.mono ?_
  rintro e w1 ⟨rfl, rfl⟩
  go_wp2
  go_ret
  simp
 ·rw [show decide (y ≠ 0) = true from decide_eq_true hy] at HTH
  rw [if_neg hy]
  by_cases hy2 : y = 1
  ·subst hy2
   go_enter Tryz.func47, Tryz.ntmps47
   go_wp2_with fail
   refine HTH.out.mono ?_
   rintro e w1 ⟨rfl, rfl⟩
   go_wp2
   go_ret
   simp
  ·have b0 : (y == 1) = false := by simpa using hy2
   have b1 : (y != 1) = true := by simpa using hy2
   rw [if_neg hy2]
   go_enter Tryz.func47, Tryz.ntmps47
   go_wp2_with fail
   refine HTH.out.mono ?_
   rintro e w1 ⟨rfl, rfl⟩
   go_wp2
   go_ret
   simp
set_option maxRecDepth 100000 in
theorem fs_who (u g : Int) (hu : 0 ≤ u ∧ u ≤ 255) (hg : 0 ≤ g ∧ g ≤ 255) (w : World) :
  Calls Tryz.prog 45 #[.int .i64 u, .int .i64 g] w (fun e w' => e = .returned (.bool true) ∧ w = w') := by
 obtain ⟨u1, u2⟩ := hu
 obtain ⟨g1, g2⟩ := hg
 have d1 : decide (0 ≤ u) = true := decide_eq_true u1
 have d2 : decide (u ≤ 255) = true := decide_eq_true u2
 have d3 : decide (0 ≤ g) = true := decide_eq_true g1
 have d4 : decide (g ≤ 255) = true := decide_eq_true g2
 go_enter Tryz.func45, Tryz.ntmps45
 go_wp2
 go_ret
 simp
theorem qvh : Tryz.prog.underlying 92 = some (.slice 103) := by kernel_rfl
theorem ybdu (l : List Nd) : ∀ u ∈ qaz l, u.oneCell' = true := by
 intro u hu
 unfold qaz at hu
 obtain ⟨x, _, hu⟩ := List.mem_flatMap.1 hu
 simp [nd8] at hu
 rcases hu with rfl | rfl | rfl | rfl | rfl | rfl | rfl | rfl <;> rfl
theorem ybdt (l : List Nd) : (qaz l).length = l.length * 8 := by
 induction l with
 | nil => rfl
 | cons x l ih => simp only [qaz, List.flatMap_cons, List.length_append, List.length_cons, nd8, List.length_nil] at *; omega
def ybvo (B : Nat) (l : List Nd) (w : World) (e : Ending) (w' : World) : Prop := ∃ v, e = .returned v ∧ w'.ownsRow B 103 8 v l.length (qaz l) ∧ Below B w w' ∧ w.heap.size ≤ w'.heap.size
set_option maxRecDepth 100000 in
theorem ybah (v : Value) (l : List Nd) (w : World) (h : qah w v 8 l.length (qaz l)) (h1 : l.length ≤ 1000000) :
  Calls Tryz.prog 82 #[v] w (ybvo w.heap.size l w) := by
 obtain ⟨i0, hi, hz0, hz1, hz2⟩ := info_parts ybwa
 have HI := Lib.hid hi
 have HZ0 := Lib.hid hz0
 have HZ1 := Lib.hid hz1
 have HZ2 := Lib.hid hz2
 clear hi hz0 hz1 hz2
 obtain ⟨n, HN⟩ : ∃ n, Hid (n = l.length) := ⟨_, rfl⟩
 obtain ⟨a, c, hv, HC⟩ : ∃ a c, v = .slice a n c ∧ Hid (∀ ad, a = some ad → ∀ j u, (qaz l)[j]? = some u → w.cell? (ad.add j) = some u) ∧ (a = none → n = 0) := by
  obtain ⟨hl, ⟨hn, a, c, rfl⟩ | ⟨g, o, c, rfl, hc⟩⟩ := h
  ·refine ⟨a, c, by rw [HN.out, hn], fun ad _ j u hj => ?_, fun _ => by rw [HN.out]; exact hn⟩
   have := (List.getElem?_eq_some_iff.1 hj).1
   omega
  ·refine ⟨_, c, by rw [HN.out], fun ad hd j u hj => ?_, fun h => by cases h⟩
   cases hd
   have hadd : (⟨g, o, none⟩ : Addr).add j = ⟨g, o + j, none⟩ := by unfold Addr.add; split <;> simp_all
   rw [hadd]; exact hc j u hj
 obtain ⟨HC, HE⟩ := HC
 subst hv
 have hpl : (qaz l).length = n * 8 := by rw [ybdt, ← HN.out]
 have HPL := Lib.hid hpl
 rw [← HN.out] at h1
 clear hpl h
 unfold ybvo
 rw [← HN.out]
 have q22 : ∀ (w : World) (a : Option Addr) (n c n' c' : Nat), (binOp .eql 92 (.slice a n c) (.slice none n' c')).run Tryz.prog w = .ok (.bool a.isNone) w := fun w a n c n' c' => Lib.run_eql_slice_nil w _ _ a n c n' c' qvh
 cases a with
 | none =>
  have HE0 := Lib.hid (HE rfl)
  clear HE
  go_enter Tryz.func82, Tryz.ntmps82
  go_wp2
  go_ret
  exact ⟨_, rfl, ⟨HPL.out, Or.inl ⟨rfl, HE0.out⟩⟩, Below.refl _ _, Nat.le_refl _⟩
 | some ad =>
  clear HE
  go_enter Tryz.func82, Tryz.ntmps82
  go_wp2_with (at_builtin; refine wpList_append_own _ rfl _ _ 92 rfl w.heap.size 103 i0 _ 8 80 qvh HI.out HZ0.out HZ1.out HZ2.out rfl (by decide) _ _ _ rfl (World.ownsRow_made w #[] 0 (Nat.le_refl _) (Nat.zero_le _) rfl) ad n c (qaz l) rfl ?qc1 ?qc2 ?qc3 ?qc4 ?qc5 ?qc6 ?_)
  case qc1 => exact HPL.out
  case qc2 =>
   intro j u hj
   have := HC.out ad rfl j u hj
   rw [World.cell?_alloc_lt _ _ _ (block_lt_of_cell this)]
   exact this
  case qc3 => exact ybdu l
  case qc4 => unfold maxLen; omega
  case qc5 => omega
  case qc6 => simp
  intro v' w1 hown hgrow hnil
  have hb : Below w.heap.size w w1 := ((Below.refl _ w).alloc (Nat.le_refl _) _).grown hgrow (by simp) (by intro k hk; simp [Value.ownBlock] at hk; omega)
  clear hgrow hnil
  go_wp2
  go_ret
  exact ⟨v', rfl, hown, hb, hb.size⟩
set_option maxRecDepth 100000 in
theorem ybhh : ∃ Z PL : Array _, Z.size = 200 ∧ PL[0]? = some (0, 1) ∧ PL[1]? = some (1, 192) ∧ PL[2]? = some (193, 1) ∧ PL[3]? = some (194, 1) ∧ PL[4]? = some (195, 1) ∧ PL[5]? = some (196, 1) ∧ PL[8]? = some (199, 1) ∧ Z[197]? = some (.slice none 0 0) ∧ Z[198]? = some (.bool false) ∧
  ∀ parts, Tryz.prog.built 114 parts = Instr.fill (PL[·]?) Z parts :=
 ⟨((Tryz.prog.info? 114).bind (·.zero)).get!.cells, #[(0, 1), (1, 192), (193, 1), (194, 1), (195, 1), (196, 1), (197, 1), (198, 1), (199, 1)], by kernel_rfl, rfl, rfl, rfl, rfl, rfl, rfl, rfl, by kernel_rfl, by kernel_rfl, fun _ => by kernel_rfl⟩
theorem qcn {n : Nat} {place : Nat → Option (Nat × Nat)} {cells : Array Value} {k : Nat} (v : Value) {rest : List (Nat × Value)} (off : Nat) (A : Array Value) (hv : v.cells = A) (hp : place k = some (off, A.size)) (hs : cells.size = n) (hl : off + A.size ≤ n) :
  ∃ cs : Array Value, cs.size = n ∧ (∀ i, cs[i]? = if off ≤ i ∧ i < off + A.size then A[i - off]? else cells[i]?) ∧ Instr.fill place cells ((k, v) :: rest) = Instr.fill place cs rest := by
 subst hv hs
 exact ⟨ybjj cells off v.cells, ybjk _ _ _, ybor _ _ _ hl, ybry off _ hp rfl hl⟩
theorem ybla (p : Addr) (fo : Fo) (q2 q3 : Option Addr) (n2 n3 c2 c3 gd gp : Nat) : Tryz.prog.built 114 [(0, .pointer (some p)), (1, .agg (encF fo)), (2, .slice q2 n2 c2), (3, .slice q3 n3 c3), (4, .map (some gd)), (5, .map (some gp)), (8, .int .i64 256)] =
  some (txR (.pointer (some p)) fo (.slice q2 n2 c2) (.slice q3 n3 c3) (.map (some gd)) (.map (some gp)) (.slice none 0 0) false 256) := by
 obtain ⟨Z, PL, hZ, p0, p1, p2, p3, p4, p5, p8, z7, z8, hb⟩ := ybhh
 have hA : (encF fo).size = 192 := qaj fo
 have hg : ∀ i, 1 ≤ i → i < 193 → (encF fo)[i - 1]? = some (qdd fo ((i - 1) / 48) ((i - 1) % 48)) := fun i h1 h2 => by
  have := qcb fo ((i - 1) / 48) ((i - 1) % 48) (by omega) (by omega)
  rwa [show (i - 1) / 48 * 48 + (i - 1) % 48 = i - 1 by omega] at this
 generalize encF fo = A at hA hg ⊢
 obtain ⟨c1, s1, g1, e1⟩ := qcn (n := 200) (place := (PL[·]?)) (k := 0) (cells := Z) (rest := [(1, .agg A), (2, .slice q2 n2 c2), (3, .slice q3 n3 c3), (4, .map (some gd)), (5, .map (some gp)), (8, .int .i64 256)]) (.pointer (some p)) 0 #[.pointer (some p)] rfl p0 hZ (by simp)
 obtain ⟨c2', s2, g2, e2⟩ := qcn (n := 200) (place := (PL[·]?)) (k := 1) (cells := c1) (rest := [(2, .slice q2 n2 c2), (3, .slice q3 n3 c3), (4, .map (some gd)), (5, .map (some gp)), (8, .int .i64 256)]) (.agg A) 1 A rfl (by rw [hA]; exact p1) s1 (by rw [hA]; omega)
 obtain ⟨c3', s3, g3, e3⟩ := qcn (n := 200) (place := (PL[·]?)) (k := 2) (cells := c2') (rest := [(3, .slice q3 n3 c3), (4, .map (some gd)), (5, .map (some gp)), (8, .int .i64 256)]) (.slice q2 n2 c2) 193 #[.slice q2 n2 c2] rfl p2 s2 (by simp)
 obtain ⟨c4, s4, g4, e4⟩ := qcn (n := 200) (place := (PL[·]?)) (k := 3) (cells := c3') (rest := [(4, .map (some gd)), (5, .map (some gp)), (8, .int .i64 256)]) (.slice q3 n3 c3) 194 #[.slice q3 n3 c3] rfl p3 s3 (by simp)
 obtain ⟨c5, s5, g5, e5⟩ := qcn (n := 200) (place := (PL[·]?)) (k := 4) (cells := c4) (rest := [(5, .map (some gp)), (8, .int .i64 256)]) (.map (some gd)) 195 #[.map (some gd)] rfl p4 s4 (by simp)
 obtain ⟨c6, s6, g6, e6⟩ := qcn (n := 200) (place := (PL[·]?)) (k := 5) (cells := c5) (rest := [(8, .int .i64 256)]) (.map (some gp)) 196 #[.map (some gp)] rfl p5 s5 (by simp)
 obtain ⟨c7, s7, g7, e7⟩ := qcn (n := 200) (place := (PL[·]?)) (k := 8) (cells := c6) (rest := []) (.int .i64 256) 199 #[.int .i64 256] rfl p8 s6 (by simp)
 rw [hb]
 rw [e1]
 rw [e2]
 rw [e3]
 rw [e4]
 rw [e5]
 rw [e6]
 rw [e7]
 rw [Instr.fill]
 refine congrArg some ?_
 clear e1 e2 e3 e4 e5 e6 e7 hb p0 p1 p2 p3 p4 p5 p8
 apply Array.ext_getElem?
 intro i
 by_cases hi : i < 200
 ·rw [qha _ _ _ _ _ _ _ _ _ _ hi]
  simp only [List.size_toArray, List.length_cons, List.length_nil, hA] at g1 g2 g3 g4 g5 g6 g7
  rw [g7, g6, g5, g4, g3, g2, g1]
  unfold qod
  by_cases h1 : 193 ≤ i
  ·have : i = 193 ∨ i = 194 ∨ i = 195 ∨ i = 196 ∨ i = 197 ∨ i = 198 ∨ i = 199 := by omega
   rcases this with rfl | rfl | rfl | rfl | rfl | rfl | rfl <;> simp [z7, z8]
  ·rw [if_neg (by omega), if_neg (by omega), if_neg (by omega), if_neg (by omega), if_neg (by omega)]
   by_cases h0 : i = 0
   ·subst h0; simp
   ·rw [if_pos (by omega), if_neg h0, if_pos (by omega)]
    exact hg i (by omega) (by omega)
 ·rw [Array.getElem?_eq_none (by omega), Array.getElem?_eq_none (by rw [qgl]; omega)]
def bgF (w : World) (gf : Nat) (A : Array Value) (rv nv : Value) (E : List Nd) (fo : Fo) (i : Nat) (v : Value) (u : World) : Prop :=
 if i = 3 then v = .pointer (some ⟨gf, 2, none⟩) else if i = 4 then v = .agg A else if i = 7 then v = .pointer (some ⟨gf, 194, none⟩) else if i = 8 then v = rv else if i = 11 then v = .pointer (some ⟨gf, 195, none⟩) else if i = 12 then v = nv
 else if i = 13 then u.ownsRow w.heap.size 103 8 v E.length (qaz E)
 else if i = 14 ∨ i = 15 then ∃ g, v = .map (some g) ∧ w.heap.size ≤ g ∧ MapL Tryz.prog 3 u g []
 else if i = 16 then ∃ n c gd gp, v = .agg (txR (.pointer (some ⟨gf, 0, none⟩)) fo rv (.slice (some ⟨n, 0, none⟩) 32 c) (.map (some gd)) (.map (some gp)) (.slice none 0 0) false 256) ∧ u.ownsRow w.heap.size 103 8 (.slice (some ⟨n, 0, none⟩) 32 c) 32 (qaz E) ∧
  w.heap.size ≤ gd ∧ w.heap.size ≤ gp ∧ gd ≠ gp ∧ MapL Tryz.prog 3 u gd [] ∧ MapL Tryz.prog 3 u gp []
 else if i = 17 ∨ i = 18 then ∃ gt n c gd gp, v = .pointer (some ⟨gt, 0, none⟩) ∧ w.heap.size ≤ gt ∧ u.heap[gt]? = some (.cells (txR (.pointer (some ⟨gf, 0, none⟩)) fo rv (.slice (some ⟨n, 0, none⟩) 32 c) (.map (some gd)) (.map (some gp)) (.slice none 0 0) false 256) 114 (0, 0)) ∧ u.ownsRow w.heap.size 103 8 (.slice (some ⟨n, 0, none⟩) 32 c) 32 (qaz E) ∧
  w.heap.size ≤ gd ∧ w.heap.size ≤ gp ∧ gd ≠ gp ∧ MapL Tryz.prog 3 u gd [] ∧ MapL Tryz.prog 3 u gp []
 else v = .pointer (some ⟨gf, 0, none⟩)
theorem ybra {w : World} {gf : Nat} {A : Array Value} {rv nv : Value} {E : List Nd} {fo : Fo} (j : Nat) (v : Value) (u u' : World) (hb : Below u.heap.size u u') (h : bgF w gf A rv nv E fo j v u) : bgF w gf A rv nv E fo j v u' := by
 unfold bgF at h ⊢
 by_cases c : j = 3
 ·rw [if_pos c] at h ⊢; exact h
 rw [if_neg c] at h ⊢; clear c
 by_cases c : j = 4
 ·rw [if_pos c] at h ⊢; exact h
 rw [if_neg c] at h ⊢; clear c
 by_cases c : j = 7
 ·rw [if_pos c] at h ⊢; exact h
 rw [if_neg c] at h ⊢; clear c
 by_cases c : j = 8
 ·rw [if_pos c] at h ⊢; exact h
 rw [if_neg c] at h ⊢; clear c
 by_cases c : j = 11
 ·rw [if_pos c] at h ⊢; exact h
 rw [if_neg c] at h ⊢; clear c
 by_cases c : j = 12
 ·rw [if_pos c] at h ⊢; exact h
 rw [if_neg c] at h ⊢; clear c
 by_cases c : j = 13
 ·rw [if_pos c] at h ⊢; exact qap h hb
 rw [if_neg c] at h ⊢; clear c
 by_cases c : j = 14 ∨ j = 15
 ·rw [if_pos c] at h ⊢; obtain ⟨g, e, h1, h2⟩ := h; exact ⟨g, e, h1, h2.of_block (hb.block _ h2.lt)⟩
 rw [if_neg c] at h ⊢; clear c
 by_cases c : j = 16
 ·rw [if_pos c] at h ⊢; obtain ⟨n, c, gd, gp, e, h1, h2, h3, h4, h5, h6⟩ := h; exact ⟨n, c, gd, gp, e, qap h1 hb, h2, h3, h4, h5.of_block (hb.block _ h5.lt), h6.of_block (hb.block _ h6.lt)⟩
 rw [if_neg c] at h ⊢; clear c
 by_cases c : j = 17 ∨ j = 18
 ·rw [if_pos c] at h ⊢; obtain ⟨gt, n, c, gd, gp, e, h0, hr, h1, h2, h3, h4, h5, h6⟩ := h; exact ⟨gt, n, c, gd, gp, e, h0, qaa hb hr, qap h1 hb, h2, h3, h4, h5.of_block (hb.block _ h5.lt), h6.of_block (hb.block _ h6.lt)⟩
 rw [if_neg c] at h ⊢; clear c
 exact h
set_option maxRecDepth 100000 in
theorem qkq {w : World} {gf : Nat} {s : Fs} {F : Nat → Prop} {B : Nat} {a : Addr} (h : FsAt w gf s F B a) :
  Calls Tryz.prog 32 #[.pointer (some ⟨gf, 0, none⟩)] w (fun e w' => ∃ gt T, e = .returned (.pointer (some ⟨gt, 0, none⟩)) ∧ Below w.heap.size w w' ∧ TxAt w' w.heap.size F gt (.pointer (some ⟨gf, 0, none⟩)) ⟨s.fo, s.rows, s.nodes, [], [], [], false, 256⟩ T) := by
 have H := Lib.hid h
 obtain ⟨⟨gl, rv, nv, bt, bh, E, tl, FD, h1, h2, h3, h4, h5, h6, h7, h8, h9, h10, h11, h12, h13, h14, h15, h16, h17⟩, a1, a2, a3, a4, a5, a6, a7⟩ := h
 obtain ⟨k0, k1, c194, c195, k196, k197⟩ := qfl h1
 have hE : E.length = 32 := by rw [h9.1]; exact a2
 obtain ⟨qr, cr, hrv⟩ : ∃ qr cr, rv = .slice qr s.rows.length cr := by
  obtain ⟨_, ⟨hv, a0, c0, rfl⟩ | ⟨g, o, c, rfl, _⟩⟩ := h7.now
  ·exact ⟨a0, c0, by rw [hv]⟩
  ·exact ⟨_, _, rfl⟩
 obtain ⟨A, HA⟩ : ∃ A, Hid (A = encF s.fo) := ⟨_, rfl⟩
 have HAS : Hid (A.size = 192) := by rw [HA.out]; exact qaj _
 obtain ⟨R, HR⟩ : ∃ R, Hid (fsR (.pointer (some a)) (.pointer (some ⟨gl, 0, none⟩)) s.fo rv nv (.map (some bt)) (.map (some bh)) = R) := ⟨_, rfl⟩
 have HRP : Hid (∀ j, j < A.size → R[2 + j]? = A[j]?) := by rw [← HR.out, HA.out]; exact ybmf _ _ _ _ _ _ _
 rw [HR.out] at h1
 have HROW := Lib.hid h1
 have H8 := Lib.hid h8
 have H7 := Lib.hid h7
 have H9 := Lib.hid h9
 clear h2 h3 h4 h5 h6 h10 h11 h12 h13 h14 h15 h16 h17 a1 a2 a3 a4 a5 a6 h1 h7 h8 h9
 go_enter Tryz.func32, Tryz.ntmps32
 go_upto_region 1 with fail
 refine qts (by kernel_rfl) (by kernel_rfl) (fun u u' => Below u.heap.size u u') ((Below.refl _ _).drew) (fun u u' h1 h2 => Below.step h1 h2) 21 (fun i => if i = 18 then 2 else i + 3) (bgF w gf A rv nv E s.fo) (fun i j => (i = 14 ∧ j = 15) ∨ (i = 15 ∧ j = 14)) (fun k v => k = 0 ∧ v = .pointer (some ⟨gf, 0, none⟩)) ybra (by omega) (fun i j hij => ?_) (fun i k v hk => ?_) (by kernel_rfl) ⟨rfl, rfl, fun k v hk => ?_⟩ ?_ ?_
 ·split <;> split <;> omega
 ·split <;> omega
 ·obtain ⟨rfl, rfl⟩ := hk; rfl
 ·intro D b u hI i o ho hD ha
  have hpf := hI.old 0 _ ⟨rfl, rfl⟩
  match i, ho, hD, ha with
  | 0, ho, hD, ha =>
   simp only [List.getElem?_cons_zero, Option.some.injEq] at ho
   subst ho
   exact qas (.tmp 0) rfl ⟨_, rfl, Below.refl _ _, hpf, by omega⟩
  | 1, ho, hD, ha =>
   simp only [List.getElem?_cons_zero, List.getElem?_cons_succ, Option.some.injEq] at ho
   subst ho
   exact qas (.tmp 0) rfl ⟨_, rfl, Below.refl _ _, hpf, by omega⟩
  | 2, ho, hD, ha =>
   simp only [List.getElem?_cons_zero, List.getElem?_cons_succ, Option.some.injEq] at ho
   subst ho
   have e1 := hI.fact 1 (ha ⟨1, .data⟩ (by simp) rfl)
   exact qca (.tmp 4) rfl ⟨gf, 0, none⟩ e1 ⟨_, rfl, Below.refl _ _, rfl, by omega⟩
  | 3, ho, hD, ha =>
   simp only [List.getElem?_cons_zero, List.getElem?_cons_succ, Option.some.injEq] at ho
   subst ho
   have e2 := hI.fact 2 (ha ⟨2, .data⟩ (by simp) rfl)
   exact qaf (v := .pointer (some ⟨gf, 2, none⟩)) (w' := u) (by unfold execOp; simp only [Act.eval]; rw [show b.tmps.getD 5 undef = _ from e2]; simp [go_sem]) ⟨_, rfl, Below.refl _ _, rfl, by omega⟩
  | 4, ho, hD, ha =>
   simp only [List.getElem?_cons_zero, List.getElem?_cons_succ, Option.some.injEq] at ho
   subst ho
   have e3 := hI.fact 3 (ha ⟨3, .data⟩ (by simp) rfl)
   refine wp_load_mid 80 (.tmp 6) rfl gf 2 e3 A.toList _ (fun j v hv => ?_) forT rfl (by rw [Array.length_toList, HAS.out]; exact forI) ?_
   ·have hjA : j < A.size := by
     have := (List.getElem?_eq_some_iff.1 hv).1
     simpa using this
    rw [cell_of_row _ _ _ _ _ _ (qaa hI.b HROW.out), HRP.out j hjA, ← hv, Array.getElem?_toList]
   ·exact ⟨_, rfl, Below.refl _ _, rfl, by omega⟩
  | 5, ho, hD, ha =>
   simp only [List.getElem?_cons_zero, List.getElem?_cons_succ, Option.some.injEq] at ho
   subst ho
   exact qas (.tmp 0) rfl ⟨_, rfl, Below.refl _ _, hpf, by omega⟩
  | 6, ho, hD, ha =>
   simp only [List.getElem?_cons_zero, List.getElem?_cons_succ, Option.some.injEq] at ho
   subst ho
   have e5 := hI.fact 5 (ha ⟨5, .data⟩ (by simp) rfl)
   exact qca (.tmp 8) rfl ⟨gf, 0, none⟩ e5 ⟨_, rfl, Below.refl _ _, rfl, by omega⟩
  | 7, ho, hD, ha =>
   simp only [List.getElem?_cons_zero, List.getElem?_cons_succ, Option.some.injEq] at ho
   subst ho
   have e6 := hI.fact 6 (ha ⟨6, .data⟩ (by simp) rfl)
   exact qaf (v := .pointer (some ⟨gf, 194, none⟩)) (w' := u) (by unfold execOp; simp only [Act.eval]; rw [show b.tmps.getD 9 undef = _ from e6]; simp [go_sem]) ⟨_, rfl, Below.refl _ _, rfl, by omega⟩
  | 8, ho, hD, ha =>
   simp only [List.getElem?_cons_zero, List.getElem?_cons_succ, Option.some.injEq] at ho
   subst ho
   have e7 := hI.fact 7 (ha ⟨7, .data⟩ (by simp) rfl)
   have hc : u.cell? ⟨gf, 194, none⟩ = some rv := (hI.b.cell (p := ⟨gf, 194, none⟩) (qab HROW.out)).trans c194
   exact qaf (v := rv) (w' := u) (by unfold execOp; simp only [Act.eval]; rw [show b.tmps.getD 10 undef = _ from e7]; simp [go_sem, hc]) ⟨_, rfl, Below.refl _ _, rfl, by omega⟩
  | 9, ho, hD, ha =>
   simp only [List.getElem?_cons_zero, List.getElem?_cons_succ, Option.some.injEq] at ho
   subst ho
   exact qas (.tmp 0) rfl ⟨_, rfl, Below.refl _ _, hpf, by omega⟩
  | 10, ho, hD, ha =>
   simp only [List.getElem?_cons_zero, List.getElem?_cons_succ, Option.some.injEq] at ho
   subst ho
   have e9 := hI.fact 9 (ha ⟨9, .data⟩ (by simp) rfl)
   exact qca (.tmp 12) rfl ⟨gf, 0, none⟩ e9 ⟨_, rfl, Below.refl _ _, rfl, by omega⟩
  | 11, ho, hD, ha =>
   simp only [List.getElem?_cons_zero, List.getElem?_cons_succ, Option.some.injEq] at ho
   subst ho
   have e10 := hI.fact 10 (ha ⟨10, .data⟩ (by simp) rfl)
   exact qaf (v := .pointer (some ⟨gf, 195, none⟩)) (w' := u) (by unfold execOp; simp only [Act.eval]; rw [show b.tmps.getD 13 undef = _ from e10]; simp [go_sem]) ⟨_, rfl, Below.refl _ _, rfl, by omega⟩
  | 12, ho, hD, ha =>
   simp only [List.getElem?_cons_zero, List.getElem?_cons_succ, Option.some.injEq] at ho
   subst ho
   have e11 := hI.fact 11 (ha ⟨11, .data⟩ (by simp) rfl)
   have hc : u.cell? ⟨gf, 195, none⟩ = some nv := (hI.b.cell (p := ⟨gf, 195, none⟩) (qab HROW.out)).trans c195
   exact qaf (v := nv) (w' := u) (by unfold execOp; simp only [Act.eval]; rw [show b.tmps.getD 14 undef = _ from e11]; simp [go_sem, hc]) ⟨_, rfl, Below.refl _ _, rfl, by omega⟩
  | 13, ho, hD, ha =>
   simp only [List.getElem?_cons_zero, List.getElem?_cons_succ, Option.some.injEq] at ho
   subst ho
   have e12 := hI.fact 12 (ha ⟨12, .data⟩ (by simp) rfl)
   refine qom 82 #[.tmp 15] #[92] rfl (fun _ _ => by kernel_rfl) #[nv] (by simp only [List.map_toArray, List.map_cons, List.map_nil, Act.eval]; rw [show b.tmps.getD 15 undef = _ from e12]; rfl) (fun v w' => w'.ownsRow u.heap.size 103 8 v E.length (qaz E) ∧ Below u.heap.size u w')
    ((ybah nv E u (H8.out.now.below hI.b) (by omega)).mono fun e w' ⟨v, he, x1, x2, _⟩ => ⟨v, he, x1, x2⟩) ?_
   intro v w' hv
   exact ⟨_, rfl, hv.2, qcv hv.1 hI.b.size, by omega⟩
  | 14, ho, hD, ha =>
   simp only [List.getElem?_cons_zero, List.getElem?_cons_succ, Option.some.injEq] at ho
   subst ho
   refine qog _ rfl ⟨_, rfl, (Below.refl _ _).alloc (Nat.le_refl _) _, ⟨_, rfl, hI.b.size, MapL.made _⟩, fun j hj hDj => ?_⟩
   obtain rfl : j = 15 := by omega
   obtain ⟨g, hg, _, hm⟩ := hI.fact 15 hDj
   rw [hg]
   have := hm.lt
   intro hc
   injection hc with hc
   injection hc with hc
   omega
  | 15, ho, hD, ha =>
   simp only [List.getElem?_cons_zero, List.getElem?_cons_succ, Option.some.injEq] at ho
   subst ho
   refine qog _ rfl ⟨_, rfl, (Below.refl _ _).alloc (Nat.le_refl _) _, ⟨_, rfl, hI.b.size, MapL.made _⟩, fun j hj hDj => ?_⟩
   obtain rfl : j = 14 := by omega
   obtain ⟨g, hg, _, hm⟩ := hI.fact 14 hDj
   rw [hg]
   have := hm.lt
   intro hc
   injection hc with hc
   injection hc with hc
   omega
  | 16, ho, hD, ha =>
   simp only [List.getElem?_cons_zero, List.getElem?_cons_succ, Option.some.injEq] at ho
   subst ho
   have e0 := hI.fact 0 (ha ⟨0, .data⟩ (by simp) rfl)
   have e4 := hI.fact 4 (ha ⟨4, .data⟩ (by simp) rfl)
   have e8 := hI.fact 8 (ha ⟨8, .data⟩ (by simp) rfl)
   have d13 := ha ⟨13, .data⟩ (by simp) rfl
   have d14 := ha ⟨14, .data⟩ (by simp) rfl
   have d15 := ha ⟨15, .data⟩ (by simp) rfl
   have e13 : u.ownsRow w.heap.size 103 8 (b.tmps.getD 16 undef) E.length (qaz E) := hI.fact 13 d13
   obtain ⟨gd, e14, hgd, hmd⟩ : ∃ g, b.tmps.getD 17 undef = .map (some g) ∧ w.heap.size ≤ g ∧ MapL Tryz.prog 3 u g [] := hI.fact 14 d14
   obtain ⟨gp, e15, hgp, hmp⟩ : ∃ g, b.tmps.getD 18 undef = .map (some g) ∧ w.heap.size ≤ g ∧ MapL Tryz.prog 3 u g [] := hI.fact 15 d15
   have hne : b.tmps.getD 17 undef ≠ b.tmps.getD 18 undef := hI.ne 14 15 (Or.inl ⟨rfl, rfl⟩) d14 d15
   rw [e14, e15] at hne
   obtain ⟨n, c, hv16⟩ : ∃ n c, b.tmps.getD 16 undef = .slice (some ⟨n, 0, none⟩) 32 c := by
    obtain ⟨_, ⟨hv, h0⟩ | ⟨g, c, cur, hv, _⟩⟩ := id e13
    ·omega
    ·exact ⟨g, c, by rw [hv, hE]⟩
   rw [hv16, hE] at e13
   refine qtq _ _ rfl #[(0, .pointer (some ⟨gf, 0, none⟩)), (1, .agg A), (2, rv), (3, .slice (some ⟨n, 0, none⟩) 32 c), (4, .map (some gd)), (5, .map (some gp)), (8, .int .i64 256)] ?_ (txR (.pointer (some ⟨gf, 0, none⟩)) s.fo rv (.slice (some ⟨n, 0, none⟩) 32 c) (.map (some gd)) (.map (some gp)) (.slice none 0 0) false 256) ?_ ?_
   ·simp only [List.map_toArray, List.map_cons, List.map_nil, Act.eval]
    rw [show b.tmps.getD 3 undef = _ from e0, show b.tmps.getD 7 undef = _ from e4, show b.tmps.getD 11 undef = _ from e8, hv16, e14, e15]
   ·rw [HA.out, hrv]
    exact ybla _ _ _ _ _ _ _ _ _ _
   ·exact ⟨_, rfl, Below.refl _ _, ⟨n, c, gd, gp, rfl, e13, hgd, hgp, fun hc => hne (by rw [hc]), hmd, hmp⟩, by omega⟩
  | 17, ho, hD, ha =>
   simp only [List.getElem?_cons_zero, List.getElem?_cons_succ, Option.some.injEq] at ho
   subst ho
   obtain ⟨n, c, gd, gp, e16, q1, q2, q3, q4, q5, q6⟩ := hI.fact 16 (ha ⟨16, .data⟩ (by simp) rfl)
   have hbx : Below u.heap.size u (u.alloc (.cells (txR (.pointer (some ⟨gf, 0, none⟩)) s.fo rv (.slice (some ⟨n, 0, none⟩) 32 c) (.map (some gd)) (.map (some gp)) (.slice none 0 0) false 256) 114)) := (Below.refl _ _).alloc (Nat.le_refl _) _
   exact ybbz 114 (.tmp 19) rfl _ e16 ⟨_, rfl, hbx, ⟨_, n, c, gd, gp, rfl, hI.b.size, heap_alloc_new _ _, qap q1 hbx, q2, q3, q4, q5.of_block (hbx.block _ q5.lt), q6.of_block (hbx.block _ q6.lt)⟩, by omega⟩
  | 18, ho, hD, ha =>
   simp only [List.getElem?_cons_zero, List.getElem?_cons_succ, Option.some.injEq] at ho
   subst ho
   obtain ⟨gt, n, c, gd, gp, e17, q⟩ := hI.fact 17 (ha ⟨17, .data⟩ (by simp) rfl)
   exact qko (.tmp 20) rfl ⟨_, rfl, Below.refl _ _, ⟨gt, n, c, gd, gp, e17, q⟩, by omega⟩
 ·intro D b u hI hall
  obtain ⟨gt, n, c, gd, gp, e18, q0, q1, q2, q3, q4, q5, q6, q7⟩ := hI.fact 18 (hall 18 (by simp))
  rename_i K hK
  have hgt : gt < u.heap.size := qab q1
  have hgn : n < u.heap.size := (q2.lt n rfl).2
  have hgnw : w.heap.size ≤ n := (q2.lt n rfl).1
  have hgd := q6.lt
  have hgp := q7.lt
  have hsF' : ∀ i, i < w.heap.size → (F i ∨ (i = gt ∨ i = n ∨ i = gd ∨ i = gp)) → F i := fun i hl hi => by
   rcases hi with hi | hi | hi | hi | hi
   ·exact hi
   all_goals omega
  refine hK _ _ (wp_ret ?_)
  refine bodyPost_ret (v := .pointer (some ⟨gt, 0, none⟩)) ?_ hI.dfs ⟨gt, fun i => i = gt ∨ i = n ∨ i = gd ∨ i = gp, rfl, hI.b, ?_⟩
  ·have e2 : b.tmps.getD 2 undef = .pointer (some ⟨gt, 0, none⟩) := e18
   have e3 : b.tmps[2]? = some (.pointer (some ⟨gt, 0, none⟩)) := by
    rw [Array.getElem?_eq_getElem (by rw [hI.size]; omega)]
    rw [← e2]
    simp [hI.size]
   simp [results, Tryz.results32, go_sem, e3]
  ·refine qbs.at (rv := rv) (gn := n) (cn := c) (gd := gd) (gp := gp) (gv := .slice none 0 0) (E := E) (pl := []) ⟨q1, ?_, q2, ?_, q6, q7, qau.nil _ _, q5, ⟨rfl, Or.inl ⟨rfl, rfl⟩⟩, Or.inr (Or.inl rfl), Or.inr (Or.inr (Or.inl rfl)), Or.inr (Or.inr (Or.inr rfl)), fun b hb => by cases hb⟩ (Or.inl rfl) (by rw [← H9.out.1]; exact hE) ?_ ?_ (by simp) (by simp) (by simp) a7 (by simp)
   ·exact (H7.out.grow hsF').below hI.b
   ·exact (H9.out.grow hsF').keep (qac.of_below hI.b)
   ·rintro i (rfl | rfl | rfl | rfl) <;> assumption
   ·rintro i (rfl | rfl | rfl | rfl) <;> assumption
end Go.Proofs.YtpoglnpjadmbpaaGreatDoor
