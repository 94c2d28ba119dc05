/- Part of the proofs of FsCut, FsHoles: the texts TxAt, FsD, FsP, FsM. -/
import Derived.Test.YtpoglnpjadmbpaaGreatDoorMA43
import Derived.Test.YtpoglnpjadmbpaaGreatDoorMB5
set_option maxHeartbeats 16000000
namespace Go.Proofs.YtpoglnpjadmbpaaGreatDoor
open Go.RowKit
section
variable (fp : Value) (fo : Fo) (rv nv dv pv gv : Value) (full : Bool) (fake : Int)
theorem ybzc (i : Nat) (_h : 193 ≤ i) (u : Value) (hi : i < 200) : (txR fp fo rv nv dv pv gv full fake).setIfInBounds i u = Array.ofFn (n := 200) fun j => if j.val = i then u else qod fp fo rv nv dv pv gv full fake j.val := by
 apply Array.ext_getElem?
 intro j
 rw [Array.getElem?_setIfInBounds, qgl]
 by_cases hj : i = j
 ·rw [if_pos hj, if_pos (by omega)]
  subst hj
  simp [hi]
 ·rw [if_neg hj]
  by_cases hj2 : j < 200
  ·rw [qha _ _ _ _ _ _ _ _ _ _ hj2]
   simp [hj2, Ne.symm hj]
  ·rw [Array.getElem?_eq_none (by rw [qgl]; omega), Array.getElem?_eq_none (by simp; omega)]
end
theorem ybuw (fp : Value) (fo : Fo) (rv nv dv pv gv : Value) (full : Bool) (fake : Int) (u : Value) : (txR fp fo rv nv dv pv gv full fake).setIfInBounds 197 u = txR fp fo rv nv dv pv u full fake := by
 rw [ybzc _ _ _ _ _ _ _ _ _ 197 (by omega) u (by omega)]
 unfold txR
 congr 1
 funext j
 unfold qod
 by_cases h : j.val = 197
 ·simp [h]
 ·simp [h]
end Go.Proofs.YtpoglnpjadmbpaaGreatDoor
namespace Go.Proofs.YtpoglnpjadmbpaaGreatDoor
open Go.RowKit
theorem qqp (n : Nat) : (Builtin.zeroCells #[.int .u8 0] n).toList = List.replicate n (Value.int .u8 0) := by
 apply List.ext_getElem
 ·simp [Builtin.zeroCells]
 ·intro i h1 h2
  simp [Builtin.zeroCells, Nat.mod_one]
theorem qpk {P : Program} (w : World) (t e : TypeId) (ht : P.underlying t = some (.slice e)) (hv : ∀ w, (zeroValue e).run P w = .ok (.int .u8 0) w)
  (g o n c : Nat) (cur : Array Value) (ct : TypeId) (hg : w.heap[g]? = some (.cells cur ct (0, 0))) (hfit : o + n ≤ cur.size) (hn : 0 < n) (ty : TypeId) :
  (Builtin.clear_ #[t] ty #[.slice (some ⟨g, o, none⟩) n c]).run P w = .ok (.tuple #[]) (w.setRow g (cur.toList.take o ++ List.replicate n (Value.int .u8 0) ++ cur.toList.drop (o + n)).toArray) := by
 have hst := run_storeCells_at P g o ct (Builtin.zeroCells #[.int .u8 0] n).toList 0 cur w hg (by rw [qqp, List.length_replicate]; omega) (by rw [qqp]; intro v hv; rw [List.eq_of_mem_replicate hv]; rfl)
 rw [qqp] at hst
 simp only [Nat.add_zero, List.length_replicate] at hst
 obtain ⟨m, rfl⟩ : ∃ m, n = m + 1 := ⟨n - 1, by omega⟩
 have hz : Builtin.zeroCells #[.int .u8 0] (m + 1) = (List.replicate (m + 1) (Value.int .u8 0)).toArray := by rw [← qqp]
 simp [Builtin.clear_, run_underlying ht, hv, Value.cells, hz, hst]
theorem u8Zv : ∀ w, (zeroValue 5).run Tryz.prog w = .ok (.int .u8 0) w := (zero_of_info (P := Tryz.prog) (t := 5) (v := .int .u8 0) (n := 1) (by kernel_rfl)).1
theorem qsi (k m u g s l up : Int) (v : Value) (w : World) : (Instr.field 103 (.agg #[.int .i64 k, .int .i64 m, .int .i64 u, .int .i64 g, .int .i64 s, .int .i64 l, .int .i64 up, v]) 4).run Tryz.prog w = .ok (.int .i64 s) w := by kernel_rfl
theorem qbs.putGone {w w' : World} {B : Nat} {F T : Nat → Prop} {gt : Nat} {fp : Value} {x : Tx} {rv : Value} {gn cn gd gp : Nat} {gv : Value} {E : List Nd} {pl : List (Int × Value)} (h : qbs w B F T gt fp x rv gn cn gd gp gv E pl) (hx : TxAt w B F gt fp x T) (gv' : Value) (l : List Int)
  (hk : qac (fun i => i = gt) w w') (hr : w'.heap[gt]? = some (.cells (txR fp x.fo rv (.slice (some ⟨gn, 0, none⟩) 32 cn) (.map (some gd)) (.map (some gp)) gv' x.full x.fake) 114 (0, 0))) (ho : w'.ownsRow w.heap.size 3 1 gv' l.length (ints l)) (hl : l.length ≤ 1000) :
  TxAt w' B F gt fp { x with gone := l } (fun i => T i ∨ gv'.ownBlock = some i) := by
 have hkT : qac T w w' := hk.mono fun i _ hi => by rw [hi]; exact hx.self
 have hb : ∀ b, b < w.heap.size → b ≠ gt → w'.heap[b]? = w.heap[b]? := fun b h1 h2 => hk.block b h1 h2
 have hT : ∀ i, (T i ∨ gv'.ownBlock = some i) → T i ∨ w.heap.size ≤ i := fun i hi => hi.imp id fun h1 => (ho.lt i h1).1
 have hBw : B ≤ w.heap.size := by have h1 := hx.new gt hx.self; have h2 := qab h.row; omega
 refine qbs.at (x := { x with gone := l }) (rv := rv) (gn := gn) (cn := cn) (gd := gd) (gp := gp) (gv := gv') (E := E) (pl := pl) ⟨hr, ybbo h.rows hkT hT, ?_, ybkb h.nds hkT hT, ?_, ?_, ?_, h.ne, ?_, Or.inl h.tn, Or.inl h.td, Or.inl h.tp, fun b hb => Or.inr hb⟩ (Or.inl hx.self) hx.len (fun i hi => ?_) (fun i hi => ?_) hl hx.put hx.dirty hx.rows hx.fake
 ·exact qav h.own fun b hb2 => hb b (h.own.lt b hb2).2 (qbb h.own h.row (by decide) b hb2)
 ·exact h.dirt.of_block (hb gd h.dirt.lt (Ne.symm (qai h.row h.dirt)))
 ·exact h.puts.of_block (hb gp h.puts.lt (Ne.symm (qai h.row h.puts)))
 ·exact h.secs.keep fun g cc _ hc => hb g (qab hc) (qao hc h.row (by decide))
 ·exact qcv ho hBw
 ·rcases hi with hi | hi
  ·exact Nat.lt_of_lt_of_le (hx.fin i hi) hk.size
  ·exact (ho.lt i hi).2
 ·rcases hi with hi | hi
  ·exact hx.new i hi
  ·exact Nat.le_trans hBw (ho.lt i hi).1
def cutY (s : Fs) (X : Pn) (sz : Int) : Fw :=
 let K := blkN sz
 let P2 := resP X.P K
 let tl := (qez X.P K X.s sz).toNat
 ⟨s.fo, if tl = 0 then [] else [(P2.getD (K - 1) 0, (qck (tx0 s) s P2 (K - 1)).take tl ++ List.replicate (64 - tl) 0)], P2⟩
def qjp (s : Fs) (X X1 : Pn) (sz : Int) : Tx := ⟨s.fo, s.rows, s.nodes.set 1 X1, [(2, .bool true)], (cutY s X sz).put, srtI (qed X.P (blkN sz)), false, 256⟩
set_option maxRecDepth 100000 in
theorem ybvw {w : World} {gf : Nat} {s : Fs} {F : Nat → Prop} {B : Nat} {a : Addr} (h : FsAt w gf s F B a) (hB : B ≤ w.heap.size) (X : Pn) (hX : s.nodes[1]? = some X) (hk : X.k = 1) (hP : qgp X.P s.k) (hrX : qfv X = 0)
  (sz : Nat) (hsz : sz ≤ 512) (hne : X.s ≠ (sz : Int)) (hn : qcj s.fo)
  (hrows : s.rows = []) (p0 : Nat) (hp0 : s.fo.nd 0 0 = (p0 : Int)) (hp1 : 0 < p0) (hp2 : p0 < 256) (X0 : Pn) (hX0 : s.nodes[0]? = some X0) (X1 : Pn) (hX1 : X1 = { X with P := resP X.P (blkN (sz : Int)), s := (sz : Int) }) (hr0 : qfv X0 = 0) (hr1 : qfv X1 = 0) (hl0 : (qcf X0).length = 32) (hl1 : (qcf X1).length = 32)
  (hr : qbn (qde (qjp s X X1 (sz : Int)) X0 X1).fo = 0) (hlen : s.todo.length + 1 ≤ 24) :
  Calls Tryz.prog 17 #[.pointer (some ⟨gf, 0, none⟩), .int .i64 2, .int .i64 (sz : Int)] w
   (fun e w' => e = .returned (.int .i64 0) ∧ FsAt w' gf (qiq s (qde (qjp s X X1 (sz : Int)) X0 X1)) F B a ∧ qac F w w') := by
 have H := Lib.hid h
 have hHF := qoo h 1 (by omega) X hX
 rw [hk, if_neg (by omega), if_pos rfl] at hHF
 have HFI : Hid (Calls Tryz.prog 47 #[.pointer (some ⟨gf, 0, none⟩), .int .i64 2] w (fun e w' => e = .returned (.int .i64 0) ∧ w = w')) := hHF
 have HBG := Lib.hid (qkq h)
 have HND := Lib.hid (fun (W : World) (gt : Nat) (T : Nat → Prop) (hT : TxAt W w.heap.size F gt (.pointer (some ⟨gf, 0, none⟩)) (tx0 s) T) => qtl hT 1 (by omega) X hX)
 have HNS := Lib.hid hn
 have HPI := Lib.hid hP
 have hlen32 := h.len
 have hpl : (cutY s X (sz : Int)).put.length ≤ 1 := by unfold cutY; dsimp only; split <;> simp
 have HEND : Hid (∀ (W : World) (gt : Nat) (T : Nat → Prop), Below w.heap.size w W → TxAt W w.heap.size F gt (.pointer (some ⟨gf, 0, none⟩)) (qjp s X X1 (sz : Int)) T →
   Calls Tryz.prog 54 #[.pointer (some ⟨gt, 0, none⟩)] W
    (fun e w' => e = .returned (.int .i64 0) ∧ FsAt w' gf (qiq s (qde (qjp s X X1 (sz : Int)) X0 X1)) F B a ∧ qac F w w')) := fun W gt T hW hT => by
  refine ybpy h hW hT (fun _ hi => hi) hrows rfl hn p0 hp0 hp1 hp2 false true rfl rfl rfl (fun k h1 h2 => ?_) X0 X1 ?_ ?_ hr0 hr1 hl0 hl1 (fun p hp => ?_) hr (by show qdg s.rows = 0; rw [hrows]; rfl) hB (by have := h.k0; omega) (by show s.todo.length + (cutY s X (sz : Int)).put.length ≤ 24; omega)
  ·constructor
   ·show getZ [((2 : Int), Value.bool true)] _ = none
    unfold getZ; rw [if_neg (by omega)]; rfl
   ·show getZ [((2 : Int), Value.bool true)] _ = none
    unfold getZ; rw [if_neg (by omega)]; rfl
  ·show (s.nodes.set 1 _)[0]? = _
   rw [List.getElem?_set_ne (by omega)]; exact hX0
  ·show (s.nodes.set 1 _)[1]? = _
   rw [List.getElem?_set_self (by omega)]
  ·have h1 : p ∈ qed X.P (blkN (sz : Int)) := (qny _).mem_iff.1 hp
   have h2 : p ∈ X.P := by
    unfold qed nzF at h1
    have := (List.mem_filter.1 h1).1
    exact List.mem_of_mem_drop (List.mem_reverse.1 this)
   have := hP p h2
   have := h.k1
   omega
 obtain ⟨K, HK⟩ : ∃ K, Hid (blkN (sz : Int) = K) := ⟨_, rfl⟩
 have hK8 : K ≤ 8 := by rw [← HK.out]; exact qcq (by omega)
 obtain ⟨hss, hrE, hPlen, _⟩ := qsv hrX (by omega : X.k ≠ 0)
 have HXP : Hid (X.P.length ≤ 8) := by show _ ≤ _; rw [hPlen]; exact qcq hss.2
 obtain ⟨G, HG⟩ : ∃ G, Hid (srtI (qed X.P K) = G) := ⟨_, rfl⟩
 have HGL : Hid (G.length = (qed X.P K).length) := by show _ = _; rw [← HG.out]; exact (qny _).length_eq
 have HGL8 : Hid (G.length ≤ 8) := by show _ ≤ _; rw [HGL.out]; exact Nat.le_trans (qzu _ _) HXP.out
 obtain ⟨P2, HP2⟩ : ∃ P2, Hid (resP X.P K = P2) := ⟨_, rfl⟩
 have HP2L : Hid (P2.length = K) := by show _ = _; rw [← HP2.out]; exact ybgo _ _
 have HP2I : Hid (qgp P2 s.k) := by
  intro r hr
  rw [← HP2.out] at hr
  unfold resP at hr
  rcases List.mem_append.1 hr with hr | hr
  ·exact hP r (List.mem_of_mem_take hr)
  ·have := List.eq_of_mem_replicate hr
   have := h.k0
   omega
 obtain ⟨tl, Htl⟩ : ∃ tl : Nat, Hid (qez X.P K X.s (sz : Int) = (tl : Int)) := ⟨(qez X.P K X.s (sz : Int)).toNat, by show _ = _; have := (ybgz X.P K X.s (sz : Int)).1; omega⟩
 have htl64 : tl < 64 := by have h1 := (ybgz X.P K X.s (sz : Int)).2.1; have := Htl.out; omega
 have HTL : Hid (tl ≠ 0 → 0 < K ∧ P2.getD (K - 1) 0 ≠ 0) := fun h0 => by
  have h1 := Htl.out
  rw [← HP2.out]
  have hc : (resP X.P K).getD (K - 1) 0 ≠ 0 := by
   unfold qez at h1
   split at h1
   ·next hc => exact hc.2.2
   ·omega
  refine ⟨?_, hc⟩
  rcases Nat.eq_zero_or_pos K with hK | hK
  ·subst hK
   exact absurd (by unfold resP; simp) hc
  ·exact hK
 have HCY : Hid (cutY s X (sz : Int) = ⟨s.fo, if tl = 0 then [] else [(P2.getD (K - 1) 0, (qck (tx0 s) s P2 (K - 1)).take tl ++ List.replicate (64 - tl) 0)], P2⟩) := by
  show _ = _
  unfold cutY
  dsimp only
  rw [HK.out, HP2.out, Htl.out, Int.toNat_natCast]
 have HCUT : Hid (∀ (v : Value) (W : World), qan W v X.P → Calls Tryz.prog 55 #[.agg #[.int .i64 X.k, .int .i64 X.m, .int .i64 X.u, .int .i64 X.g, .int .i64 X.s, .int .i64 X.l, .int .i64 X.up, v], .int .i64 (sz : Int)] W (fun e w' => ∃ pq pc gv, e = .returned (.tuple #[.agg #[.int .i64 X.k, .int .i64 X.m, .int .i64 X.u, .int .i64 X.g, .int .i64 (sz : Int), .int .i64 X.l, .int .i64 X.up, .slice pq K pc], gv, .int .i64 (tl : Int), .int .i64 0]) ∧
   w'.ownsRow W.heap.size 3 1 (.slice pq K pc) K (ints P2) ∧ w'.ownsRow W.heap.size 3 1 gv G.length (ints G) ∧ Below W.heap.size W w' ∧ ∀ b, (Value.slice pq K pc).ownBlock = some b → gv.ownBlock ≠ some b)) := fun v W hv => by
  have h1 := ybwt X.k X.m X.u X.g X.s X.l X.up v X.P (sz : Int) W hv hrX (by omega) (by omega) (by omega)
  unfold ybkh at h1
  rw [HK.out, HG.out, Htl.out, HP2.out, ← HGL.out] at h1
  exact h1
 have HX1 := Lib.hid hX1
 rw [HK.out, HP2.out] at HX1
 have hsN : decide ((512 : Int) < (sz : Int)) = false := decide_eq_false (by omega)
 have hsN2 : ¬ (512 : Int) < (sz : Int) := by omega
 have hsN3 : ¬ 512 < sz := by omega
 have hsN4 : decide ((sz : Int) < 0) = false := decide_eq_false (by omega)
 have hsN5 : ¬ (sz : Int) < 0 := by omega
 have b0 : (X.s == (sz : Int)) = false := by simpa using hne
 clear h hHF hB hX hk hP hrX hn hrows hp0 hp1 hp2 hX0 hX1 hr0 hr1 hl0 hl1 hr hlen hlen32 hpl hss hrE hPlen
 go_enter Tryz.func17, Tryz.ntmps17
 go_wp2_with fail
 refine HFI.out.mono ?_
 rintro e w1 ⟨rfl, rfl⟩
 go_wp2_with fail
 refine HBG.out.mono ?_
 rintro e w1 ⟨gt, T, rfl, hb1, hT⟩
 have HB1 := Lib.hid hb1
 have HT1 := Lib.hid hT
 have HND1 := Lib.hid (HND.out w1 gt T hT)
 clear hb1 hT
 go_wp2_with fail
 refine HND1.out.mono ?_
 rintro e w2 ⟨q0, n0, c0, rfl, _, hb2⟩
 have HB2 := Lib.hid (Below.trans HB1.out (hb2.mono HB1.out.size))
 have HT2 := Lib.hid (HT1.out.below hb2)
 have HND2 := Lib.hid (HND.out w2 gt T HT2.out)
 clear hb2 HND1
 have hf4 := qsi
 go_wp2_with fail
 refine HND2.out.mono ?_
 rintro e w3 ⟨q, n, c, rfl, hnv, hb3⟩
 have HB3 := Lib.hid (Below.trans HB2.out (hb3.mono HB2.out.size))
 have HT3 := Lib.hid (HT2.out.below hb3)
 have HC3 := Lib.hid (HCUT.out (.slice q n c) w3 hnv.now)
 clear hb3 hnv HND2
 go_wp2_with fail
 refine HC3.out.mono ?_
 rintro e w4 ⟨pq, pc, gv, rfl, ho1, ho2, hb4, hsep⟩
 have HO1 := Lib.hid ho1
 have HO2 := Lib.hid ho2
 have HB4 := Lib.hid hb4
 obtain ⟨gq, gc, rfl, _⟩ := qar ho2
 have HSEP := Lib.hid hsep
 clear ho1 ho2 hb4 hsep
 obtain ⟨gb, Hgb⟩ : ∃ x, Hid (w4.heap.size = x) := ⟨_, rfl⟩
 have HGB : Hid (w3.heap.size ≤ gb) := by show _; rw [← Hgb.out]; exact HB4.out.size
 have HT3g : Hid (TxAt w3 w.heap.size (fun i => F i ∨ i = gb) gt (.pointer (some ⟨gf, 0, none⟩)) (tx0 s) T) := HT3.out.outer fun i hi hg => hg.resolve_right (by have := HGB.out; omega)
 obtain ⟨rv, gn, cn, gd, gp, gv0, E, pl, hl⟩ := HT3g.out.lies
 have HL3 := Lib.hid hl
 have HB5 : Hid (Below w3.heap.size w3 (w4.alloc (.cells #[.int .i64 X.k, .int .i64 X.m, .int .i64 X.u, .int .i64 X.g, .int .i64 (sz : Int), .int .i64 X.l, .int .i64 X.up, .slice pq K pc] 103))) := HB4.out.alloc HB4.out.size _
 have HR5 : Hid ((w4.alloc (.cells #[.int .i64 X.k, .int .i64 X.m, .int .i64 X.u, .int .i64 X.g, .int .i64 (sz : Int), .int .i64 X.l, .int .i64 X.up, .slice pq K pc] 103)).heap[gb]? = some (.cells #[.int .i64 X.k, .int .i64 X.m, .int .i64 X.u, .int .i64 X.g, .int .i64 (sz : Int), .int .i64 X.l, .int .i64 X.up, .slice pq K pc] 103 (0, 0))) := by rw [← Hgb.out]; exact heap_alloc_new _ _
 have HO5 : Hid ((w4.alloc (.cells #[.int .i64 X.k, .int .i64 X.m, .int .i64 X.u, .int .i64 X.g, .int .i64 (sz : Int), .int .i64 X.l, .int .i64 X.up, .slice pq K pc] 103)).ownsRow w3.heap.size 3 1 (.slice pq K pc) K (ints P2) ∧ (w4.alloc (.cells #[.int .i64 X.k, .int .i64 X.m, .int .i64 X.u, .int .i64 X.g, .int .i64 (sz : Int), .int .i64 X.l, .int .i64 X.up, .slice pq K pc] 103)).ownsRow w3.heap.size 3 1 (.slice gq G.length gc) G.length (ints G)) := ⟨qap HO1.out ((Below.refl _ _).alloc (Nat.le_refl _) _), qap HO2.out ((Below.refl _ _).alloc (Nat.le_refl _) _)⟩
 have HGT : Hid (gb ≠ gt ∧ gt < w3.heap.size ∧ ¬ T gb ∧ (∀ b, (Value.slice pq K pc).ownBlock = some b → b < gb) ∧ ∀ b, (Value.slice gq G.length gc).ownBlock = some b → b < gb) := by
  have h1 := qab hl.row
  have h2 := HGB.out
  refine ⟨by omega, h1, fun hc => ?_, fun b hb => ?_, fun b hb => ?_⟩
  ·have := HT3.out.fin gb hc; omega
  ·rw [← Hgb.out]; exact (HO1.out.lt b hb).2
  ·rw [← Hgb.out]; exact (HO2.out.lt b hb).2
 go_upto_region 14 with fail
 rw [Hgb.out]
 generalize w4.alloc (.cells #[.int .i64 X.k, .int .i64 X.m, .int .i64 X.u, .int .i64 X.g, .int .i64 (sz : Int), .int .i64 X.l, .int .i64 X.up, .slice pq K pc] 103) = w5 at *
 have hrow5 := qaa HB5.out hl.row
 have c197 := (qcp hrow5).2.2.2.2.2.1
 have z197 : w5.frozen? ⟨gt, 197, none⟩ = false := frozen_of_row _ _ _ _ _ hrow5
 have HROW5 := Lib.hid hrow5
 have hk6 : qac (fun i => i = gt) w5 (w5.setCell ⟨gt, 197, none⟩ (.slice gq G.length gc)) := qac.setCell (F := fun i => i = gt) (p := ⟨gt, 197, none⟩) rfl _
 have hr6 : (w5.setCell ⟨gt, 197, none⟩ (.slice gq G.length gc)).heap[gt]? = some (.cells (txR (.pointer (some ⟨gf, 0, none⟩)) (tx0 s).fo rv (.slice (some ⟨gn, 0, none⟩) 32 cn) (.map (some gd)) (.map (some gp)) (.slice gq G.length gc) (tx0 s).full (tx0 s).fake) 114 (0, 0)) := by
  rw [← ybuw]
  exact heap_setCell_same _ _ 197 _ _ _ hrow5
 have ho6 : (w5.setCell ⟨gt, 197, none⟩ (.slice gq G.length gc)).ownsRow w3.heap.size 3 1 (.slice gq G.length gc) G.length (ints G) := qav HO5.out.2 fun b hb => hk6.block b (HO5.out.2.lt b hb).2 (qbb HO5.out.2 hrow5 (by decide) b hb)
 have hq6 : (w5.setCell ⟨gt, 197, none⟩ (.slice gq G.length gc)).ownsRow w3.heap.size 3 1 (.slice pq K pc) K (ints P2) := qav HO5.out.1 fun b hb => hk6.block b (HO5.out.1.lt b hb).2 (qbb HO5.out.1 hrow5 (by decide) b hb)
 have HT6 := Lib.hid (HL3.out.putGone HT3g.out (.slice gq G.length gc) G ((qac.of_below HB5.out).step hk6) hr6 ho6 (by have := HGL8.out; omega))
 have HR6 : Hid ((w5.setCell ⟨gt, 197, none⟩ (.slice gq G.length gc)).heap[gb]? = some (.cells #[.int .i64 X.k, .int .i64 X.m, .int .i64 X.u, .int .i64 X.g, .int .i64 (sz : Int), .int .i64 X.l, .int .i64 X.up, .slice pq K pc] 103 (0, 0))) := (hk6.block gb (qab HR5.out) HGT.out.1).trans HR5.out
 have HQ6 := Lib.hid hq6
 have HK6 : Hid (qac T w3 (w5.setCell ⟨gt, 197, none⟩ (.slice gq G.length gc))) := (qac.of_below HB5.out).step (hk6.mono fun i _ hi => by rw [hi]; exact HT3.out.self)
 have HBW6 : Hid (Below w.heap.size w (w5.setCell ⟨gt, 197, none⟩ (.slice gq G.length gc))) := HB3.out.trans (HK6.out.to_below HT3.out.new HB3.out.size)
 have HSE : Hid (∀ (W : World) (T' : Nat → Prop) (q' : Option Addr) (c' : Nat) (pt : List (Int × List Int)), pt = (cutY s X (sz : Int)).put → TxAt W w.heap.size (fun i => F i ∨ i = gb) gt (.pointer (some ⟨gf, 0, none⟩)) { tx0 s with put := pt, gone := G } T' → ybcf (fun i => F i ∨ T' i) { X with P := P2, s := (sz : Int) } W q' K c' →
   Calls Tryz.prog 53 #[.pointer (some ⟨gt, 0, none⟩), .int .i64 2, .agg #[.int .i64 X.k, .int .i64 X.m, .int .i64 X.u, .int .i64 X.g, .int .i64 (sz : Int), .int .i64 X.l, .int .i64 X.up, .slice q' K c']] W
    (fun e w' => e = .returned (.tuple #[]) ∧ qec w.heap.size F gt (.pointer (some ⟨gf, 0, none⟩)) (qjp s X X1 (sz : Int)) T' W w')) := fun W T' q' c' pt hpt hW hnv => by
  have hset := ybhc (hW.outer fun r _ hr => Or.inl hr) 1 (by omega) { X with P := P2, s := (sz : Int) } q' K c' hnv (by show (0 : Nat) < 900; omega)
  have e : qjp s X X1 (sz : Int) = { ({ tx0 s with put := pt, gone := G } : Tx) with nodes := ({ tx0 s with put := pt, gone := G } : Tx).nodes.set 1 { X with P := P2, s := (sz : Int) }, dirty := putZ ({ tx0 s with put := pt, gone := G } : Tx).dirty (((1 : Nat) : Int) + 1) (.bool true) } := by
   unfold qjp
   rw [HX1.out, hpt, HK.out, HG.out]
   rfl
  rw [e]
  exact hset
 have c197' := c197
 clear hl hrow5 hk6 hr6 ho6 hq6 hf4
 by_cases htl0 : tl = 0
 ·subst htl0
  have HPT : Hid ([] = (cutY s X (sz : Int)).put) := by show _ = _; rw [HCY.out]; rfl
  have hd0 : decide ((0 : Int) < ((0 : Nat) : Int)) = false := rfl
  go_upto_region 20 with fail
  generalize w5.setCell ⟨gt, 197, none⟩ (.slice gq G.length gc) = w6 at *
  obtain ⟨r0, r1, r2, r3, r4, r5, r6, r7⟩ := qam HR6.out
  have hnv : ybcf (fun i => F i ∨ (T i ∨ (Value.slice gq G.length gc).ownBlock = some i)) { X with P := P2, s := (sz : Int) } w6 pq K pc := by
   have h1 : qan w6 (.slice pq K pc) P2 := by
    have := qah.of_owns HQ6.out
    unfold qan
    rw [HP2L.out]
    exact this
   refine qsk h1 fun b hb hbl hG => ?_
   have h2 := (HQ6.out.lt b hb).1
   rcases hG with hG | hG | hG
   ·have := H.out.fin b hG; have := HB3.out.size; omega
   ·have := HT3.out.fin b hG; omega
   ·exact HSEP.out b hb hG
  have HS6 := Lib.hid (HSE.out w6 _ pq pc [] HPT.out HT6.out hnv)
  clear hnv
  go_wp2_with fail
  refine HS6.out.mono ?_
  rintro e w9 ⟨rfl, d9⟩
  have HO9 := Lib.hid (d9.old HBW6.out (HT6.out.outer fun r _ hr => Or.inl hr))
  obtain ⟨T9, t9, _⟩ := d9
  have HE9 := Lib.hid (HEND.out w9 gt T9 HO9.out t9)
  clear t9 r0 r1 r2 r3 r4 r5 r6 r7
  go_wp2_with fail
  refine HE9.out.mono ?_
  rintro e w10 ⟨rfl, h10⟩
  have H10 := Lib.hid h10
  clear h10
  go_wp2
  go_ret
  exact ⟨rfl, H10.out⟩
 ·obtain ⟨hK0, hpn⟩ := HTL.out htl0
  have hd0 : decide ((0 : Int) < (tl : Int)) = true := decide_eq_true (by omega)
  have hd1 : (0 : Int) < (tl : Int) := by omega
  have hd2 : 0 < tl := by omega
  have iK : IntKind.i64.wrap ((K : Int) - 1) = ((K - 1 : Nat) : Int) := by rw [IntWalk.i64_in _ (by omega)]; omega
  obtain ⟨k1, Hk1⟩ : ∃ n, Hid (K - 1 = n) := ⟨_, rfl⟩
  rw [Hk1.out] at iK hpn
  have hk18 : k1 < 8 := by have := Hk1.out; omega
  have hk1P : k1 < P2.length := by rw [HP2L.out]; have := Hk1.out; omega
  have hgd : P2.getD k1 0 = P2[k1] := by rw [List.getD_eq_getElem?_getD, List.getElem?_eq_getElem hk1P]; rfl
  have hpr := HP2I.out _ (List.getElem_mem hk1P)
  rw [hgd] at hpn
  have hk256 := H.out.k1
  obtain ⟨p', Hp'⟩ : ∃ p' : Nat, Hid (P2[k1]'hk1P = (p' : Int)) := ⟨(P2[k1]'hk1P).toNat, by show _ = _; omega⟩
  have hp256 : p' < 256 := by have := Hp'.out; omega
  have hIA6 : qan (w5.setCell ⟨gt, 197, none⟩ (.slice gq G.length gc)) (.slice pq K pc) P2 := by
   have := qah.of_owns HQ6.out
   unfold qan
   rw [HP2L.out]
   exact this
  have hbl := qxz HT6.out (H.out.below HBW6.out) { X with P := P2, s := (sz : Int) } pq K pc hIA6 k1 hk18 HP2I.out (by show P2.length ≤ 8; rw [HP2L.out]; exact hK8)
  have hbll := quj HT6.out (H.out.below HBW6.out) P2 k1 HP2I.out
  have hbe : qck { tx0 s with gone := G } s P2 k1 = qck (tx0 s) s P2 k1 := rfl
  obtain ⟨D0, HD0⟩ : ∃ D, Hid (qck (tx0 s) s P2 k1 = D) := ⟨_, rfl⟩
  rw [show (({ X with P := P2, s := (sz : Int) } : Pn).P) = P2 from rfl, hbe, HD0.out] at hbl
  rw [hbe, HD0.out] at hbll
  have HBL := Lib.hid hbl
  have HBLL := Lib.hid hbll
  have HIA6 := Lib.hid hIA6
  have HPT : Hid ([((p' : Int), D0.take tl ++ List.replicate (64 - tl) 0)] = (cutY s X (sz : Int)).put) := by
   show _ = _
   rw [HCY.out]
   dsimp only
   rw [if_neg htl0, Hk1.out, hgd, Hp'.out, HD0.out]
  clear hbl hbll hbe hIA6 hpr
  go_upto_region 16 with fail
  generalize w5.setCell ⟨gt, 197, none⟩ (.slice gq G.length gc) = w6 at *
  obtain ⟨r0, r1, r2, r3, r4, r5, r6, r7⟩ := qam HR6.out
  go_wp2_with fail
  refine HBL.out.mono ?_
  rintro e w7 ⟨v7, rfl, g, cap, cur, hvg, hg7, hh7, ht7, hb7⟩
  rw [HBLL.out] at hvg ht7 hg7
  subst hvg
  have HG7 : Hid (w6.heap.size ≤ g ∧ 64 ≤ cap) := hg7
  have hcur : 64 ≤ cur.size := by
   have h1 := congrArg List.length ht7
   rw [List.length_take, qak, HBLL.out, Array.length_toList] at h1
   omega
  have hcl := fun ty => qpk (P := Tryz.prog) w7 38 5 u8sT u8Zv g tl (64 - tl) (cap - tl) cur _ hh7 (by omega) (by omega) ty
  obtain ⟨cu2, HC2⟩ : ∃ c, Hid ((cur.toList.take tl ++ List.replicate (64 - tl) (Value.int .u8 0) ++ cur.toList.drop (tl + (64 - tl))).toArray = c) := ⟨_, rfl⟩
  rw [HC2.out] at hcl
  have HB8 : Hid (Below w6.heap.size w6 (w7.setRow g cu2)) := Below.setRow hb7 hg7.1 _
  have HH8 : Hid ((w7.setRow g cu2).heap[g]? = some (.cells cu2 5 (0, 0))) := setRow_heap _ _ _ _ _ _ hh7
  have HT8 : Hid (cu2.toList.take 64 = u8s (D0.take tl ++ List.replicate (64 - tl) 0)) := by
   show _ = _
   rw [← HC2.out, List.toList_toArray]
   have e1 : (cur.toList.take tl ++ List.replicate (64 - tl) (Value.int .u8 0)).length = 64 := by rw [List.length_append, List.length_take, List.length_replicate, Array.length_toList]; omega
   rw [List.take_append_of_le_length (by rw [e1]; omega), List.take_of_length_le (by rw [e1]; omega), qbf]
   congr 1
   ·rw [qci, ← ht7, List.take_take]
    congr 1
    omega
   ·simp [u8s]
  clear hg7 hh7 ht7 hb7 r0 r1 r2 r3 r4 r5 r6 r7
  have i64 : IntKind.i64.wrap (64 - (tl : Int)) = 64 - (tl : Int) := IntWalk.i64_in _ (by omega)
  have hct : ¬ cap = tl := by have := HG7.out.2; omega
  have hct2 : tl ≤ cap := by have := HG7.out.2; omega
  go_upto_region 19 with fail
  generalize w7.setRow g cu2 = w8 at *
  have hS64 : qen w8 w.heap.size (.slice (some ⟨g, 0, none⟩) 64 cap) (D0.take tl ++ List.replicate (64 - tl) 0) := ⟨g, cap, cu2, rfl, by rw [List.length_append, List.length_take, List.length_replicate, HBLL.out]; omega, HG7.out.2, Nat.le_trans HBW6.out.size HG7.out.1, HH8.out, HT8.out⟩
  have hgbT6 : ¬ (T gb ∨ (Value.slice gq G.length gc).ownBlock = some gb) := fun hc => by
   rcases hc with hc | hc
   ·exact HGT.out.2.2.1 hc
   ·have := HGT.out.2.2.2.2 gb hc; omega
  have HWR := Lib.hid (qya H.out (HBW6.out.trans (HB8.out.mono HBW6.out.size)) (HT6.out.below HB8.out) gb { X with P := P2, s := (sz : Int) } pq K pc (qaa HB8.out HR6.out) (qah.below HIA6.out HB8.out) ⟨Or.inr rfl, hgbT6, Nat.le_trans HB3.out.size HGB.out⟩ k1 hk1P (by rw [HP2L.out]; exact hK8) p' hp256 s.fo (Or.inr ⟨Hp'.out, by have := Hp'.out; omega, hp256, HNS.out, rfl⟩) _ _ hS64 (fun b hb hc => by
   injection hb with hb
   have hb' : g = b := hb
   have h1 := HT6.out.fin b hc
   have := HG7.out.1
   omega) (by show (0 : Nat) < 900; omega))
  have HGB6 : Hid (gb < w6.heap.size) := qab HR6.out
  clear hS64 hcl hcur
  go_wp2_with fail
  refine HWR.out.mono ?_
  rintro e w10 ⟨rfl, T2, g2, c2, hT2, u1, u2, u3, u4, ⟨u5, u6, u7⟩, cu3, u8a, u9⟩
  have hT2F : TxAt w10 w.heap.size (fun i => F i ∨ i = gb) gt (.pointer (some ⟨gf, 0, none⟩)) { tx0 s with put := [((p' : Int), D0.take tl ++ List.replicate (64 - tl) 0)], gone := G } T2 := hT2
  have hP2s : P2.set k1 (p' : Int) = P2 := by rw [← Hp'.out]; exact List.set_getElem_self hk1P
  have h9 : qan w10 (.slice (some ⟨g2, 0, none⟩) K c2) P2 := by
   refine ⟨by simp [ints], Or.inr ⟨g2, 0, c2, by rw [HP2L.out], fun r u hr => ?_⟩⟩
   rw [Nat.zero_add, cell_of_row _ _ _ _ _ _ u8a, ← Array.getElem?_toList]
   have hrl : r < P2.length := by
    have := (List.getElem?_eq_some_iff.1 hr).1
    simpa [ints] using this
   have h3 : (cu3.toList.take P2.length)[r]? = some u := by
    have u9' : cu3.toList.take P2.length = ints (P2.set k1 (p' : Int)) := u9
    rw [hP2s] at u9'
    rw [u9']; exact hr
   rwa [List.getElem?_take, if_pos hrl] at h3
  have hnv : ybcf (fun i => F i ∨ T2 i) { X with P := P2, s := (sz : Int) } w10 (some ⟨g2, 0, none⟩) K c2 := by
   refine qsk h9 fun b hb hbl hG => ?_
   injection hb with hb
   have hb' : g2 = b := hb
   subst hb'
   rcases hG with hG | hG
   ·have h1 := H.out.fin _ hG
    have h2 := HBW6.out.size
    have h3 := HB8.out.size
    omega
   ·exact u6 hG
  have HS10 := Lib.hid (HSE.out w10 _ (some ⟨g2, 0, none⟩) c2 _ HPT.out hT2F hnv)
  have HT10 := Lib.hid (hT2F.outer (F' := F) fun r _ hr => Or.inl hr)
  have hrow : w10.heap[gb]? = some (.cells #[.int .i64 X.k, .int .i64 X.m, .int .i64 X.u, .int .i64 X.g, .int .i64 (sz : Int), .int .i64 X.l, .int .i64 X.up, .slice (some ⟨g2, 0, none⟩) K c2] 103 (0, 0)) := by
   have := u4
   rw [HP2L.out] at this
   exact this
  obtain ⟨r0, r1, r2, r3, r4, r5, r6, r7⟩ := qam hrow
  have HBW10 : Hid (Below w.heap.size w w10) := (HBW6.out.trans (HB8.out.mono HBW6.out.size)).trans (u3.to_below (fun i hi => by
   rcases hi with (hi | hi) | hi
   ·exact HT3.out.new i hi
   ·have h1 := (HQ6.out.lt) 
    have h2 := (HO5.out.2.lt i hi).1
    have := HB3.out.size
    omega
   ·rw [hi]; exact Nat.le_trans HB3.out.size HGB.out) (Nat.le_trans HBW6.out.size HB8.out.size))
  clear hT2 hT2F u1 u2 u3 u4 u5 u6 u7 u8a u9 h9 hnv hrow
  go_wp2_with fail
  refine HS10.out.mono ?_
  rintro e w11 ⟨rfl, d9⟩
  have HO9 := Lib.hid (d9.old HBW10.out HT10.out)
  obtain ⟨T9, t9, _⟩ := d9
  have HE9 := Lib.hid (HEND.out w11 gt T9 HO9.out t9)
  clear t9 r0 r1 r2 r3 r4 r5 r6 r7
  go_wp2_with fail
  refine HE9.out.mono ?_
  rintro e w12 ⟨rfl, h10⟩
  have H10 := Lib.hid h10
  clear h10
  go_wp2
  go_ret
  exact ⟨rfl, H10.out⟩
end Go.Proofs.YtpoglnpjadmbpaaGreatDoor
namespace Go.Proofs.YtpoglnpjadmbpaaGreatDoor
section
variable {α : Type}
end
theorem qlc (f : Fo) (s : Nat → Bool) (h : qbd f 0 = true) : qbn (hasF f s) = qbn f := by
 have b0 : badT (hasF f s) 0 = false := by unfold badT; rw [show qbd (hasF f s) 0 = true from h]; rfl
 have c0 : badT f 0 = false := by unfold badT; rw [h]; rfl
 have n (k : Nat) : badN (hasF f s) k = badN f k := rfl
 have t (k : Nat) (hk : k ≠ 0) : badT (hasF f s) k = badT f k := by
  have : encT (hasF f s) k = encT f k := by
   have e : (hasF f s).hs k = f.hs k := if_neg hk
   unfold encT
   congr 1
   funext j
   unfold qdd
   rw [e]
   rfl
  unfold badT ybto
  rw [this]
  rfl
 unfold qbn
 rw [n, n, n, n, b0, c0, t 1 (by omega), t 2 (by omega), t 3 (by omega)]
end Go.Proofs.YtpoglnpjadmbpaaGreatDoor
namespace Go.Proofs.YtpoglnpjadmbpaaGreatDoor
open Go.RowKit
set_option maxRecDepth 100000 in
theorem qrt {w : World} {gf : Nat} {s : Fs} {F : Nat → Prop} {B : Nat} {a : Addr} (h : FsAt w gf s F B a) (X : Pn) (hX : s.nodes[1]? = some X) (hk : X.k = 1) (sz : Nat) (hsz : sz ≤ 512) (hes : X.s = (sz : Int)) :
  Calls Tryz.prog 17 #[.pointer (some ⟨gf, 0, none⟩), .int .i64 2, .int .i64 (sz : Int)] w
   (fun e w' => e = .returned (.int .i64 0) ∧ Below w.heap.size w w') := by
 have hHF := qoo h 1 (by omega) X hX
 rw [hk, if_neg (by omega), if_pos rfl] at hHF
 have HFI : Hid (Calls Tryz.prog 47 #[.pointer (some ⟨gf, 0, none⟩), .int .i64 2] w (fun e w' => e = .returned (.int .i64 0) ∧ w = w')) := hHF
 have HBG := Lib.hid (qkq h)
 have HND := Lib.hid (fun (W : World) (gt : Nat) (T : Nat → Prop) (hT : TxAt W w.heap.size F gt (.pointer (some ⟨gf, 0, none⟩)) (tx0 s) T) => qtl hT 1 (by omega) X hX)
 have hsN : decide ((512 : Int) < (sz : Int)) = false := decide_eq_false (by omega)
 have hsN2 : ¬ (512 : Int) < (sz : Int) := by omega
 have hsN3 : ¬ 512 < sz := by omega
 have hsN4 : decide ((sz : Int) < 0) = false := decide_eq_false (by omega)
 have hsN5 : ¬ (sz : Int) < 0 := by omega
 have b0 : (X.s == (sz : Int)) = true := by simpa using hes
 clear h hHF hX hk
 go_enter Tryz.func17, Tryz.ntmps17
 go_wp2_with fail
 refine HFI.out.mono ?_
 rintro e w1 ⟨rfl, rfl⟩
 go_wp2_with fail
 refine HBG.out.mono ?_
 rintro e w1 ⟨gt, T, rfl, hb1, hT⟩
 have HB1 := Lib.hid hb1
 have HND1 := Lib.hid (HND.out w1 gt T hT)
 clear hb1 hT
 have hf4 := qsi
 go_wp2_with fail
 refine HND1.out.mono ?_
 rintro e w2 ⟨q0, n0, c0, rfl, _, hb2⟩
 have HB2 := Lib.hid (Below.trans HB1.out (hb2.mono HB1.out.size))
 clear hb2
 go_wp2
 go_ret
 exact ⟨rfl, HB2.out⟩
end Go.Proofs.YtpoglnpjadmbpaaGreatDoor
