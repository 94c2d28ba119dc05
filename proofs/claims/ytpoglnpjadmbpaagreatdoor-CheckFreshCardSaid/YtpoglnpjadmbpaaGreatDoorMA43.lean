/- Part of the proofs of CheckFresh, FsCut, FsHoles: the texts FsC, Filed1, Filed2, Filed3, Filed4, Fs9, FsK, Filed5, HolesLaw. -/
import Derived.Test.YtpoglnpjadmbpaaGreatDoorMA42
import Derived.Lib.SlBytesConst
set_option maxHeartbeats 16000000
namespace Go.Proofs.YtpoglnpjadmbpaaGreatDoor
open Go.RowKit
def qev (old Dt : List Int) (p k : Nat) : Nat → List Int
 | 0 => old
 | i + 1 => if p ≤ 64 * k + i ∧ 64 * k + i < p + Dt.length then (qev old Dt p k i).set i (Dt.getD (64 * k + i - p) 0) else qev old Dt p k i
theorem qhq (old Dt : List Int) (p k : Nat) : ∀ i, (qev old Dt p k i).length = old.length
 | 0 => rfl
 | i + 1 => by
  unfold qev
  split
  ·rw [List.length_set]; exact qhq old Dt p k i
  ·exact qhq old Dt p k i
def fwrE (s : Fs) (x : Tx) (Dt : List Int) (p k0 : Nat) (st : Fw) : Nat → Option Fw
 | 0 => some st
 | j + 1 => (fwrE s x Dt p k0 st j).bind fun y => (ownE y.fo s.k (y.P.getD (k0 + j) 0)).map fun q => ⟨q.2, putZ y.put (q.1 : Int) (qev (qck { x with fo := y.fo, put := y.put } s y.P (k0 + j)) Dt p (k0 + j) 64), y.P.set (k0 + j) (q.1 : Int)⟩
theorem qqg {s : Fs} {x : Tx} {Dt : List Int} {p k0 : Nat} {st : Fw} : ∀ {i : Nat} {y : Fw}, fwrE s x Dt p k0 st i = some y → y.P.length = st.P.length ∧ y.put.length ≤ st.put.length + i
 | 0, y, h => by simp only [fwrE, Option.some.injEq] at h; subst h; exact ⟨rfl, Nat.le_refl _⟩
 | i + 1, y, h => by
  unfold fwrE at h
  cases h1 : fwrE s x Dt p k0 st i with
  | none => rw [h1] at h; cases h
  | some z =>
   rw [h1] at h
   simp only [Option.bind_some] at h
   cases h2 : ownE z.fo s.k (z.P.getD (k0 + i) 0) with
   | none => rw [h2] at h; cases h
   | some q =>
    rw [h2] at h
    simp only [Option.map_some, Option.some.injEq] at h
    subst h
    obtain ⟨a, b⟩ := qqg h1
    refine ⟨by simpa using a, ?_⟩
    have := qeq (q.1 : Int) (qev (qck { x with fo := z.fo, put := z.put } s z.P (k0 + i)) Dt p (k0 + i) 64) z.put
    show (putZ z.put (q.1 : Int) _).length ≤ _
    omega
theorem yboc {f : Fo} {k : Nat} {p : Int} {q : Nat × Fo} (h : ownE f k p = some q) (hs : qcj f) : qcj q.2 := by
 unfold ownE at h
 split at h
 ·cases hf : qtx f k with
  | none => rw [hf] at h; cases h
  | some n => rw [hf] at h; simp only [Option.map_some, Option.some.injEq] at h; subst h; exact hs.use n
 ·split at h
  ·simp only [Option.some.injEq] at h; subst h; exact hs
  ·cases h
theorem qzq {s : Fs} {x : Tx} {Dt : List Int} {p k0 : Nat} {st : Fw} (hs : qcj st.fo) : ∀ {i : Nat} {y : Fw}, fwrE s x Dt p k0 st i = some y → qcj y.fo
 | 0, y, h => by simp only [fwrE, Option.some.injEq] at h; subst h; exact hs
 | i + 1, y, h => by
  unfold fwrE at h
  cases h1 : fwrE s x Dt p k0 st i with
  | none => rw [h1] at h; cases h
  | some z =>
   rw [h1] at h
   simp only [Option.bind_some] at h
   cases h2 : ownE z.fo s.k (z.P.getD (k0 + i) 0) with
   | none => rw [h2] at h; cases h
   | some q =>
    rw [h2] at h
    simp only [Option.map_some, Option.some.injEq] at h
    subst h
    exact yboc h2 (qzq hs h1)
theorem ybdi {s : Fs} {x : Tx} {Dt : List Int} {p k0 : Nat} {st : Fw} {n : Nat} {y : Fw} (h : fwrE s x Dt p k0 st n = some y) : ∀ i, i ≤ n → ∃ z, fwrE s x Dt p k0 st i = some z := by
 induction n generalizing y with
 | zero =>
  intro i hi
  obtain rfl : i = 0 := by omega
  exact ⟨_, h⟩
 | succ n ih =>
  intro i hi
  by_cases he : i = n + 1
  ·subst he; exact ⟨_, h⟩
  ·unfold fwrE at h
   cases h1 : fwrE s x Dt p k0 st n with
   | none => rw [h1] at h; cases h
   | some z => exact ih h1 i (by omega)
theorem ybfs {s : Fs} {x : Tx} {Dt : List Int} {p k0 : Nat} {st : Fw} (hp : qgp st.P s.k) : ∀ {i : Nat} {y : Fw}, fwrE s x Dt p k0 st i = some y → qgp y.P s.k
 | 0, y, h => by simp only [fwrE, Option.some.injEq] at h; subst h; exact hp
 | i + 1, y, h => by
  unfold fwrE at h
  cases h1 : fwrE s x Dt p k0 st i with
  | none => rw [h1] at h; cases h
  | some z =>
   rw [h1] at h
   simp only [Option.bind_some] at h
   cases h2 : ownE z.fo s.k (z.P.getD (k0 + i) 0) with
   | none => rw [h2] at h; cases h
   | some q =>
    rw [h2] at h
    simp only [Option.map_some, Option.some.injEq] at h
    subst h
    have hz := ybfs hp h1
    intro r hr
    rcases List.mem_or_eq_of_mem_set hr with hr | rfl
    ·exact hz r hr
    ·unfold ownE at h2
     split at h2
     ·cases hf : qtx z.fo s.k with
      | none => rw [hf] at h2; cases h2
      | some n =>
       rw [hf] at h2
       simp only [Option.map_some, Option.some.injEq] at h2
       subst h2
       have := (ybfo hf).2.1
       show (0 : Int) ≤ (n : Int) ∧ (n : Int) < (s.k : Int)
       omega
     ·next h0 =>
      split at h2
      ·simp only [Option.some.injEq] at h2
       subst h2
       by_cases hi : k0 + i < z.P.length
       ·have h3 := hz _ (List.getElem_mem hi)
        have e : z.P.getD (k0 + i) 0 = z.P[k0 + i] := by rw [List.getD_eq_getElem?_getD, List.getElem?_eq_getElem hi]; rfl
        show (0 : Int) ≤ ((z.P.getD (k0 + i) 0).toNat : Int) ∧ _
        rw [e]
        omega
       ·exact absurd (by rw [List.getD_eq_getElem?_getD, List.getElem?_eq_none (by omega)]; rfl) h0
      ·cases h2
theorem quj {w : World} {B : Nat} {F F1 T : Nat → Prop} {gt gf : Nat} {fp : Value} {x : Tx} {s : Fs} {a : Addr} {B0 : Nat} (h : TxAt w B F gt fp x T) (hf : FsAt w gf s F1 B0 a) (P : List Int) (k : Nat) (hP : qgp P s.k) : (qck x s P k).length = 64 := by
 unfold qck
 split
 ·simp
 ·next h0 =>
  by_cases hk : k < P.length
  ·have e : P.getD k 0 = P[k] := by rw [List.getD_eq_getElem?_getD, List.getElem?_eq_getElem hk]; rfl
   have := hP _ (List.getElem_mem hk)
   rw [e]
   exact ybgu h hf _ (by omega)
  ·exact absurd (by rw [List.getD_eq_getElem?_getD, List.getElem?_eq_none (by omega)]; rfl) h0
theorem ybyy (cur : Array Value) (D : List Int) (n i : Nat) (x : Int) (ht : cur.toList.take n = u8s D) (_hi : i < n) : (cur.setIfInBounds i (.int .u8 x)).toList.take n = u8s (D.set i x) := by
 rw [Array.toList_setIfInBounds, List.take_set, ht]
 simp [u8s, List.map_set]
def qeu (s : Fs) (X1 : Pn) (y : Fw) : Tx := ⟨y.fo, s.rows, s.nodes.set 1 X1, [(2, .bool true)], y.put, [], false, 256⟩
structure WA (w3 : World) (gb : Nat) (X : Pn) (Pj : List Int) (q : Option Addr) (j c : Nat) (wq : World) : Prop where
 row : wq.heap[gb]? = some (.cells #[.int .i64 X.k, .int .i64 X.m, .int .i64 X.u, .int .i64 X.g, .int .i64 X.s, .int .i64 X.l, .int .i64 X.up, .slice q j c] 103 (0, 0))
 own : wq.ownsRow w3.heap.size 3 1 (.slice q j c) j (ints Pj)
 bel : qac (fun i => i = gb) w3 wq
set_option maxRecDepth 100000 in
theorem qwv {w : World} {gf : Nat} {s : Fs} {F : Nat → Prop} {B : Nat} {a : Addr} (h : FsAt w gf s F B a) (hB : B ≤ w.heap.size) (X : Pn) (hX : s.nodes[1]? = some X) (hk : X.k = 1) (hP : qgp X.P s.k) (hPl : X.P.length ≤ 8) (sN : Nat) (hs : X.s = (sN : Int)) (_hs5 : sN ≤ 512)
  (p : Nat) (v : Value) (Dt : List Int) (hv : qbp w v Dt) (hv0 : 0 < Dt.length) (hpd : p + Dt.length ≤ 512) (hn : qcj s.fo) (y : Fw)
  (hy : fwrE s (tx0 s) Dt p (p / 64) ⟨s.fo, [], X.P ++ List.replicate ((p + Dt.length + 63) / 64 - X.P.length) 0⟩ ((p + Dt.length - 1) / 64 + 1 - p / 64) = some y)
  (hrows : s.rows = []) (p0 : Nat) (hp0 : y.fo.nd 0 0 = (p0 : Int)) (hp1 : 0 < p0) (hp2 : p0 < 256) (hny : qcj y.fo) (X0 : Pn) (hX0 : s.nodes[0]? = some X0) (X1 : Pn) (hX1 : X1 = { X with P := y.P, s := ((max sN (p + Dt.length) : Nat) : Int) }) (hr0 : qfv X0 = 0) (hr1 : qfv X1 = 0) (hl0 : (qcf X0).length = 32) (hl1 : (qcf X1).length = 32)
  (hr : qbn (qde (qeu s X1 y) X0 X1).fo = 0) (hlen : s.todo.length + y.put.length ≤ 24) :
  Calls Tryz.prog 16 #[.pointer (some ⟨gf, 0, none⟩), .int .i64 2, .int .i64 (p : Int), v] w
   (fun e w' => e = .returned (.tuple #[.int .i64 (Dt.length : Int), .int .i64 0]) ∧ FsAt w' gf (qiq s (qde (qeu s X1 y) X0 X1)) F B a ∧ qac F w w') := by
 have H := Lib.hid h
 have hHF := qoo h 1 (by omega) X hX
 rw [hk, if_neg (by omega), if_pos rfl] at hHF
 have HFI : Hid (Calls Tryz.prog 47 #[.pointer (some ⟨gf, 0, none⟩), .int .i64 2] w (fun e w' => e = .returned (.int .i64 0) ∧ w = w')) := hHF
 have HBG := Lib.hid (qkq h)
 obtain ⟨L, HL⟩ : ∃ n, Hid (Dt.length = n) := ⟨_, rfl⟩
 obtain ⟨vp, vc, hvs⟩ := qdm hv.1 L HL.out
 subst hvs
 obtain ⟨_, ⟨h0, _⟩ | ⟨gv, ov, cv, hvv, hcv⟩⟩ := id hv.1
 ·omega
 injection hvv with e1 e2 e3
 subst e1 e3
 clear e2
 have hvw : gv < w.heap.size := block_lt_of_cell (hcv 0 _ (qcl Dt 0 (by omega)))
 have HDT : Hid (∀ (j : Nat) (hj : j < Dt.length), w.cell? ⟨gv, ov + j, none⟩ = some (.int .u8 Dt[j])) := fun j hj => hcv j _ (qcl Dt j hj)
 obtain ⟨K, HK⟩ : ∃ K, Hid ((p + Dt.length + 63) / 64 = K) := ⟨_, rfl⟩
 have HBK : Hid (∀ W : World, Calls Tryz.prog 50 #[.int .i64 ((p : Int) + (L : Int))] W fun e w' => e = .returned (.int .i64 (K : Int)) ∧ W = w') := fun W => by
  have := qhr ((p : Int) + (L : Int)) W (by have := HL.out; omega) (by have := HL.out; omega)
  have e : qbq ((p : Int) + (L : Int)) = (K : Int) := by unfold qbq; rw [← HK.out, ← HL.out]; split <;> omega
  rw [e] at this
  exact this
 rw [HK.out, HL.out] at hy
 rw [HL.out] at hv0 hpd hX1 ⊢
 have hK8 : K ≤ 8 := by rw [← HK.out, HL.out]; omega
 obtain ⟨k0, Hk0⟩ : ∃ k, Hid (p / 64 = k) := ⟨_, rfl⟩
 obtain ⟨k1, Hk1⟩ : ∃ k, Hid ((p + L - 1) / 64 = k) := ⟨_, rfl⟩
 rw [Hk0.out, Hk1.out] at hy
 have HKK : Hid (k0 ≤ k1 ∧ k1 < K) := by constructor <;> (have h1 := Hk0.out; have h2 := Hk1.out; have h3 := HK.out; rw [HL.out] at h3; omega)
 have HY := Lib.hid hy
 have HND := Lib.hid (fun (W : World) (gt : Nat) (T : Nat → Prop) (hT : TxAt W w.heap.size F gt (.pointer (some ⟨gf, 0, none⟩)) (tx0 s) T) => qtl hT 1 (by omega) X hX)
 have HNS := Lib.hid hn
 have HPI := Lib.hid hP
 have HBW := Lib.hid hB
 have hlen32 := h.len
 have HEND : Hid (∀ (W : World) (gt : Nat) (T : Nat → Prop), Below w.heap.size w W → TxAt W w.heap.size F gt (.pointer (some ⟨gf, 0, none⟩)) (qeu s X1 y) T →
   Calls Tryz.prog 54 #[.pointer (some ⟨gt, 0, none⟩)] W
    (fun e w' => e = .returned (.int .i64 0) ∧ FsAt w' gf (qiq s (qde (qeu s X1 y) X0 X1)) F B a ∧ qac F w w')) := fun W gt T hW hT => by
  refine ybpy h hW hT (fun _ hi => hi) hrows rfl hny p0 hp0 hp1 hp2 false true rfl rfl rfl (fun k h1 h2 => ?_) X0 X1 ?_ ?_ hr0 hr1 hl0 hl1 (fun p hp => by cases hp) hr (by show qdg s.rows = 0; rw [hrows]; rfl) hB (by have := h.k0; omega) hlen
  ·constructor
   ·show getZ [((2 : Int), Value.bool true)] _ = none
    unfold getZ; rw [if_neg (by omega)]; rfl
   ·show getZ [((2 : Int), Value.bool true)] _ = none
    unfold getZ; rw [if_neg (by omega)]; rfl
  ·show (s.nodes.set 1 _)[0]? = _
   rw [List.getElem?_set_ne (by omega)]; exact hX0
  ·show (s.nodes.set 1 _)[1]? = _
   rw [List.getElem?_set_self (by omega)]
 have HX1 := Lib.hid hX1
 have p1 : decide ((p : Int) < 0) = false := decide_eq_false (by omega)
 have p2 : ¬ ((p : Int) < 0) := by omega
 have p3 : decide ((512 : Int) < (L : Int)) = false := decide_eq_false (by omega)
 have p4 : ¬ ((512 : Int) < (L : Int)) := by omega
 have p5 : IntKind.i64.wrap (512 - (L : Int)) = 512 - (L : Int) := IntWalk.i64_in _ (by omega)
 have p6 : decide (512 - (L : Int) < (p : Int)) = false := decide_eq_false (by omega)
 have p7 : ¬ (512 - (L : Int) < (p : Int)) := by omega
 have p8 : ((L : Int) == 0) = false := by simp; omega
 have p9 : ¬ L = 0 := by omega
 have pE : IntKind.i64.wrap ((p : Int) + (L : Int)) = (p : Int) + (L : Int) := IntWalk.i64_in _ (by omega)
 have HKX := Lib.hid hk
 have HSX := Lib.hid hs
 clear hk hs h hHF hB hX hP hv hn hy hrows hp0 hp1 hp2 hny hX0 hX1 hr0 hr1 hl0 hl1 hr hlen hcv hlen32
 go_enter Tryz.func16, Tryz.ntmps16
 go_wp2_with fail
 refine HFI.out.mono ?_
 rintro e w1 ⟨rfl, rfl⟩
 go_wp2_with fail
 refine HBG.out.mono ?_
 rintro e w1 ⟨gt, T, rfl, hb1, hT⟩
 have HB1 := Lib.hid hb1
 have HT1 := Lib.hid hT
 have HND1 := Lib.hid (HND.out w1 gt T hT)
 clear hb1 hT
 go_wp2_with fail
 refine HND1.out.mono ?_
 rintro e w2 ⟨q, n, c, rfl, hnv, hb2⟩
 have HB2 := Lib.hid hb2
 have HNV := Lib.hid hnv
 clear hb2 hnv
 obtain ⟨gb, Hgb⟩ : ∃ x, Hid (w2.heap.size = x) := ⟨_, rfl⟩
 have HB3 : Hid (Below w1.heap.size w1 (w2.alloc (.cells #[.int .i64 X.k, .int .i64 X.m, .int .i64 X.u, .int .i64 X.g, .int .i64 X.s, .int .i64 X.l, .int .i64 X.up, .slice q n c] 103))) := HB2.out.alloc HB2.out.size _
 have HR3 : Hid ((w2.alloc (.cells #[.int .i64 X.k, .int .i64 X.m, .int .i64 X.u, .int .i64 X.g, .int .i64 X.s, .int .i64 X.l, .int .i64 X.up, .slice q n c] 103)).heap[gb]? = some (.cells #[.int .i64 X.k, .int .i64 X.m, .int .i64 X.u, .int .i64 X.g, .int .i64 X.s, .int .i64 X.l, .int .i64 X.up, .slice q n c] 103 (0, 0))) := by rw [← Hgb.out]; exact heap_alloc_new _ _
 have HP3 : Hid (qan (w2.alloc (.cells #[.int .i64 X.k, .int .i64 X.m, .int .i64 X.u, .int .i64 X.g, .int .i64 X.s, .int .i64 X.l, .int .i64 X.up, .slice q n c] 103)) (.slice q n c) X.P) := qah.below HNV.out.now ((Below.refl _ _).alloc (Nat.le_refl _) _)
 have hgw : w1.heap.size ≤ gb := by rw [← Hgb.out]; exact HB2.out.size
 have HGW := Lib.hid hgw
 have HT3 : Hid (TxAt (w2.alloc (.cells #[.int .i64 X.k, .int .i64 X.m, .int .i64 X.u, .int .i64 X.g, .int .i64 X.s, .int .i64 X.l, .int .i64 X.up, .slice q n c] 103)) w.heap.size (fun i => F i ∨ i = gb) gt (.pointer (some ⟨gf, 0, none⟩)) (tx0 s) T) := HT1.out.grow HB3.out gb hgw
 have c7 : (w2.alloc (.cells #[.int .i64 X.k, .int .i64 X.m, .int .i64 X.u, .int .i64 X.g, .int .i64 X.s, .int .i64 X.l, .int .i64 X.up, .slice q n c] 103)).cell? ⟨w2.heap.size, 7, none⟩ = some (.slice q n c) := (qam (heap_alloc_new _ _)).2.2.2.2.2.2.2
 go_wp2_with fail
 rw [Hgb.out]
 rw [Hgb.out] at c7
 generalize (w2.alloc (.cells #[.int .i64 X.k, .int .i64 X.m, .int .i64 X.u, .int .i64 X.g, .int .i64 X.s, .int .i64 X.l, .int .i64 X.up, .slice q n c] 103)) = w3 at *
 refine (qgh (.slice q n c) X.P w3 HP3.out (by omega)).mono ?_
 rintro e w4 ⟨v4, rfl, hO4, hb4, _⟩
 obtain ⟨q4, c4, hv4, _⟩ := qar hO4
 subst hv4
 obtain ⟨m, Hm⟩ : ∃ m, Hid (X.P.length = m) := ⟨_, rfl⟩
 rw [Hm.out] at hO4 hPl ⊢
 have HR4 := Lib.hid (qaa hb4 HR3.out)
 have HT4 := Lib.hid (HT3.out.below hb4)
 have z7 : w4.frozen? ⟨gb, 7, none⟩ = false := frozen_of_row _ _ _ _ _ HR4.out
 have c7' : w4.cell? ⟨gb, 7, none⟩ = some (.slice q n c) := (qam HR4.out).2.2.2.2.2.2.2
 have HB4 : Hid (Below w1.heap.size w1 w4) := Below.step HB3.out hb4
 have HO4 := Lib.hid hO4
 have HB34 := Lib.hid hb4
 have HG3 : Hid (gb < w3.heap.size ∧ ¬ T gb) := ⟨qab HR3.out, fun hc => by have := HT1.out.fin gb hc; have := HGW.out; omega⟩
 clear hO4 hb4 c7
 have HWA0 : Hid (WA w3 gb X X.P q4 m c4 (w4.setCell ⟨gb, 7, none⟩ (.slice q4 m c4))) := by
  have hk7 : qac (fun i => i = gb) w4 (w4.setCell ⟨gb, 7, none⟩ (.slice q4 m c4)) := qac.setCell (F := fun i => i = gb) (p := ⟨gb, 7, none⟩) rfl _
  refine ⟨heap_setCell_same _ _ 7 _ _ _ HR4.out, qav HO4.out fun b hb => hk7.block b (HO4.out.lt b hb).2 (fun hc => ?_), ?_⟩
  ·have h1 := (HO4.out.lt b hb).1
   rw [hc] at h1
   have := HG3.out.1
   omega
  ·exact (qac.of_below HB34.out).step hk7
 generalize HW5 : w4.setCell ⟨gb, 7, none⟩ (.slice q4 m c4) = w5 at *
 go_wp2
 go_loopw [55] (fun _ wq => ∃ (j : Nat) (q' : Option Addr) (c' : Nat), m ≤ j ∧ j ≤ max m K ∧ Hid (WA w3 gb X (X.P ++ List.replicate (j - m) 0) q' j c' wq)) (fun _ wq => 100 - lenV ((wq.cell? ⟨gb, 7, none⟩).getD undef))
 case atStart => exact ⟨m, q4, c4, Nat.le_refl _, by omega, by rw [Nat.sub_self, List.replicate_zero, List.append_nil]; exact HWA0⟩
 case round =>
  obtain ⟨j, qj, cj, hj1, hj2, HWJ⟩ := hrel
  have k7 := cell_regrown (qam HWJ.out.row).2.2.2.2.2.2.2
  go_wp2_with fail
  refine wp_region_quiet_below (by kernel_rfl) (by kernel_rfl) ?_
  repeat (first
   | go_big_quiet_skip
   | (refine qbh 50 #[.tmp 58] #[3] rfl rfl (fun _ _ => by kernel_rfl) #[.int .i64 ((p : Int) + (L : Int))] (by kernel_rfl) (.int .i64 (K : Int)) (fun _ _ => qbu) (fun w' _ => (HBK.out w').mono fun e w2 ⟨he, hw2⟩ => ⟨he, hw2 ▸ Below.refl _ _⟩) ?_; simp only [Act.put, List.setIfInBounds_toArray, List.set_cons_zero, List.set_cons_succ])
   | (go_big_quiet_want; go_big_quiet_op; go_big_quiet_on))
  refine wpQuiet_nil ?_
  intro wz hwz
  have HBZ := Lib.hid (qaq hwz)
  have HWZ : Hid (WA w3 gb X (X.P ++ List.replicate (j - m) 0) qj j cj wz) := ⟨qaa HBZ.out HWJ.out.row, qap HWJ.out.own HBZ.out, HWJ.out.bel.step (qac.of_below HBZ.out)⟩
  obtain ⟨cz0, cz1, cz2, cz3, cz4, cz5, cz6, cz7⟩ := qam HWZ.out.row
  have HC7 := Lib.hid (qam HWJ.out.row).2.2.2.2.2.2.2
  clear k7 hwz HWJ HBZ
  have HGZ : Hid (gb < wz.heap.size) := qab HWZ.out.row
  by_cases hjK : j < K
  ·have hjK2 : (j : Int) < (K : Int) := by omega
   obtain ⟨i0, hi0, hz0, hz1, hz2⟩ := info_parts qku
   have HI0 := Lib.hid hi0
   have HIZ := Lib.hid hz0
   have HI1 := Lib.hid hz1
   have HI2 := Lib.hid hz2
   clear hi0 hz0 hz1 hz2
   have hjm : (ints (X.P ++ List.replicate (j - m) 0)) ++ [Value.int .i64 0] = ints (X.P ++ List.replicate (j + 1 - m) 0) := by
    rw [show j + 1 - m = (j - m) + 1 by omega, List.replicate_succ', ← List.append_assoc]
    simp [ints]
   have HJM := Lib.hid hjm
   have HOA := Lib.hid (fun o => qap HWZ.out.own ((Below.refl wz.heap.size wz).alloc (Nat.le_refl _) o))
   have HSX2 : Hid (w3.heap.size ≤ wz.heap.size) := HWZ.out.bel.size
   have HGO : Hid (∀ b, (Value.slice qj j cj).ownBlock = some b → w3.heap.size ≤ b) := fun b hb => (HWZ.out.own.lt b hb).1
   have HGR : Hid (∀ (w6 : World) (o : Obj), (wz.alloc o).grownBy w6 (Value.slice qj j cj).ownBlock → w6.heap[gb]? = some (.cells #[.int .i64 X.k, .int .i64 X.m, .int .i64 X.u, .int .i64 X.g, .int .i64 X.s, .int .i64 X.l, .int .i64 X.up, .slice qj j cj] 103 (0, 0)) ∧ qac (fun i => i = gb) w3 w6) := fun w6 o hg => by
    refine ⟨?_, ?_⟩
    ·rw [hg.block gb (by have := HGZ.out; simp; omega) (fun hc => by have := HGO.out gb hc.symm; have := HG3.out.1; omega), heap_alloc_old wz o HGZ.out]
     exact HWZ.out.row
    ·exact (HWZ.out.bel.step (qac.of_below ((Below.refl _ _).alloc (Nat.le_refl _) o))).trans (qac.grown (F := fun r => w3.heap.size ≤ r) hg (fun r hr => HGO.out r hr)) (fun i hi => Or.inr hi)
   clear hjm
   go_wp2_with (at_builtin; refine wpList_append_own _ rfl _ _ 32 rfl w3.heap.size 3 i0 (.int .i64 0) 1 8 qpg HI0.out HIZ.out HI1.out HI2.out rfl (by decide) _ _ _ rfl (HOA.out _) ⟨wz.heap.size, 0, none⟩ 1 1 [.int .i64 0] rfl rfl (World.news_of_block (cs := #[.int .i64 0]) (t := 3) (fr := (0, 0)) (heap_alloc_new wz _)) (by simp [Value.oneCell']) (by unfold maxLen; omega) (by omega) (by have := HSX2.out; simp; omega) ?_; intro v5 w6 hown hgrow _; obtain ⟨q5, c5, rfl, _⟩ := qar hown; have HR6 := Lib.hid (HGR.out w6 _ hgrow); have z6 : w6.frozen? ⟨gb, 7, none⟩ = false := frozen_of_row _ _ _ _ _ HR6.out.1; have c6 : w6.cell? ⟨gb, 7, none⟩ = some (.slice qj j cj) := (qam HR6.out.1).2.2.2.2.2.2.2; have HO6 : Hid (w6.ownsRow w3.heap.size 3 1 (.slice q5 (j + 1) c5) (j + 1) (ints (X.P ++ List.replicate (j + 1 - m) 0))) := (by show _; rw [← HJM.out]; exact hown); clear hown hgrow)
   have HWN : Hid (WA w3 gb X (X.P ++ List.replicate (j + 1 - m) 0) q5 (j + 1) c5 (w6.setCell ⟨gb, 7, none⟩ (.slice q5 (j + 1) c5))) := by
    have hk7 : qac (fun i => i = gb) w6 (w6.setCell ⟨gb, 7, none⟩ (.slice q5 (j + 1) c5)) := qac.setCell (F := fun i => i = gb) (p := ⟨gb, 7, none⟩) rfl _
    refine ⟨heap_setCell_same _ _ 7 _ _ _ HR6.out.1, qav HO6.out fun b hb => hk7.block b (HO6.out.lt b hb).2 (fun hc => ?_), HR6.out.2.step hk7⟩
    have h1 := (HO6.out.lt b hb).1
    rw [hc] at h1
    have := HG3.out.1
    omega
   clear cz0 cz1 cz2 cz3 cz4 cz5 cz6 cz7
   go_wp2
   go_roundw
   case rel => exact ⟨j + 1, q5, c5, by omega, by omega, HWN⟩
   case measure =>
    rw [(qam HWN.out.row).2.2.2.2.2.2.2, HC7.out]
    simp [lenV]
    omega
  ·have hjK2 : ¬ (j : Int) < (K : Int) := by omega
   rw [HSX.out] at cz4
   obtain ⟨nD, HnD⟩ : ∃ n, Hid (max sN (p + L) = n) := ⟨_, rfl⟩
   have hmx : max (sN : Int) ((p : Int) + (L : Int)) = (nD : Int) := by have := HnD.out; omega
   have zz4 : wz.frozen? ⟨gb, 4, none⟩ = false := frozen_of_row _ _ _ _ _ HWZ.out.row
   go_wp2
   obtain ⟨n1, Hn1⟩ : ∃ n, Hid (k1 + 1 - k0 = n) := ⟨_, rfl⟩
   have hjM : K - m = j - m := by omega
   have HY2 : Hid (fwrE s (tx0 s) Dt p k0 ⟨s.fo, [], X.P ++ List.replicate (j - m) 0⟩ n1 = some y) := by
    have h1 := HY.out
    rw [Hm.out, hjM, Hn1.out] at h1
    exact h1
   have HP1 : Hid ((X.P ++ List.replicate (j - m) 0).length = j) := by show _ = _; rw [List.length_append, List.length_replicate, Hm.out]; omega
   have HPI1 : Hid (qgp (X.P ++ List.replicate (j - m) 0) s.k) := by
    intro r hr
    rcases List.mem_append.1 hr with hr | hr
    ·exact HPI.out r hr
    ·have := List.eq_of_mem_replicate hr
     have := H.out.k0
     omega
   have hj8 : j ≤ 8 := by omega
   have hKj : K ≤ j := by omega
   have HLF0 : Hid (LF w w1 (fun i => F i ∨ i = gb) T gt gf gb (tx0 s) X nD j ⟨s.fo, [], X.P ++ List.replicate (j - m) 0⟩ (wz.setCell ⟨gb, 4, none⟩ (.int .i64 (nD : Int)))) := by
    have hk8 : qac (fun i => i = gb) wz (wz.setCell ⟨gb, 4, none⟩ (.int .i64 (nD : Int))) := qac.setCell (F := fun i => i = gb) (p := ⟨gb, 4, none⟩) rfl _
    have hk9 := HWZ.out.bel.step hk8
    refine ⟨⟨T, qj, cj, HT3.out.local (Or.inr rfl) HG3.out.2 HR3.out (by decide) hk9, fun _ hi => Or.inl hi, fun _ hi => hi, HG3.out.2, heap_setCell_same _ _ 4 _ _ _ HWZ.out.row, ?_, fun b hb => ?_⟩, (qac.of_below HB3.out).trans hk9 fun i hi => Or.inr (by rw [hi]; exact HGW.out)⟩
    ·have h1 : qan wz (.slice qj j cj) (X.P ++ List.replicate (j - m) 0) := by
      have := qah.of_owns HWZ.out.own
      unfold qan
      rw [HP1.out]
      exact this
     exact qle h1 fun b hb hl => hk8.block b hl (fun hc => by
      have h2 := (HWZ.out.own.lt b hb).1
      rw [hc] at h2
      have := HG3.out.1
      omega)
    ·have h2 := (HWZ.out.own.lt b hb).1
     exact ⟨Nat.le_trans HB3.out.size h2, fun hc => by have := HT1.out.fin b hc; have := HB3.out.size; omega⟩
   clear cz0 cz1 cz2 cz3 cz4 cz5 cz6 cz7 zz4
   generalize wz.setCell ⟨gb, 4, none⟩ (.int .i64 (nD : Int)) = w8 at *
   go_loopw [14] (fun kv wq => ∃ (r : Nat) (yr : Fw), r ≤ n1 ∧ kv = .int .i64 ((k0 + r : Nat) : Int) ∧ Hid (fwrE s (tx0 s) Dt p k0 ⟨s.fo, [], X.P ++ List.replicate (j - m) 0⟩ r = some yr) ∧ Hid (LF w w1 (fun i => F i ∨ i = gb) T gt gf gb (tx0 s) X nD j yr wq)) (fun kv _ => 100 - (intOf kv).toNat)
   case atStart => exact ⟨0, _, Nat.zero_le _, congrArg (Value.int .i64) (by have := Hk0.out; omega), rfl, HLF0⟩
   case round =>
    obtain ⟨wr0, HWR0⟩ : ∃ x, x = wr := ⟨_, rfl⟩
    obtain ⟨r, yr, hrn, rfl, HYR, HLR⟩ := hrel
    obtain ⟨kk, Hkk⟩ : ∃ n, Hid (k0 + r = n) := ⟨_, rfl⟩
    rw [Hkk.out]
    have iE : IntKind.i64.wrap ((p : Int) + (L : Int) - 1) = (p : Int) + (L : Int) - 1 := IntWalk.i64_in _ (by omega)
    by_cases hrl : r < n1
    ·have hkk8 : kk < 8 := by have h1 := Hkk.out; have h2 := Hn1.out; have h3 := HKK.out; omega
     have hkle : (kk : Int) ≤ ((p : Int) + (L : Int) - 1) / 64 := by have h1 := Hkk.out; have h2 := Hn1.out; have h3 := Hk1.out; omega
     have hkled : decide ((kk : Int) ≤ ((p : Int) + (L : Int) - 1) / 64) = true := decide_eq_true hkle
     obtain ⟨⟨T', q', c', hT', t1, t2, t3, hR', hP', hbl'⟩, hkp⟩ := HLR.out
     obtain ⟨y1, hy1⟩ := ybdi HY2.out (r + 1) (by omega)
     have hst := hy1
     unfold fwrE at hst
     rw [HYR.out, Option.bind_some] at hst
     obtain ⟨⟨p', fo'⟩, hown, hy1e⟩ := Option.map_eq_some_iff.1 hst
     have hPlr : yr.P.length = j := by rw [(qqg HYR.out).1]; exact HP1.out
     have hkP : kk < yr.P.length := by have h1 := HKK.out; have h2 := Hkk.out; have h3 := Hn1.out; omega
     rw [Hkk.out] at hown hy1e
     have hgd : yr.P.getD kk 0 = yr.P[kk] := by rw [List.getD_eq_getElem?_getD, List.getElem?_eq_getElem hkP]; rfl
     rw [hgd] at hown
     have hsn : qcj yr.fo := qzq HNS.out HYR.out
     obtain ⟨ho1, hp256, _⟩ := ybod (x := { tx0 s with fo := yr.fo, put := yr.put }) (s := s) hown hsn H.out.k1
     have hPr : qgp yr.P s.k := ybfs HPI1.out HYR.out
     have hbwr : Below w.heap.size w wr := HB1.out.trans (hkp.to_below HT1.out.new HB1.out.size)
     have hfr := H.out.below hbwr
     have HBL := Lib.hid (qxz hT' hfr { X with P := yr.P, s := (nD : Int) } q' j c' hP' kk hkk8 hPr (by rw [hPlr]; exact hj8))
     have HBLL : Hid ((qck { tx0 s with fo := yr.fo, put := yr.put } s yr.P kk).length = 64) := quj hT' hfr yr.P kk hPr
     obtain ⟨D0, HD0⟩ : ∃ D, Hid (qck { tx0 s with fo := yr.fo, put := yr.put } s yr.P kk = D) := ⟨_, rfl⟩
     rw [show (({ X with P := yr.P, s := (nD : Int) } : Pn).P) = yr.P from rfl] at HBL
     rw [HD0.out] at HBL HBLL hy1e
     obtain ⟨r0, r1, r2, r3, r4, r5, r6, r7⟩ := qam hR'
     have HTR := Lib.hid hT'
     have HRR := Lib.hid hR'
     have HPR := Lib.hid hP'
     have HBLK := Lib.hid hbl'
     have HT12 : Hid ((∀ i, T' i → T i ∨ w1.heap.size ≤ i) ∧ (∀ i, T i → T' i) ∧ ¬ T' gb) := ⟨t1, t2, t3⟩
     have HKP := Lib.hid hkp
     have HBWR := Lib.hid hbwr
     have HO1 := Lib.hid ho1
     have HY1 : Hid (fwrE s (tx0 s) Dt p k0 ⟨s.fo, [], X.P ++ List.replicate (j - m) 0⟩ (r + 1) = some ⟨fo', putZ yr.put (p' : Int) (qev D0 Dt p kk 64), yr.P.set kk (p' : Int)⟩) := by
      show _ = _
      rw [hy1, ← hy1e]
     have HPUT : Hid (yr.put.length < 900) := by
      have h1 := (qqg HYR.out).2
      have h2 := Hn1.out
      have h3 := HKK.out
      show yr.put.length < 900
      have h4 : yr.put.length ≤ 0 + r := h1
      omega
     clear hT' t1 t2 t3 hR' hP' hbl' hkp hy1 hst hown hy1e hgd hsn ho1 hPr hbwr hfr
     go_wp2_with fail
     refine HBL.out.mono ?_
     rintro e w9 ⟨v9, rfl, g, cap, cur, hvg, hg9, hh9, ht9, hb9⟩
     rw [HBLL.out] at hvg ht9 hg9
     subst hvg
     have HG9 : Hid (wr.heap.size ≤ g ∧ 64 ≤ cap) := hg9
     have HH9 := Lib.hid hh9
     have HT9 := Lib.hid ht9
     have HB9 := Lib.hid hb9
     rw [← HWR0] at HB9 HG9 HTR HRR HPR HKP HBWR
     clear hg9 hh9 ht9 hb9 r0 r1 r2 r3 r4 r5 r6 r7
     go_wp2
     go_loopw [86] (fun iv wq => ∃ (i : Nat) (cu : Array Value), i ≤ 64 ∧ iv = .int .i64 i ∧ Hid (wq.heap[g]? = some (.cells cu 5 (0, 0)) ∧ cu.toList.take 64 = u8s (qev D0 Dt p kk i) ∧ cu.size = cur.size) ∧ Hid (Below wr0.heap.size wr0 wq)) (fun iv _ => 64 - (intOf iv).toNat)
     case atStart => exact ⟨0, cur, by omega, rfl, ⟨HH9.out, HT9.out, rfl⟩, HB9.out⟩
     case round =>
      obtain ⟨i, cu, hi64, rfl, HCU, HBQ⟩ := hrel
      have i1 : IntKind.i64.wrap (64 * (kk : Int)) = 64 * (kk : Int) := IntWalk.i64_in _ (by omega)
      have i2 : IntKind.i64.wrap (64 * (kk : Int) + (i : Int)) = 64 * (kk : Int) + (i : Int) := IntWalk.i64_in _ (by omega)
      by_cases hil : i < 64
      ·have hil2 : (i : Int) < 64 := by omega
       have hcs : i < cu.size := by
        have h1 := congrArg List.length HCU.out.2.1
        rw [List.length_take, qak, qhq, HBLL.out, Array.length_toList] at h1
        omega
       by_cases hpi : p ≤ 64 * kk + i ∧ 64 * kk + i < p + L
       ·obtain ⟨hp1', hp2'⟩ := hpi
        have e1 : decide ((p : Int) ≤ 64 * (kk : Int) + (i : Int)) = true := decide_eq_true (by omega)
        have e2 : (p : Int) ≤ 64 * (kk : Int) + (i : Int) := by omega
        have e3 : decide (64 * (kk : Int) + (i : Int) < (p : Int) + (L : Int)) = true := decide_eq_true (by omega)
        have e4 : 64 * (kk : Int) + (i : Int) < (p : Int) + (L : Int) := by omega
        obtain ⟨r', Hr'⟩ : ∃ r', Hid (64 * kk + i - p = r') := ⟨_, rfl⟩
        have hrL : r' < L := by have := Hr'.out; omega
        have hrD : r' < Dt.length := by rw [HL.out]; exact hrL
        have i3 : IntKind.i64.wrap (64 * (kk : Int) + (i : Int) - (p : Int)) = (r' : Int) := by rw [IntWalk.i64_in _ (by omega)]; have := Hr'.out; omega
        have cd : wr.cell? ⟨gv, ov + r', none⟩ = some (.int .u8 Dt[r']) := ((HBWR.out.trans (HBQ.out.mono HBWR.out.size)).cell (p := ⟨gv, ov + r', none⟩) hvw).trans (HDT.out r' hrD)
        have zg : wr.frozen? ⟨g, i, none⟩ = false := frozen_of_row _ _ _ _ _ HCU.out.1
        have cg : wr.cell? ⟨g, i, none⟩ = some cu[i] := (cell_of_row _ _ _ _ _ _ HCU.out.1).trans (Array.getElem?_eq_getElem hcs)
        obtain ⟨dd, Hdd⟩ : ∃ d, Hid (Dt[r']'hrD = d) := ⟨_, rfl⟩
        rw [Hdd.out] at cd
        have HCN : Hid ((wr.setCell ⟨g, i, none⟩ (.int .u8 dd)).heap[g]? = some (.cells (cu.setIfInBounds i (.int .u8 dd)) 5 (0, 0)) ∧ (cu.setIfInBounds i (.int .u8 dd)).toList.take 64 = u8s (qev D0 Dt p kk (i + 1)) ∧ (cu.setIfInBounds i (.int .u8 dd)).size = cur.size) := by
         refine ⟨heap_setCell_same _ _ i _ _ _ HCU.out.1, ?_, by rw [Array.size_setIfInBounds]; exact HCU.out.2.2⟩
         have e : qev D0 Dt p kk (i + 1) = (qev D0 Dt p kk i).set i dd := by
          conv => lhs; unfold qev
          rw [if_pos ⟨hp1', by rw [HL.out]; exact hp2'⟩, Hr'.out, List.getD_eq_getElem?_getD, List.getElem?_eq_getElem hrD, Option.getD_some, Hdd.out]
         rw [e]
         exact ybyy _ _ _ _ _ HCU.out.2.1 hil
        have HBN : Hid (Below wr0.heap.size wr0 (wr.setCell ⟨g, i, none⟩ (.int .u8 dd))) := HBQ.out.setCell (p := ⟨g, i, none⟩) HG9.out.1 _
        go_wp2
        go_roundw
        case rel => exact ⟨i + 1, _, by omega, by go_num, HCN, HBN⟩
        case measure => simp [intOf]; omega
       ·have HCN : Hid (wr.heap[g]? = some (.cells cu 5 (0, 0)) ∧ cu.toList.take 64 = u8s (qev D0 Dt p kk (i + 1)) ∧ cu.size = cur.size) := by
         refine ⟨HCU.out.1, ?_, HCU.out.2.2⟩
         have e : qev D0 Dt p kk (i + 1) = qev D0 Dt p kk i := by
          conv => lhs; unfold qev
          rw [if_neg (by rw [HL.out]; exact hpi)]
         rw [e]
         exact HCU.out.2.1
        by_cases hp1' : p ≤ 64 * kk + i
        ·have e1 : decide ((p : Int) ≤ 64 * (kk : Int) + (i : Int)) = true := decide_eq_true (by omega)
         have e2 : (p : Int) ≤ 64 * (kk : Int) + (i : Int) := by omega
         have e3 : decide (64 * (kk : Int) + (i : Int) < (p : Int) + (L : Int)) = false := decide_eq_false (by omega)
         have e4 : ¬ 64 * (kk : Int) + (i : Int) < (p : Int) + (L : Int) := by omega
         go_wp2
         go_roundw
         case rel => exact ⟨i + 1, _, by omega, by go_num, HCN, HBQ⟩
         case measure => simp [intOf]; omega
        ·have e1 : decide ((p : Int) ≤ 64 * (kk : Int) + (i : Int)) = false := decide_eq_false (by omega)
         have e2 : ¬ (p : Int) ≤ 64 * (kk : Int) + (i : Int) := by omega
         go_wp2
         go_roundw
         case rel => exact ⟨i + 1, _, by omega, by go_num, HCN, HBQ⟩
         case measure => simp [intOf]; omega
      ·obtain rfl : i = 64 := by omega
       have hS64 : qen wr w.heap.size (.slice (some ⟨g, 0, none⟩) 64 cap) (qev D0 Dt p kk 64) := ⟨g, cap, cu, rfl, by rw [qhq, HBLL.out], HG9.out.2, Nat.le_trans HBWR.out.size HG9.out.1, HCU.out.1, HCU.out.2.1⟩
       have hwq : Below w.heap.size w wr := HBWR.out.trans (HBQ.out.mono HBWR.out.size)
       have hTq := HTR.out.below HBQ.out
       have hgbT : gb < wr0.heap.size := qab HRR.out
       have HWR := Lib.hid (qya H.out hwq hTq gb { X with P := yr.P, s := (nD : Int) } q' j c' (qaa HBQ.out HRR.out) (qah.below HPR.out HBQ.out) ⟨Or.inr rfl, HT12.out.2.2, Nat.le_trans HB1.out.size HGW.out⟩ kk hkP (by rw [hPlr]; exact hj8) p' hp256 fo' HO1.out _ (qev D0 Dt p kk 64) hS64 (fun b hb hc => by
        injection hb with hb
        have hb' : g = b := hb
        have := HTR.out.fin b hc
        have := HG9.out.1
        omega) HPUT.out)
       clear hS64 hwq hTq i1 i2
       go_wp2_with fail
       refine HWR.out.mono ?_
       rintro e w10 ⟨rfl, T2, g2, c2, hT2, u1, u2, u3, u4, ⟨u5, u6, u7⟩, cu2, u8a, u9⟩
       have HLN : Hid (LF w w1 (fun i => F i ∨ i = gb) T gt gf gb (tx0 s) X nD j ⟨fo', putZ yr.put (p' : Int) (qev D0 Dt p kk 64), yr.P.set kk (p' : Int)⟩ w10) := by
        have hwW : w1.heap.size ≤ wr.heap.size := Nat.le_trans HKP.out.size HBQ.out.size
        have hpl2 : (yr.P.set kk (p' : Int)).length = j := by rw [List.length_set, hPlr]
        refine ⟨⟨T2, some ⟨g2, 0, none⟩, c2, hT2, fun r hr => ?_, fun r hr => u2 r (HT12.out.2.1 r hr), fun hc => ?_, ?_, ?_, fun b hb => ?_⟩, ?_⟩
        ·rcases u1 r hr with h1 | h1
         ·exact HT12.out.1 r h1
         ·exact Or.inr (Nat.le_trans hwW h1)
        ·rcases u1 gb hc with h1 | h1
         ·exact HT12.out.2.2 h1
         ·have := HBQ.out.size
          omega
        ·have := u4
         rw [show yr.P.length = j from hPlr] at this
         exact this
        ·refine ⟨by simp [ints, hPlr], Or.inr ⟨g2, 0, c2, by rw [hpl2], fun r u hr => ?_⟩⟩
         rw [Nat.zero_add, cell_of_row _ _ _ _ _ _ u8a, ← Array.getElem?_toList]
         have hrl : r < yr.P.length := by
          have := (List.getElem?_eq_some_iff.1 hr).1
          simpa [ints] using this
         have h3 : (cu2.toList.take yr.P.length)[r]? = some u := by rw [u9]; exact hr
         rwa [List.getElem?_take, if_pos hrl] at h3
        ·injection hb with hb
         have hb' : g2 = b := hb
         subst hb'
         exact ⟨Nat.le_trans hwW u5, u6⟩
        ·refine (HKP.out.step (qac.of_below HBQ.out)).trans u3 fun r hr => ?_
         rcases hr with hr | hr
         ·exact HT12.out.1 r hr
         ·exact Or.inr (by rw [hr]; exact HGW.out)
       clear hT2 u1 u2 u3 u4 u5 u6 u7 u8a u9
       go_wp2
       go_roundw
       case rel => exact ⟨r + 1, _, by omega, congrArg (Value.int .i64) (by have := Hkk.out; omega), HY1, HLN⟩
       case measure => simp [intOf]; omega
    ·obtain rfl : r = n1 := by omega
     have hyr : yr = y := by
      have h1 := HYR.out
      rw [HY2.out] at h1
      injection h1 with h1
      exact h1.symm
     subst hyr
     have hkle : ¬ (kk : Int) ≤ ((p : Int) + (L : Int) - 1) / 64 := by have h1 := Hkk.out; have h2 := Hn1.out; have h3 := Hk1.out; have h4 := HKK.out; omega
     have hkled : decide ((kk : Int) ≤ ((p : Int) + (L : Int) - 1) / 64) = false := decide_eq_false hkle
     obtain ⟨⟨T', q', c', hT', t1, t2, t3, hR', hP', hbl'⟩, hkp⟩ := HLR.out
     have hPlr : yr.P.length = j := by rw [(qqg HYR.out).1]; exact HP1.out
     have hnv : ybcf (fun r => F r ∨ T' r) { X with P := yr.P, s := (nD : Int) } wr q' j c' := qsk hP' fun b hb _ hG => by
      obtain ⟨b1, b2⟩ := hbl' b hb
      rcases hG with hG | hG
      ·have h1 := H.out.fin b hG
       have := HB1.out.size
       omega
      ·exact b2 hG
     have hTF : TxAt wr w.heap.size F gt (.pointer (some ⟨gf, 0, none⟩)) { tx0 s with fo := yr.fo, put := yr.put } T' := hT'.outer fun r _ hr => Or.inl hr
     have hset := ybhc hTF 1 (by omega) { X with P := yr.P, s := (nD : Int) } q' j c' hnv (by show (0 : Nat) < 900; omega)
     have HSE : Hid (Calls Tryz.prog 53 #[.pointer (some ⟨gt, 0, none⟩), .int .i64 2, .agg #[.int .i64 X.k, .int .i64 X.m, .int .i64 X.u, .int .i64 X.g, .int .i64 (nD : Int), .int .i64 X.l, .int .i64 X.up, .slice q' j c']] wr
       (fun e w' => e = .returned (.tuple #[]) ∧ qec w.heap.size F gt (.pointer (some ⟨gf, 0, none⟩)) (qeu s X1 yr) T' wr w')) := by
      have e : qeu s X1 yr = { { tx0 s with fo := yr.fo, put := yr.put } with nodes := ({ tx0 s with fo := yr.fo, put := yr.put } : Tx).nodes.set 1 { X with P := yr.P, s := (nD : Int) }, dirty := putZ ({ tx0 s with fo := yr.fo, put := yr.put } : Tx).dirty (((1 : Nat) : Int) + 1) (.bool true) } := by
       rw [HX1.out, HnD.out]
       rfl
      rw [e]
      exact hset
     obtain ⟨r0, r1, r2, r3, r4, r5, r6, r7⟩ := qam hR'
     have HTF := Lib.hid hTF
     have HBWR : Hid (Below w.heap.size w wr) := HB1.out.trans (hkp.to_below HT1.out.new HB1.out.size)
     clear hT' t1 t2 t3 hP' hbl' hkp hnv hTF hset
     go_wp2_with fail
     refine HSE.out.mono ?_
     rintro e w9 ⟨rfl, d9⟩
     have HO9 := Lib.hid (d9.old HBWR.out HTF.out)
     obtain ⟨T9, t9, _⟩ := d9
     have HE9 := Lib.hid (HEND.out w9 gt T9 HO9.out t9)
     clear t9 r0 r1 r2 r3 r4 r5 r6 r7
     go_wp2_with fail
     refine HE9.out.mono ?_
     rintro e w10 ⟨rfl, h10, k10⟩
     have H10 : Hid (FsAt w10 gf (qiq s (qde (qeu s X1 yr) X0 X1)) F B a ∧ qac F w w10) := ⟨h10, k10⟩
     clear h10 k10
     go_wp2
     go_ret2
     exact ⟨rfl, H10.out⟩
def nmA : ByteArray := ⟨#[97]⟩
def fD1 : List Int := layD (outD [] ++ [(nmA, 2)])
def fy1 : Fw := ⟨useF (qbe 16) 53, [(53, blkB fD1 0)], [53]⟩
def fs1 : Fs := ybnk (fs0 80) 420 0 0 qlj fD1 fy1
def fX0 : Pn := { qlj with P := [53], s := 16 }
def fX1 : Pn := { newN 420 0 0 with P := [54], s := 6 }
def fDt : List Int := [120, 121, 122]
def fy2 : Fw := ⟨useF fs1.fo 54, [(54, qev qdh fDt 3 0 64)], [54]⟩
def fs2 : Fs := qiq fs1 (qde (qeu fs1 fX1 fy2) fX0 fX1)
def fs3 : Fs := ybwd fs2
def fdk : Dk := ybfa fs3.dk []
def fdk' : Dk := qxk fdk
def fs4 : Fs := ⟨fdk', 80, seqO fdk.N, fs2.fo, [], fs2.nodes, []⟩
def padS (l : List Int) : List Int := l ++ List.replicate (64 - l.length) 0
def gS : Nat → List Int
 | 0 => padS [114, 105, 110, 103, 1, 80]
 | 1 => padS [37, 38, 39, 40, 41, 42, 43, 44, 45, 46, 47, 48, 49, 50, 51, 52]
 | 2 => padS [0, 0, 0, 0, 224, 255, 127]
 | 5 => padS [74, 1, 0, 0, 0, 4, 2, 37, 53, 54]
 | 6 => padS [0, 0, 0, 0, 224, 255, 127]
 | 7 => padS [2, 237, 1, 0, 0, 16, 0, 1, 1, 53, 1, 0, 0, 0, 0, 0, 0, 0, 0, 0, 0, 0, 0, 0, 0, 0, 0, 0, 0, 0, 0, 0, 1, 164, 1, 0, 0, 6, 0, 1, 0, 54, 1]
 | 8 => padS [97, 0, 0, 0, 0, 0, 0, 0, 0, 0, 0, 0, 0, 0, 2]
 | 9 => padS [0, 0, 0, 120, 121, 122]
 | 10 => padS [67, 1, 0, 0, 0, 197, 28, 60, 81]
 | 37 => padS [2, 237, 1, 0, 0, 16, 0, 1, 1, 53, 1, 0, 0, 0, 0, 0, 0, 0, 0, 0, 0, 0, 0, 0, 0, 0, 0, 0, 0, 0, 0, 0, 1, 164, 1, 0, 0, 6, 0, 1, 0, 54, 1]
 | 53 => padS [97, 0, 0, 0, 0, 0, 0, 0, 0, 0, 0, 0, 0, 0, 2]
 | 54 => padS [0, 0, 0, 120, 121, 122]
 | _ => qdh
def yble (l : List Int) : Bool := l.all fun x => decide (0 ≤ x) && decide (x ≤ 255)
theorem qin {l : List Int} (h : yble l = true) : ∀ x ∈ l, 0 ≤ x ∧ x ≤ 255 := fun x hx => by
 have := List.all_eq_true.1 h x hx
 simpa using this
def freeQ (l : List Wr) : Bool := l.all fun x => decide (x.1 < 80) && (decide (x.1 < 5) || decide (37 ≤ x.1))
theorem ybsg {l : List Wr} (h : freeQ l = true) : ∀ x ∈ l, ybcc x := fun x hx => by
 have := List.all_eq_true.1 h x hx
 simpa [ybcc] using this
def secsQ (N : List Int) (g : Nat → List Int) (k : Nat) : Bool := (List.range k).all fun n => decide (sec N n = g n)
theorem qnw {N : List Int} {g : Nat → List Int} {k : Nat} (h : secsQ N g k = true) : ∀ n, n < k → sec N n = g n := fun n hn => by
 have := List.all_eq_true.1 h n (List.mem_range.2 hn)
 simpa using this
set_option maxRecDepth 100000 in
theorem qhu : secsQ fdk'.N gS 80 = true := by kernel_rfl
set_option maxRecDepth 100000 in
theorem ybht : (decide (sec fdk.N 0 = qfs 80) && yble fdk.N && freeQ (ybdx fdk.N) && decide (seqO fdk.N = 1) && decide (fdk.W.length = 0)) = true := by kernel_rfl
theorem ybmn (n : Nat) (hn : n < 80) : ∀ x ∈ gS n, 0 ≤ x ∧ x ≤ 255 := by
 have h : ((List.range 80).all fun n => yble (gS n)) = true := by kernel_rfl
 exact qin (List.all_eq_true.1 h n (List.mem_range.2 hn))
section
variable {N N' : Nat → List Int} {k : Nat} {f : Fo}
theorem qmh.congr (h : qmh N f k) (hk : 4 ≤ k) (hN : ∀ n, n < k → N' n = N n) : qmh N' f k := by
 have e : qew N' = qew N := by unfold qew; rw [hN 1 (by omega), hN 2 (by omega), hN 3 (by omega)]
 exact ⟨by rw [e]; exact h.eq, by rw [e]; exact h.right, h.root, h.nds⟩
theorem qra {nd : Nat → Int} (h : ∀ j, j < 16 → 0 ≤ nd j ∧ nd j < (k : Int)) (hN : ∀ n, n < k → N' n = N n) (j : Nat) (hj : j < 32) : qhf N' nd j = qhf N nd j := by
 unfold qhf
 have := h (j / 2) (by omega)
 rw [hN _ (by omega)]
theorem qml.congr {nd : Nat → Int} (h : qml N nd k) (hN : ∀ n, n < k → N' n = N n) : qml N' nd k :=
 ⟨h.1, fun j hj => by rw [qra h.1 hN j hj]; exact h.2 j hj⟩
theorem qth {nd : Nat → Int} (h : ∀ j, j < 16 → 0 ≤ nd j ∧ nd j < (k : Int)) (hN : ∀ n, n < k → N' n = N n) : qfh N' nd 32 = qfh N nd 32 := by
 unfold qfh
 refine List.map_congr_left fun j hj => ?_
 rw [qra h hN j (by simpa using hj)]
theorem qjo {P : List Int} (h : ∀ p ∈ P, p = 0 ∨ (37 ≤ p ∧ p < (k : Int))) (hN : ∀ n, n < k → N' n = N n) (s : Int) : qbl N' P s = qbl N P s := by
 unfold qbl
 have e : P.flatMap (qcs N') = P.flatMap (qcs N) := by
  rw [List.flatMap_def, List.flatMap_def]
  congr 1
  refine List.map_congr_left fun p hp => ?_
  unfold qcs
  rcases h p hp with rfl | ⟨h1, h2⟩
  ·simp
  ·rw [hN _ (by omega)]
 rw [e]
theorem qlq.congr {t : Nat} {L : List Pn} (h : qlq N f t k L) (hN : ∀ n, n < k → N' n = N n) : qlq N' f t k L := by
 have e : qjj N' L = qjj N L := by
  unfold qjj
  refine qjo (fun p hp => ?_) hN _
  by_cases h0 : 0 < L.length
  ·rw [List.getD_eq_getElem?_getD, List.getElem?_eq_getElem h0, Option.getD_some] at hp
   exact h.own.pts _ (List.getElem_mem _) p hp
  ·rw [List.getD_eq_getElem?_getD, List.getElem?_eq_none (by omega)] at hp
   cases hp
 exact ⟨h.tree.congr hN, (qth h.tree.1 hN).trans h.eq, h.own, h.size, by rw [e]; exact h.list, by rw [e]; exact h.root, h.up, by rw [e]; exact h.names⟩
theorem qje.congr (h : qje N f k) (hk : 5 ≤ k) (hN : ∀ n, n < k → N' n = N n) : qje N' f k :=
 ⟨by rw [hN 0 (by omega)]; exact h.mark, h.load.congr (by omega) hN, by rw [hN 4 (by omega)]; exact h.quota, fun t ht hth => (h.tree t ht hth).imp fun _ h => h.congr hN⟩
end
def ybxn (bs : List Int) : Bool :=
 decide (bs.length = 32) && (decide ((midB bs).length = 16) && decide ((qfo (midB bs)).2 = 0) && decide (qee (ofE (qfo (midB bs)).1) = midB bs)) && decide (qal (bs.getD 0 0) (bs.getD 1 0 + bs.getD 2 0 * 256) (bs.getD 3 0) (bs.getD 4 0) (bs.getD 5 0 + bs.getD 6 0 * 256) (bs.getD 7 0) (bs.getD 8 0) (ptsN bs) = 0) &&
 decide (qgv (bs.getD 0 0) (bs.getD 1 0 + bs.getD 2 0 * 256) (bs.getD 3 0) (bs.getD 4 0) (bs.getD 5 0 + bs.getD 6 0 * 256) (bs.getD 7 0) (bs.getD 8 0) (ptsN bs) = bs)
theorem ybsp {bs : List Int} (h : ybxn bs = true) : qna bs := by
 unfold ybxn at h
 simp only [Bool.and_eq_true, decide_eq_true_eq] at h
 exact ⟨h.1.1.1, ⟨h.1.1.2.1.1, h.1.1.2.1.2, h.1.1.2.2⟩, h.1.2, h.2⟩
def ybxg (N : Nat → List Int) (f : Fo) (k : Nat) (L : List Pn) : Bool :=
 decide (N 0 = qfs k) && decide (qbn (foB (qew N)) = 0) && (qbd f 0 && !qbd f 1 && !qbd f 2 && !qbd f 3) &&
 ((List.range 16).all fun i => decide (37 ≤ f.nd 0 i) && decide (f.nd 0 i < (k : Int))) && decide (N 4 = qdh) &&
 ((List.range 32).all fun j => ybxn (qhf N (f.nd 0) j)) &&
 decide ((qji (f.nd 0) 16 ++ qey L).Nodup) && (L.all fun x => decide (x.P.length ≤ 8) && x.P.all fun p => decide (p = 0) || (decide (37 ≤ p) && decide (p < (k : Int)))) &&
 ((List.range 256).all fun m => decide (qdk (qji (f.nd 0) 16 ++ qey L) m = f.hs 0 m)) &&
 (decide (0 ≤ (L.getD 0 zN).s) && decide ((L.getD 0 zN).s ≤ 512)) && qdq (qjj N L) &&
 (decide (L.length = 32) && ((List.range 32).all fun i => decide ((L.getD i zN).k = 2) == decide (i = 0)) && ((outD (qjj N L)).all fun x => decide (1 < x.2) && decide (x.2 ≤ 32)) && decide ((outD (qjj N L)).length ≤ 32)) &&
 decide ((L.getD 0 zN).up = 1) && ((List.range 32).all fun i => decide ((L.getD i zN).l = qxg (outD (qjj N L)) i) && (!decide ((L.getD i zN).k = 0) || decide (qxg (outD (qjj N L)) i ≤ 0)))
theorem ybsa {N : Nat → List Int} {f : Fo} {k : Nat} {L : List Pn} (h : ybxg N f k L = true) (he : encF (foB (qew N)) = encF f) (hL : qfh N (f.nd 0) 32 = L) : qje N f k := by
 unfold ybxg at h
 simp only [Bool.and_eq_true, decide_eq_true_eq, List.all_eq_true, List.mem_range, Bool.not_eq_true', Bool.or_eq_true, beq_iff_eq, decide_eq_false_iff_not] at h
 obtain ⟨⟨⟨⟨⟨⟨⟨⟨⟨⟨⟨⟨⟨h1, h2⟩, ⟨⟨h3, h4⟩, h5⟩, h6⟩, h7⟩, h8⟩, h9⟩, h10⟩, h11⟩, h12⟩, h13⟩, h14⟩, ⟨⟨h15, h16⟩, h17⟩, h18⟩, h19⟩, h20⟩ := h
 refine ⟨h1, ⟨he, h2, h3, fun t i ht hi hth => ?_⟩, by rw [h8]; exact qpc, fun t ht hth => ?_⟩
 ·have : t = 0 ∨ t = 1 ∨ t = 2 ∨ t = 3 := by omega
  rcases this with rfl | rfl | rfl | rfl
  ·exact h7 i hi
  ·rw [h4] at hth; cases hth
  ·rw [h5] at hth; cases hth
  ·rw [h6] at hth; cases hth
 ·have : t = 0 ∨ t = 1 ∨ t = 2 ∨ t = 3 := by omega
  rcases this with rfl | rfl | rfl | rfl
  ·refine ⟨L, ⟨fun j hj => ?_, fun j hj => ybsp (h9 j hj)⟩, hL, ⟨h10, h7, fun x hx p hp => (h11 x hx).2 p hp, h12, fun x hx => (h11 x hx).1⟩, h13, h14, ⟨h15, fun i hi => ?_, h17, h18⟩, h19, fun i hi => ⟨(h20 i hi).1, fun hk => (h20 i hi).2.resolve_left (fun hc => hc hk)⟩⟩
   ·have := h7 j hj; omega
   ·have := h16 i (by omega)
    rw [List.getD_eq_getElem?_getD, List.getElem?_eq_getElem hi, Option.getD_some] at this
    simpa using this
  ·rw [h4] at hth; cases hth
  ·rw [h5] at hth; cases hth
  ·rw [h6] at hth; cases hth
set_option maxRecDepth 100000 in
theorem ybcw : ybxg gS fs2.fo 80 fs2.nodes = true := by kernel_rfl
set_option maxRecDepth 100000 in
theorem yblt : encF (foB (qew gS)) = encF fs2.fo := by kernel_rfl
set_option maxRecDepth 100000 in
theorem quq : qfh gS (fs2.fo.nd 0) 32 = fs2.nodes := by kernel_rfl
theorem qht : qje gS fs2.fo 80 := ybsa ybcw yblt quq
end Go.Proofs.YtpoglnpjadmbpaaGreatDoor
namespace Go.Proofs.YtpoglnpjadmbpaaGreatDoor
open Go.RowKit
theorem qsh {f : Fo} (e1 : qbd f 1 = false) (e2 : qbd f 2 = false) (e3 : qbd f 3 = false) : qcj f := fun k h1 h4 => by
 have : k = 1 ∨ k = 2 ∨ k = 3 := by omega
 rcases this with rfl | rfl | rfl
 ·exact e1
 ·exact e2
 ·exact e3
theorem qky : qcj (qbe 16) := qsh qjs.1 qjs.2.1 qjs.2.2
set_option maxRecDepth 100000 in
theorem qup : ybkn (fs0 80) nmA 420 0 0 qlj [] fD1 fy1 37 where
 hX := rfl
 hk := rfl
 hl := by decide
 hP := fun p hp => by cases hp
 hPl := by decide
 hs := by decide
 hnm := by kernel_rfl
 hD := by kernel_rfl
 hDB := fun x hx => by cases hx
 hok := by kernel_rfl
 hfd := by kernel_rfl
 hz := ⟨zN, by kernel_rfl, rfl⟩
 hput := by kernel_rfl
 hD' := by kernel_rfl
 hD5 := Nat.le_of_ble_eq_true (by kernel_rfl)
 hg := Nat.le_of_ble_eq_true (by kernel_rfl)
 hn := qky
 hy := by kernel_rfl
 hrows := rfl
 hp0 := by kernel_rfl
 hp1 := by decide
 hp2 := by decide
 hny := qky.use 53
 hr0 := by kernel_rfl
 hr1 := by kernel_rfl
 hl0 := by kernel_rfl
 hl1 := by kernel_rfl
 hr := by kernel_rfl
 hlen := Nat.le_of_ble_eq_true (by kernel_rfl)
theorem ybfp : fs1.nodes[0]? = some fX0 := by kernel_rfl
theorem fs1_n1 : fs1.nodes[1]? = some { fX1 with P := [], s := 0 } := by kernel_rfl
theorem fs2_n0 : fs2.nodes[0]? = some fX0 := by kernel_rfl
theorem ybvv : fs2.nodes[1]? = some fX1 := by kernel_rfl
theorem ybfq : fs2.todo.map (fun x => x.1) = [2, 37, 53, 54] := by kernel_rfl
theorem ybme : fs1.todo.length = 3 := by kernel_rfl
theorem ybdb : fwrE fs1 (tx0 fs1) fDt 3 0 ⟨fs1.fo, [], [] ++ List.replicate 1 0⟩ 1 = some fy2 := by kernel_rfl
theorem qjq : qcj fs1.fo := qsh (by kernel_rfl) (by kernel_rfl) (by kernel_rfl)
theorem yblu : qcj fy2.fo := qjq.use 54
theorem ybcz : qbn (qde (qeu fs1 fX1 fy2) fX0 fX1).fo = 0 := by kernel_rfl
theorem qps : qfv fX0 = 0 ∧ qfv fX1 = 0 ∧ (qcf fX0).length = 32 ∧ (qcf fX1).length = 32 := ⟨by kernel_rfl, by kernel_rfl, by kernel_rfl, by kernel_rfl⟩
theorem ybhw : fs1.k = 80 ∧ fs1.rows = [] ∧ fs2.k = 80 ∧ fs2.rows = [] ∧ fs2.sq = 0 := ⟨rfl, rfl, rfl, rfl, rfl⟩
theorem ybcv : qvz fs2 := by
 have h : ((List.range 80).all fun n => yble (secE fs2 n)) = true := by kernel_rfl
 exact fun n hn => qin (List.all_eq_true.1 h n (List.mem_range.2 hn))
theorem ybhu : ybqs (wrOf fs2.todo) where
 n := by
  have h : ((wrOf fs2.todo).all fun x => (decide (x.1 < 5) || decide (37 ≤ x.1)) && decide (x.1 < 80)) = true := by kernel_rfl
  intro x hx
  have := List.all_eq_true.1 h x hx
  simpa using this
 d := by
  have h : (wrOf fs2.todo).map (fun x => x.1) = [2, 37, 53, 54] := by kernel_rfl
  rw [h]; decide
 l := Nat.le_of_ble_eq_true (by kernel_rfl)
theorem ybcx : qgc (qbl (secE fs2) fX1.P fX1.s) 2 9 = [0, 120, 121, 122] := by kernel_rfl
theorem ybcy : qgc (qbl gS fX1.P fX1.s) 0 9 = [0, 0, 0, 120, 121, 122] := by kernel_rfl
theorem ybxf : fs2.dk.W.length = 0 := by kernel_rfl
theorem ybhx : qbl gS fX0.P fX0.s = fD1 := by kernel_rfl
theorem ybfi : qeb fD1 ∧ qdq fD1 = true ∧ (qli fD1 nmA).1 = 2 ∧ (qli fD1 nmA).2.2 = 0 := ⟨qin (by kernel_rfl), by kernel_rfl, by kernel_rfl, by kernel_rfl⟩
theorem qys (N : Nat → List Int) (P : List Int) (s : Int) : (qbl N P s).length ≤ s.toNat := by unfold qbl; rw [List.length_take]; omega
set_option maxRecDepth 100000 in
theorem yboo (v : Value) (D : List Int) (w : World) (h : qbp w v D) (hl : D.length ≤ 1000) (p n : Nat) (hn : n ≤ 512) (hn0 : 0 < n) (hp : p ≤ 1000000) :
  Calls Tryz.prog 56 #[v, .int .i64 (p : Int), .int .i64 (n : Int)] w (fun e w' => ∃ v', e = .returned v' ∧ qae w' v' (qgc D p n) ∧ (∀ b, v'.ownBlock = some b → w.heap.size ≤ b) ∧ Below w.heap.size w w') := by
 obtain ⟨N, HN⟩ : ∃ N, Hid (D.length = N) := ⟨_, rfl⟩
 obtain ⟨q, cp, rfl⟩ := qdm h.1 N HN.out
 have hcp : N ≤ cp := h.2 q N cp rfl
 have HH := Lib.hid h
 rw [HN.out] at hl
 clear h
 by_cases hpn : N ≤ p
 ·have d1 : decide ((N : Int) ≤ (p : Int)) = true := decide_eq_true (by omega)
  have d2 : (N : Int) ≤ (p : Int) := by omega
  have HE : Hid (qgc D p n = []) := by show _ = _; unfold qgc; rw [List.drop_eq_nil_of_le (by rw [HN.out]; exact hpn)]; simp
  go_enter Tryz.func56, Tryz.ntmps56
  go_wp2
  go_ret
  rw [HE.out]
  exact ⟨_, rfl, ⟨rfl, Or.inl ⟨rfl, _, _, rfl⟩⟩, fun b hb => (by cases hb), Below.refl _ _⟩
 ·have d1 : decide ((N : Int) ≤ (p : Int)) = false := decide_eq_false (by omega)
  have d2 : ¬ (N : Int) ≤ (p : Int) := by omega
  have i1 : IntKind.i64.wrap ((p : Int) + (n : Int)) = (p : Int) + (n : Int) := IntWalk.i64_in _ (by omega)
  obtain ⟨m, hm1, hm2⟩ : ∃ m : Nat, min N (p + n) = m ∧ (m ≤ N ∧ m ≤ p + n ∧ (m = N ∨ m = p + n)) := ⟨_, rfl, by omega⟩
  have hml : m - p = min n (N - p) := by omega
  rw [← hm1] at hml hm2
  have hml0 : 0 < min n (N - p) := by omega
  have hpm : p ≤ m := by omega
  have hmc : m ≤ cp := by omega
  obtain ⟨_, ⟨h0, _⟩ | ⟨g, o, cap, hv, hc⟩⟩ := id HH.out.1
  ·have := HN.out; omega
  injection hv with e1 e2 e3
  subst e1 e3
  clear e2
  have HCL := Lib.hid (qgr (.slice (some ⟨g, o + p, none⟩) (min N (p + n) - p) (cp - p)) (qgc D p n) w ⟨by rw [qak, Nat.mul_one], Or.inr ⟨g, o + p, cp - p, by unfold qgc; rw [List.length_take, List.length_drop, HN.out]; rw [hml], fun j x hx => by
   unfold qgc at hx
   rw [qci, List.getElem?_take] at hx
   split at hx
   ·rw [qea, List.getElem?_drop] at hx
    have := hc (p + j) x hx
    rwa [← Nat.add_assoc] at this
   ·cases hx⟩⟩ (by unfold qgc; rw [List.length_take, List.length_drop, HN.out]; omega) (by unfold qgc; rw [List.length_take, List.length_drop, HN.out]; omega))
  rw [show min N (p + n) = (min (N : Int) ((p : Int) + (n : Int))).toNat by omega] at HCL
  clear hm2 hml hml0 hc
  go_enter Tryz.func56, Tryz.ntmps56
  go_wp2_with fail
  refine HCL.out.mono ?_
  rintro e w1 ⟨v1, rfl, hv1⟩
  have HB := Lib.hid hv1.below
  have HA := Lib.hid hv1.at
  have HO : Hid (∀ b, v1.ownBlock = some b → w.heap.size ≤ b) := by
   obtain ⟨g1, c1, _, hv, hg, _⟩ := hv1
   intro b hb
   rw [hv] at hb
   have hb2 : g1 = b := by simpa [Value.ownBlock] using hb
   have := hg.1
   omega
  clear hv1
  go_wp2
  go_ret
  exact ⟨_, rfl, HA.out, HO.out, HB.out⟩
set_option maxRecDepth 100000 in
theorem qlx {w : World} {gf : Nat} {s : Fs} {F : Nat → Prop} {B : Nat} {a : Addr} (h : FsAt w gf s F B a) (hby : qvz s) (i : Nat) (hi : i < 32) (X : Pn) (hX : s.nodes[i]? = some X) (hk : X.k = 1) (hP : qgp X.P s.k) (hPl : X.P.length ≤ 8) (hs : 0 ≤ X.s ∧ X.s ≤ 512)
  (p n : Nat) (hn : n ≤ 512) (hn0 : 0 < n) (hp : p ≤ 1000000) :
  Calls Tryz.prog 18 #[.pointer (some ⟨gf, 0, none⟩), .int .i64 ((i : Int) + 1), .int .i64 (p : Int), .int .i64 (n : Int)] w
   (fun e w' => ∃ v, e = .returned (.tuple #[v, .int .i64 0]) ∧ qae w' v (qgc (qbl (secE s) X.P X.s) p n) ∧ (∀ b, v.ownBlock = some b → w.heap.size ≤ b) ∧ Below w.heap.size w w') := by
 have HFI := Lib.hid (qoo h i hi X hX)
 rw [hk, if_neg (by omega), if_pos rfl] at HFI
 obtain ⟨gn, on, cn, yq, yn, yc, c195, hgn, e0, e1, e2, e3, e4, e5, e6, e7, hI⟩ := qdv h i hi X hX
 have i1 : IntKind.i64.wrap ((i : Int) + 1 - 1) = (i : Int) := by rw [IntWalk.i64_in _ (by omega)]; omega
 have hbb := qyt (ybvx h hby) X.k X.m X.u X.g X.s X.l X.up (.slice yq yn yc) X.P hI.now hPl hP hs.1 hs.2
 have HBY : Hid (Calls Tryz.prog 57 #[.iface 90 (.agg #[.pointer (some ⟨gf, 0, none⟩)]), .agg #[.int .i64 X.k, .int .i64 X.m, .int .i64 X.u, .int .i64 X.g, .int .i64 X.s, .int .i64 X.l, .int .i64 X.up, .slice yq yn yc]] w
   (fun e w' => ∃ v', e = .returned v' ∧ w'.ownsRow (w.heap.size + 1) 5 1 v' (qbl (secE s) X.P X.s).length (u8s (qbl (secE s) X.P X.s)) ∧ Below w.heap.size w w')) := hbb
 have hle := qys (secE s) X.P X.s
 obtain ⟨D, HD⟩ : ∃ D, Hid (qbl (secE s) X.P X.s = D) := ⟨_, rfl⟩
 rw [HD.out] at HBY hle ⊢
 rw [hk] at HBY e0
 have HDL : Hid (D.length ≤ 1000) := Lib.hid (by omega)
 have p1 : decide ((p : Int) < 0) = false := decide_eq_false (by omega)
 have p2 : decide ((n : Int) < 0) = false := decide_eq_false (by omega)
 have p3 : decide ((512 : Int) < (n : Int)) = false := decide_eq_false (by omega)
 have p4 : ¬ ((p : Int) < 0) := by omega
 have p5 : ¬ ((n : Int) < 0) := by omega
 have p6 : ¬ ((512 : Int) < (n : Int)) := by omega
 have p7 : ¬ (512 < n) := by omega
 clear h hby hX hP hs hle hI hbb hk
 go_enter Tryz.func18, Tryz.ntmps18
 go_wp2_with fail
 refine HFI.out.mono ?_
 rintro e w1 ⟨rfl, rfl⟩
 go_wp2_with fail
 refine HBY.out.mono ?_
 rintro e w1 ⟨v1, rfl, ho, hb1⟩
 have HB1 := Lib.hid hb1
 have HPC := Lib.hid (yboo v1 D w1 ⟨qah.of_owns ho, qma ho⟩ HDL.out p n hn hn0 hp)
 clear ho hb1
 go_wp2_with fail
 refine HPC.out.mono ?_
 rintro e w2 ⟨v2, rfl, hv2, ho2, hb2⟩
 have HV2 := Lib.hid hv2
 have HO2 : Hid (∀ b, v2.ownBlock = some b → w.heap.size ≤ b) := fun b hb => Nat.le_trans HB1.out.size (ho2 b hb)
 have HB2 : Hid (Below w.heap.size w w2) := Below.step HB1.out hb2
 clear hv2 hb2 ho2
 go_wp2
 go_ret2
 exact ⟨v2, rfl, HV2.out, HO2.out, HB2.out⟩
theorem qlt {w w' : World} {F : Nat → Prop} {v : Value} {D : List Int} (h : qae w v D) (ho : ∀ b, v.ownBlock = some b → ¬ F b) (hk : qac F w w') : qae w' v D := by
 obtain ⟨h1, h2⟩ := h
 refine ⟨h1, h2.imp id ?_⟩
 rintro ⟨g, off, cap, rfl, hc⟩
 refine ⟨g, off, cap, rfl, fun j x hx => ?_⟩
 have hlt := block_lt_of_cell (hc j x hx)
 have hb := hk.block g hlt (ho g rfl)
 rw [← hc j x hx]
 unfold World.cell?
 simp only
 rw [hb]
theorem qyr : Tryz.prog.underlying 5 = some (.int .u8) := by kernel_rfl
theorem qoa : Tryz.prog.underlying 9 = some .string := by kernel_rfl
theorem qtn : Tryz.prog.underlying 38 = some (.slice 5) := by kernel_rfl
theorem qqy (l : List Int) (h : 0 < l.length) {w : World} {v : Value} (hv : qae w v l) : (convert 38 9 v).run Tryz.prog w = .ok (.string (qce l)) w := by
 obtain ⟨hl, ⟨hn, _⟩ | ⟨g, o, c, rfl, hc⟩⟩ := hv
 ·omega
 ·exact qdp w _ _ _ g o c l.length l rfl qtn qyr qoa hc
theorem qkp (n : Nat) (hn : n < 80) : secE fs4 n = gS n := qnw qhu n hn
theorem fDt_at (w : World) : qae (w.alloc (.cells #[.int .u8 120, .int .u8 121, .int .u8 122] 5 (3, 4))) (.slice (some ⟨w.heap.size, 0, none⟩) 3 3) fDt :=
 qaw (by decide) (heap_alloc_new _ _) rfl
theorem ybsk : 0 < fs2.todo.length := by
 have := congrArg List.length ybfq
 rw [List.length_map] at this
 rw [this]; decide
theorem fs2_in : ∀ y ∈ fs2.todo, 0 ≤ y.1 ∧ y.1 < 256 := fun y hy => by
 have : y.1 ∈ fs2.todo.map (fun x => x.1) := List.mem_map.2 ⟨y, hy, rfl⟩
 rw [ybfq] at this
 simp at this
 omega
theorem ybrf {w : World} {v : Value} {D : List Int} (h : qae w v D) (h0 : 0 < D.length) (b : Nat) (hb : v.ownBlock = some b) : b < w.heap.size := by
 obtain ⟨_, ⟨hn, _⟩ | ⟨g, o, c, rfl, hc⟩⟩ := h
 ·omega
 ·have e : g = b := by simpa [Value.ownBlock] using hb
  rw [← e]
  exact block_lt_of_cell (hc 0 _ (qcl D 0 h0))
theorem ybrx (j : Nat) (hj : j < 16) : 0 ≤ fs2.fo.nd 0 j ∧ fs2.fo.nd 0 j < ((80 : Nat) : Int) := by
 have := qht.load.nds 0 j (by omega) hj qht.load.root
 omega
theorem qjg : qfh (sec fdk'.N) (fs2.fo.nd 0) 32 = fs2.nodes := (qth ybrx (qnw qhu)).trans quq
theorem qlw : qje (sec fdk'.N) fs2.fo 80 := qht.congr (by omega) (qnw qhu)
theorem ybhv : ∀ X ∈ fs2.nodes, X.k = 0 ∨ X.l ≠ 0 := by
 have h : (fs2.nodes.all fun X => decide (X.k = 0) || !decide (X.l = 0)) = true := by kernel_rfl
 intro X hX
 have := List.all_eq_true.1 h X hX
 simpa using this
theorem ybvs (P : List Int) (p : Int) (h : P = [p]) (h1 : 37 ≤ p) (h2 : p < ((80 : Nat) : Int)) : ∀ q ∈ P, q = 0 ∨ (37 ≤ q ∧ q < ((80 : Nat) : Int)) := fun q hq => by
 rw [h] at hq
 rw [List.mem_singleton.1 hq]
 exact Or.inr ⟨h1, h2⟩
theorem ybda : qbl (secE fs4) fX0.P fX0.s = fD1 := (qjo (ybvs fX0.P 53 rfl (by omega) (by omega)) qkp _).trans ybhx
theorem qzc : qgc (qbl (secE fs4) fX1.P fX1.s) 0 9 = [0, 0, 0, 120, 121, 122] := by
 rw [qjo (ybvs fX1.P 54 rfl (by omega) (by omega)) qkp]
 exact ybcy
set_option maxRecDepth 100000 in
theorem qrl (w : World) : Calls Tryz.prog 7 #[] w (fun e w' => e = .returned (.bool true) ∧ Below w.heap.size w w') := by
 have HFR := Lib.hid (qmy 80 (by omega) (by omega) w)
 go_enter Tryz.func7, Tryz.ntmps7
 go_wp2_with fail
 refine HFR.out.mono ?_
 rintro e w1 ⟨gf, a, F, rfl, h1, hb1, hF⟩
 have HB1 := Lib.hid hb1
 have HF := Lib.hid hF
 have HOLD := Lib.hid h1.old
 have HMK : Hid (Calls Tryz.prog 15 #[.pointer (some ⟨gf, 0, none⟩), .int .i64 1, .string ⟨#[97]⟩, .int .i64 1, .int .i64 420, .int .i64 0, .int .i64 0] w1
   (fun e w' => e = .returned (.tuple #[.int .i64 2, .int .i64 0]) ∧ FsAt w' gf fs1 F w1.heap.size a ∧ qac F w1 w')) := Lib.hid (ybdf h1 (Nat.le_refl _) qup (by omega) (by omega) (by omega))
 clear h1 hb1 hF
 go_wp2_with fail
 refine HMK.out.mono ?_
 rintro e w2 ⟨rfl, h2, k2⟩
 have HK2 := Lib.hid k2
 have HWT : Hid (∀ (W : World) (v : Value), Below w2.heap.size w2 W → qbp W v fDt → Calls Tryz.prog 16 #[.pointer (some ⟨gf, 0, none⟩), .int .i64 2, .int .i64 3, v] W
   (fun e w' => e = .returned (.tuple #[.int .i64 3, .int .i64 0]) ∧ FsAt w' gf fs2 F w1.heap.size a ∧ qac F W w')) := fun W v hW hv =>
  qwv (h2.below hW) (Nat.le_trans k2.size hW.size) { fX1 with P := [], s := 0 } fs1_n1 rfl (fun p hp => by cases hp) (by decide) 0 rfl (by omega) 3 v fDt hv (by decide) (by decide) qjq fy2 ybdb rfl 37 (by kernel_rfl) (by omega) (by omega) yblu fX0 ybfp fX1 rfl qps.1 qps.2.1 qps.2.2.1 qps.2.2.2 ybcz (by rw [ybme]; decide)
 clear h2 k2
 have kc := Lib.run_convert_bytes_const (P := Tryz.prog) w2 38 5 #[.int .u8 120, .int .u8 121, .int .u8 122] 3 3 Tryz.underlying38 Tryz.underlying5
 go_wp2_with fail
 refine (HWT.out _ _ ((Below.refl _ _).alloc (Nat.le_refl _) _) ?_).mono ?_
 ·exact ⟨fDt_at w2, fun q n c h => by injection h with h1 h2 h3; omega⟩
 rintro e w3 ⟨rfl, h3, k3⟩
 have HK3 : Hid (qac F w1 w3) := (HK2.out.trans (qac.of_below ((Below.refl _ _).alloc (Nat.le_refl _) _)) (fun _ h => Or.inl h)).trans k3 (fun _ h => Or.inl h)
 have HRD : Hid (Calls Tryz.prog 18 #[.pointer (some ⟨gf, 0, none⟩), .int .i64 2, .int .i64 2, .int .i64 9] w3
   (fun e w' => ∃ v, e = .returned (.tuple #[v, .int .i64 0]) ∧ qae w' v (qgc (qbl (secE fs2) fX1.P fX1.s) 2 9) ∧ (∀ b, v.ownBlock = some b → w3.heap.size ≤ b) ∧ Below w3.heap.size w3 w')) :=
  qlx h3 ybcv 1 (by omega) fX1 ybvv rfl (fun p hp => by rw [List.mem_singleton.1 hp]; exact ⟨by decide, by decide⟩) (by decide) (by decide) 2 9 (by omega) (by omega) (by omega)
 have H3 := Lib.hid h3
 clear h3 k3
 go_wp2_with fail
 refine HRD.out.mono ?_
 rintro e w4 ⟨v4, rfl, hv4, ho4, hb4⟩
 rw [ybcx] at hv4
 have HV4 := Lib.hid hv4
 have HO4 := Lib.hid ho4
 have HSY : Hid (Calls Tryz.prog 25 #[.pointer (some ⟨gf, 0, none⟩)] w4
   (fun e w' => e = .returned (.int .i64 0) ∧ FsAt w' gf fs3 (fun i => F i ∨ (w4.heap.size ≤ i ∧ i < w'.heap.size)) w'.heap.size a ∧ qac F w4 w')) :=
  ybxk (H3.out.below hb4) (Nat.le_trans HK3.out.size hb4.size) rfl ybhu ybsk fs2_in (by rw [ybhw.2.2.2.2]; omega) (by rw [ybxf]; omega)
 have HK4 : Hid (qac F w1 w4) := HK3.out.trans (qac.of_below hb4) (fun _ h => Or.inl h)
 have HLB4 : Hid (∀ b, v4.ownBlock = some b → w3.heap.size ≤ b ∧ b < w4.heap.size) := fun b hb => ⟨ho4 b hb, ybrf hv4 (by decide) b hb⟩
 clear hv4 ho4 hb4
 go_wp2_with fail
 refine HSY.out.mono ?_
 rintro e w5 ⟨rfl, h5, k5⟩
 obtain ⟨⟨gl, rv, nv, bt, bh, E, tl, FD, g1, g2, g3, g4, g5, g6, g7, g8, g9, g10, g11, g12, g13, g14, g15, g16, g17⟩, a1, a2, a3, a4, a5, a6, a7⟩ := h5
 have HFD := Lib.hid g3
 have g2' : qay w5 (.pointer (some a)) fs3.dk 80 FD := g2
 have HCR := Lib.hid (ybrm g2' (.slice none 0 0) [] (fun w' _ => ⟨rfl, Or.inl ⟨rfl, none, 0, rfl⟩⟩) (by simp))
 have HK5 := Lib.hid k5
 clear g2' g1 g2 g3 g4 g5 g6 g7 g8 g9 g10 g11 g12 g13 g14 g15 g16 g17 a1 a2 a3 a4 a5 a6 a7 k5
 go_wp2_with fail
 refine HCR.out.mono ?_
 rintro e w6 ⟨rfl, F6, d6, f6, k6⟩
 have HMT : Hid (Calls Tryz.prog 27 #[.pointer (some a)] w6
   (fun e w' => ∃ gf F', e = .returned (.tuple #[.pointer (some ⟨gf, 0, none⟩), .int .i64 0]) ∧ FsAt w' gf fs4 F' w'.heap.size a ∧ qac F6 w6 w' ∧ (∀ i, F' i → F6 i ∨ w6.heap.size ≤ i))) := by
  have hd := ybht
  simp only [Bool.and_eq_true, decide_eq_true_eq] at hd
  obtain ⟨⟨⟨⟨e1, e2⟩, e3⟩, e4⟩, e5⟩ := hd
  have hm := ybgd d6 (by omega) (by omega) fdk' (seqO fdk.N) (fun W hW => ybyg (d6.below hW) (qin e2) (ybsg e3) (by show fdk.W.length < _; rw [e5]; omega)) e1
   (fun n hn => by rw [qnw qhu n hn]; exact ybmn n hn) fs2.fo qlw.load (by have := qlw.tree 0 (by omega) qht.load.root; obtain ⟨_, h⟩ := this; exact h.tree) qlw.quota
   (by rw [qnw qhu 4 (by omega)]; kernel_rfl) (by rw [qjg]; exact ybhv)
  rw [qjg] at hm
  exact hm
 have HK6 := Lib.hid k6
 have HF6 := Lib.hid f6
 clear d6 f6 k6
 go_wp2_with fail
 refine HMT.out.mono ?_
 rintro e w7 ⟨gf7, F7, rfl, h7, k7, f7⟩
 have HK7 := Lib.hid k7
 have HF7 := Lib.hid f7
 have hby7 : qvz fs4 := fun n hn => by rw [qkp n hn]; exact ybmn n hn
 have hlk := ybxj h7 0 (by omega) fX0 fs2_n0 rfl (fun p hp => by rw [List.mem_singleton.1 hp]; exact ⟨by decide, by decide⟩) (by decide) (by decide) nmA (by kernel_rfl) fD1 ybda ybfi.1 ybfi.2.1
 rw [ybfi.2.2.1, ybfi.2.2.2] at hlk
 have HLK : Hid (Calls Tryz.prog 22 #[.pointer (some ⟨gf7, 0, none⟩), .int .i64 1, .string ⟨#[97]⟩] w7 (fun e w' => e = .returned (.tuple #[.int .i64 2, .int .i64 0]) ∧ Below w7.heap.size w7 w')) := hlk
 have HRD2 : Hid (∀ W, Below w7.heap.size w7 W → Calls Tryz.prog 18 #[.pointer (some ⟨gf7, 0, none⟩), .int .i64 2, .int .i64 0, .int .i64 9] W
   (fun e w' => ∃ v, e = .returned (.tuple #[v, .int .i64 0]) ∧ qae w' v (qgc (qbl (secE fs4) fX1.P fX1.s) 0 9) ∧ (∀ b, v.ownBlock = some b → W.heap.size ≤ b) ∧ Below W.heap.size W w')) := fun W hW =>
  qlx (h7.below hW) hby7 1 (by omega) fX1 ybvv rfl (fun p hp => by rw [List.mem_singleton.1 hp]; exact ⟨by decide, by decide⟩) (by decide) (by decide) 0 9 (by omega) (by omega) (by omega)
 have HCH := Lib.hid (fun W (hW : Below w7.heap.size w7 W) => ybfr (h7.below hW) hby7 (qht.congr (by omega) qkp))
 clear h7 k7 f7 hby7 hlk
 go_wp2_with fail
 refine HLK.out.mono ?_
 rintro e w8 ⟨rfl, hb8⟩
 have HB8 := Lib.hid hb8
 clear hb8
 go_wp2_with fail
 refine (HRD2.out w8 HB8.out).mono ?_
 rintro e w9 ⟨v9, rfl, hv9, ho9, hb9⟩
 rw [qzc] at hv9
 have HB9 : Hid (Below w7.heap.size w7 w9) := Below.step HB8.out hb9
 have HS9 : Hid (∀ W : World, Below w9.heap.size w9 W → (convert 38 9 v9).run Tryz.prog W = .ok (.string ⟨#[0, 0, 0, 120, 121, 122]⟩) W) := fun W hW => qqy [0, 0, 0, 120, 121, 122] (by decide) (hv9.below hW)
 have HS4 : Hid (∀ W : World, Below w7.heap.size w7 W → (convert 38 9 v4).run Tryz.prog W = .ok (.string ⟨#[0, 120, 121, 122]⟩) W) := fun W hW => by
  have z3 := HK3.out.size
  have z5 := HK5.out.size
  have e5 : qae w5 v4 [0, 120, 121, 122] := qlt HV4.out (fun b hb hc => by have := HLB4.out b hb; have := HOLD.out b hc; omega) HK5.out
  have nD : ∀ b, v4.ownBlock = some b → ¬ FD b := fun b hb hc => by
   have := HLB4.out b hb
   rcases HFD.out b hc with h | h
   ·have := HOLD.out b h; omega
   ·omega
  have e6 : qae w6 v4 [0, 120, 121, 122] := qlt e5 nD HK6.out
  have e7 : qae w7 v4 [0, 120, 121, 122] := qlt e6 (fun b hb hc => by
   have := HLB4.out b hb
   rcases HF6.out b hc with h | h
   ·exact nD b hb h
   ·omega) HK7.out
  exact qqy [0, 120, 121, 122] (by decide) (e7.below hW)
 have h1 := HS4.out w9 HB9.out
 have h2 := HS9.out w9 (Below.refl _ _)
 have HCK := Lib.hid (HCH.out w9 HB9.out)
 clear hv9 ho9 hb9
 go_wp2_with fail
 refine HCK.out.mono ?_
 rintro e w10 ⟨rfl, hb10⟩
 have HB10 : Hid (Below w7.heap.size w7 w10) := Below.step HB9.out hb10
 clear hb10 h1 h2
 have HBB : Hid (Below w.heap.size w w10) := by
  have z1 := HB1.out.size
  have z4 := HK4.out.size
  have z5 := HK5.out.size
  have z6 := HK6.out.size
  have z7 := HK7.out.size
  have y4 := HB1.out.trans (HK4.out.to_below HF.out z1)
  have y5 := y4.trans (HK5.out.to_below HF.out (by omega))
  have nD : ∀ i, FD i → w.heap.size ≤ i := fun i hi => by
   rcases HFD.out i hi with h | h
   ·exact HF.out i h
   ·omega
  have y6 := y5.trans (HK6.out.to_below nD (by omega))
  have y7 := y6.trans (HK7.out.to_below (fun i hi => (HF6.out i hi).elim (nD i) (fun h => by omega)) (by omega))
  exact Below.step y7 HB10.out
 go_wp2
 go_ret
 exact ⟨rfl, HBB.out⟩
theorem ybar (a n : Int) (h0 : 0 < n) (h1 : n < 9223372036854775808) : ∃ k : Nat, pk a n = (k : Int) ∧ (k : Int) < n := by
 have := ybub a n h0 h1
 exact ⟨(pk a n).toNat, by omega, by omega⟩
end Go.Proofs.YtpoglnpjadmbpaaGreatDoor
