/- Part of the proofs of FsCut, FsHoles: the texts OrP, OrCut. -/
import Derived.Test.YtpoglnpjadmbpaaGreatDoorMA30
import Derived.Test.YtpoglnpjadmbpaaGreatDoorMB4
set_option maxHeartbeats 16000000
namespace Go.Proofs.YtpoglnpjadmbpaaGreatDoor
theorem ybnw (l : List Int) : (nzF l).length ≤ l.length := List.length_filter_le _ _
def resP (P : List Int) (K : Nat) : List Int := P.take K ++ List.replicate (K - P.length) 0
def qed (P : List Int) (K : Nat) : List Int := nzF (P.drop K).reverse
def qez (P : List Int) (K : Nat) (s sz : Int) : Int := if sz < s ∧ sz % 64 ≠ 0 ∧ (resP P K).getD (K - 1) 0 ≠ 0 then sz % 64 else 0
def blkN (sz : Int) : Nat := (qbq sz).toNat
theorem qqw (sz : Int) : qbq sz = (blkN sz : Int) := by
 unfold blkN qbq
 split <;> omega
theorem qcq {sz : Int} (h : sz ≤ 512) : blkN sz ≤ 8 := by
 unfold blkN qbq
 split <;> omega
theorem ybrc {a : Int} (h : 0 < a) : 0 < blkN a := by
 unfold blkN qbq
 split <;> omega
theorem ybgo (P : List Int) (K : Nat) : (resP P K).length = K := by
 unfold resP
 rw [List.length_append, List.length_take, List.length_replicate]; omega
theorem yboy {P : List Int} {K : Nat} (h : K ≤ P.length) : resP P K = P.take K := by
 unfold resP
 rw [show K - P.length = 0 by omega]
 simp
theorem qzu (P : List Int) (K : Nat) : (qed P K).length ≤ P.length := by
 refine Nat.le_trans (ybnw _) ?_
 rw [List.length_reverse, List.length_drop]; omega
theorem ybmq (P : List Int) (n : Nat) (hn : n < P.length) : (P.drop n).reverse = (P.drop (n + 1)).reverse ++ [P[n]] := by
 rw [List.drop_eq_getElem_cons hn, List.reverse_cons]
theorem qsv {k m u g s l up : Int} {P : List Int} (h : qal k m u g s l up P = 0) (hk : k ≠ 0) : (0 ≤ s ∧ s ≤ 512) ∧ qbm P = 0 ∧ P.length = blkN s ∧ ∀ (P' : List Int) (s' : Int), 0 ≤ s' → s' ≤ 512 → qbm P' = 0 → P'.length = blkN s' → qal k m u g s' l up P' = 0 := by
 unfold qal at h
 rw [if_neg hk] at h
 split at h
 ·omega
 rename_i h1
 split at h
 ·omega
 rename_i h2
 split at h
 ·omega
 rename_i h3
 split at h
 ·rename_i h4; exact absurd h h4
 rename_i h4
 split at h
 ·omega
 rename_i h5
 refine ⟨by omega, by omega, ?_, fun P' s' a b hr hl => ?_⟩
 ·have := qqw s; omega
 ·have := qqw s'
  unfold qal
  rw [if_neg hk, if_neg h1, if_neg (by omega), if_neg h3, if_neg (by omega), if_neg (by omega)]
theorem ybgz (P : List Int) (K : Nat) (s sz : Int) : 0 ≤ qez P K s sz ∧ qez P K s sz < 64 ∧ (qez P K s sz = 0 ∨ (qez P K s sz = sz % 64 ∧ sz < s)) := by
 unfold qez
 split
 ·rename_i h; exact ⟨by omega, by omega, Or.inr ⟨rfl, h.1⟩⟩
 ·exact ⟨by omega, by omega, Or.inl rfl⟩
end Go.Proofs.YtpoglnpjadmbpaaGreatDoor
namespace Go.Proofs.YtpoglnpjadmbpaaGreatDoor
open Go.RowKit
theorem ybgj {w : World} {b n m : Nat} {q : Option Addr} {c : Nat} {l : List Int} (h : w.ownsRow b 3 1 (.slice q n c) n (ints l)) (hm : m ≤ n) : w.ownsRow b 3 1 (.slice q m c) m (ints (l.take m)) := by
 obtain ⟨h1, ⟨hv, h0⟩ | ⟨g, cap, cur, hv, hg, hh, hc, hmx, hs, ht⟩⟩ := h
 ·cases hv
  have : m = 0 := by omega
  subst this
  exact ⟨by simp [ints], Or.inl ⟨rfl, rfl⟩⟩
 ·cases hv
  have hl : l.length = n := by simpa [ints] using h1
  refine ⟨by simp [ints, List.length_take]; omega, Or.inr ⟨g, _, cur, rfl, hg, hh, by omega, hmx, hs, ?_⟩⟩
  rw [show ints (l.take m) = (ints l).take m by simp [ints], ← ht, List.take_take]
  congr 1
  omega
theorem qgf {B : Nat} {a w : World} (h : Below B a w) {g : Nat} (hp : B ≤ g) (cs : Array Value) : Below B a (w.setRow g cs) :=
 ⟨h.os, h.tape, h.output, by simpa using h.size, fun i hi => (setRow_other w g i cs (by omega)).trans (h.block i hi)⟩
theorem ybox {P : List Int} {m : Nat} (h : P.length ≤ m) : resP P (m + 1) = resP P m ++ [0] := by
 unfold resP
 rw [List.take_of_length_le (by omega), List.take_of_length_le h, show m + 1 - P.length = (m - P.length) + 1 by omega, List.replicate_succ', List.append_assoc]
theorem qxi : (Tryz.prog.info? 103).map (·.size) = some 8 := by kernel_rfl
theorem qiw (a b c d e f g : Int) (v : Value) (hv : v.oneCell' = true) : (#[Value.int .i64 a, .int .i64 b, .int .i64 c, .int .i64 d, .int .i64 e, .int .i64 f, .int .i64 g, v] : Array Value).all (·.oneCell') = true := by
 rw [Array.all_eq_true_iff_forall_mem]
 intro x hx
 simp only [List.mem_toArray, List.mem_cons, List.not_mem_nil, or_false] at hx
 rcases hx with rfl | rfl | rfl | rfl | rfl | rfl | rfl | rfl <;> first | rfl | exact hv
def ybkh (k m u g sz l up : Int) (P : List Int) (s : Int) (w : World) (e : Ending) (w' : World) : Prop :=
 ∃ pq pc gv, e = .returned (.tuple #[.agg #[.int .i64 k, .int .i64 m, .int .i64 u, .int .i64 g, .int .i64 sz, .int .i64 l, .int .i64 up, .slice pq (blkN sz) pc], gv, .int .i64 (qez P (blkN sz) s sz), .int .i64 0]) ∧
  w'.ownsRow w.heap.size 3 1 (.slice pq (blkN sz) pc) (blkN sz) (ints (resP P (blkN sz))) ∧ w'.ownsRow w.heap.size 3 1 gv (qed P (blkN sz)).length (ints (srtI (qed P (blkN sz)))) ∧ Below w.heap.size w w' ∧ ∀ b, (Value.slice pq (blkN sz) pc).ownBlock = some b → gv.ownBlock ≠ some b
set_option maxRecDepth 100000 in
theorem ybwt (k m u g s l up : Int) (v : Value) (P : List Int) (sz : Int) (w : World) (h : qan w v P) (hr : qal k m u g s l up P = 0) (hk : k ≠ 0) (h0 : 0 ≤ sz) (h1 : sz ≤ 512) :
  Calls Tryz.prog 55 #[.agg #[.int .i64 k, .int .i64 m, .int .i64 u, .int .i64 g, .int .i64 s, .int .i64 l, .int .i64 up, v], .int .i64 sz] w (ybkh k m u g sz l up P s w) := by
 unfold ybkh
 obtain ⟨K, HK⟩ : ∃ K, Hid (blkN sz = K) := ⟨_, rfl⟩
 have hK8 : K ≤ 8 := by rw [← HK.out]; exact qcq h1
 have HBK : Hid (qbq sz = (K : Int)) := by show _ = _; rw [qqw, HK.out]
 rw [HK.out]
 obtain ⟨hs0, hPr, hPl, _⟩ := qsv hr hk
 have hPl8 : P.length ≤ 8 := by rw [hPl]; exact qcq hs0.2
 have HKP : Hid (0 < sz → 0 < K) := fun h => by rw [← HK.out]; exact ybrc h
 obtain ⟨N, HN⟩ : ∃ N, Hid (P.length = N) := ⟨_, rfl⟩
 rw [HN.out] at hPl8
 obtain ⟨pv, pcv, hv⟩ : ∃ p c, v = .slice p N c := by
  rw [← HN.out]
  obtain ⟨_, ⟨h0, a0, c0, rfl⟩ | ⟨g, o, cap, rfl, hc⟩⟩ := h
  ·exact ⟨a0, c0, by rw [h0]⟩
  ·exact ⟨_, cap, rfl⟩
 subst hv
 have HB0 : Hid (Below w.heap.size w ((w.alloc (.cells #[.int .i64 k, .int .i64 m, .int .i64 u, .int .i64 g, .int .i64 s, .int .i64 l, .int .i64 up, .slice pv N pcv] 103)).alloc (.cells #[.int .i64 0, .int .i64 0, .int .i64 0, .int .i64 0, .int .i64 0, .int .i64 0, .int .i64 0, .slice none 0 0] 103))) := ((Below.refl _ _).alloc (Nat.le_refl _) _).alloc (by simp) _
 have HR := Lib.hid (qld k m u g s l up (.slice pv N pcv) P ((w.alloc (.cells #[.int .i64 k, .int .i64 m, .int .i64 u, .int .i64 g, .int .i64 s, .int .i64 l, .int .i64 up, .slice pv N pcv] 103)).alloc (.cells #[.int .i64 0, .int .i64 0, .int .i64 0, .int .i64 0, .int .i64 0, .int .i64 0, .int .i64 0, .slice none 0 0] 103)) (qah.below h HB0.out) (by rw [HN.out]; omega))
 rw [hr] at HR
 have HV0 : Hid (((w.alloc (.cells #[.int .i64 k, .int .i64 m, .int .i64 u, .int .i64 g, .int .i64 s, .int .i64 l, .int .i64 up, .slice pv N pcv] 103)).alloc (.cells #[.int .i64 0, .int .i64 0, .int .i64 0, .int .i64 0, .int .i64 0, .int .i64 0, .int .i64 0, .slice none 0 0] 103)).heap[w.heap.size]? = some (.cells #[.int .i64 k, .int .i64 m, .int .i64 u, .int .i64 g, .int .i64 s, .int .i64 l, .int .i64 up, .slice pv N pcv] 103 (0, 0))) := qad (heap_alloc_new w _) _
 have HZ0 : Hid (((w.alloc (.cells #[.int .i64 k, .int .i64 m, .int .i64 u, .int .i64 g, .int .i64 s, .int .i64 l, .int .i64 up, .slice pv N pcv] 103)).alloc (.cells #[.int .i64 0, .int .i64 0, .int .i64 0, .int .i64 0, .int .i64 0, .int .i64 0, .int .i64 0, .slice none 0 0] 103)).heap[w.heap.size + 1]? = some (.cells #[.int .i64 0, .int .i64 0, .int .i64 0, .int .i64 0, .int .i64 0, .int .i64 0, .int .i64 0, .slice none 0 0] 103 (0, 0))) := by
  have := heap_alloc_new (w.alloc (.cells #[.int .i64 k, .int .i64 m, .int .i64 u, .int .i64 g, .int .i64 s, .int .i64 l, .int .i64 up, .slice pv N pcv] 103)) (.cells #[.int .i64 0, .int .i64 0, .int .i64 0, .int .i64 0, .int .i64 0, .int .i64 0, .int .i64 0, .slice none 0 0] 103)
  rw [show (w.alloc (.cells #[.int .i64 k, .int .i64 m, .int .i64 u, .int .i64 g, .int .i64 s, .int .i64 l, .int .i64 up, .slice pv N pcv] 103)).heap.size = w.heap.size + 1 by simp] at this
  exact this
 have HI := Lib.hid h
 have hkb : (k == 0) = false := by simpa using hk
 clear hPr hPl hr hk h
 go_enter Tryz.func55, Tryz.ntmps55
 go_wp2_with fail
 refine HR.out.mono ?_
 rintro e w1 ⟨rfl, hb1⟩
 have HB1 : Hid (Below w.heap.size w w1) := HB0.out.trans (hb1.mono HB0.out.size)
 have HV1 := Lib.hid (qaa hb1 HV0.out)
 have HZ1 := Lib.hid (qaa hb1 HZ0.out)
 obtain ⟨q0, q1, q2, q3, q4, q5, q6, q7⟩ := qcg HV1.out
 have HBL := Lib.hid (fun W => qhr sz W (by omega) (by omega))
 rw [HBK.out] at HBL
 have HCL := Lib.hid (qgh (.slice pv N pcv) P w1 (qah.below HI.out HB1.out) (by rw [HN.out]; omega))
 unfold ybcd at HCL
 clear hb1 HB0 HR HV0 HZ0
 go_wp2_with fail
 refine (HBL.out _).mono ?_
 rintro e w' ⟨rfl, rfl⟩
 go_wp2_with fail
 refine HCL.out.mono ?_
 rintro e w2 ⟨v2, rfl, ho2, hb2, _⟩
 have HB2 : Hid (Below w.heap.size w w2) := HB1.out.trans (hb2.mono HB1.out.size)
 have HV2 := Lib.hid (qaa hb2 HV1.out)
 have HZ2 := Lib.hid (qaa hb2 HZ1.out)
 have hz12 := hb2.size
 obtain ⟨x2, c2, hv2, hx2⟩ := qar ho2
 rw [HN.out] at hv2 ho2 hx2
 subst hv2
 have HO2 := Lib.hid ho2
 have hc2 : N ≤ c2 := by
  obtain ⟨_, ⟨hv, h0⟩ | ⟨g', cap, cur, hv, _, _, hc, _⟩⟩ := ho2
  ·cases hv; omega
  ·cases hv; exact hc
 have HX2 : Hid (0 < N → ∃ g, x2 = some ⟨g, 0, none⟩ ∧ g < w2.heap.size ∧ ∀ (j : Nat) (x : Value), (ints P)[j]? = some x → w2.cell? ⟨g, j, none⟩ = some x) := fun h0 => by
  obtain ⟨g, rfl, _, hc⟩ := hx2 h0
  exact ⟨g, rfl, (ho2.lt g rfl).2, hc⟩
 have HBC : Hid (Below w1.heap.size w1 w2) := hb2
 clear ho2 hx2 hb2 q0 q1 q2 q3 q4 q5 q6 q7
 obtain ⟨i0, hi0, hz0, hz1, hz2⟩ := info_parts qku
 have HI0 := Lib.hid hi0
 have HIZ := Lib.hid hz0
 have HI1 := Lib.hid hz1
 have HI2 := Lib.hid hz2
 clear hi0 hz0 hz1 hz2
 go_wp2
 go_loopw [10, 11] (fun pt gt wr => ∃ n : Nat, n ≤ N ∧ (K ≤ n ∨ n = N) ∧ pt = .slice x2 n c2 ∧ Hid (wr.ownsRow w2.heap.size 3 1 gt (nzF (P.drop n).reverse).length (ints (nzF (P.drop n).reverse))) ∧ Hid (n = N → gt = .slice none 0 0) ∧ Below w2.heap.size w2 wr) (fun pt _ _ => lenV pt - K)
 case atStart => exact ⟨N, Nat.le_refl _, Or.inr rfl, rfl, by
  show World.ownsRow _ _ _ _ _ _ _
  rw [List.drop_of_length_le (by rw [HN.out]; exact Nat.le_refl _)]
  exact World.ownsRow_nil _ _ _ _, fun _ => rfl, Below.refl _ _⟩
 case round =>
  obtain ⟨n, hn, hKn, rfl, HG, HGN, HB⟩ := hrel
  by_cases hlt : K < n
  ·obtain ⟨gx, rfl, hg, hc⟩ := HX2.out (by omega)
   have hnl : n - 1 < P.length := by rw [HN.out]; omega
   obtain ⟨p, Hp⟩ : ∃ p, Hid (P[n - 1] = p) := ⟨P[n - 1], rfl⟩
   have hcp := hc (n - 1) (.int .i64 p) (by rw [← Hp.out]; simp [ints, List.getElem?_eq_getElem hnl])
   have cp := (HB.cell (p := ⟨gx, n - 1, none⟩) hg).trans hcp
   have HT : Hid ((P.drop (n - 1)).reverse = (P.drop n).reverse ++ [p]) := by
    show _ = _
    have := ybmq P (n - 1) hnl
    rw [show n - 1 + 1 = n by omega, Hp.out] at this
    exact this
   have b1 : decide ((K : Int) < (n : Int)) = true := by rw [decide_eq_true_iff]; omega
   have b2 : (n : Int) - 1 = ((n - 1 : Nat) : Int) := by omega
   have b3 : IntKind.i64.wrap ((n : Int) - 1) = ((n - 1 : Nat) : Int) := by rw [b2]; exact IntWalk.i64_in _ (by omega)
   have b4 : n - 1 ≤ c2 := by omega
   have b5 : n - 1 < n := by omega
   have hgl := (ybnw (P.drop n).reverse)
   rw [List.length_reverse, List.length_drop, HN.out] at hgl
   have hgll : (nzF (P.drop n).reverse).length ≤ 8 := by omega
   clear hgl hc hcp b2
   have HLT : Hid (∀ q, u11.ownBlock = some q → w2.heap.size ≤ q) := fun q hq => (HG.out.lt q hq).1
   have HNB : Hid ((wr.alloc (.cells #[.int .i64 p] 3)).heap[wr.heap.size]? = some (.cells #[.int .i64 p] 3 (0, 0))) := heap_alloc_new _ _
   have hsz := HB.size
   by_cases hp : p = 0
   ·have HG2 : Hid (wr.ownsRow w2.heap.size 3 1 u11 (nzF (P.drop (n - 1)).reverse).length (ints (nzF (P.drop (n - 1)).reverse))) := by
     show World.ownsRow _ _ _ _ _ _ _
     rw [HT.out, qxj, hp, show nzF [0] = [] from rfl, List.append_nil]
     exact HG.out
    have bp : (p == 0) = true := by simpa using hp
    have bp2 : (p != 0) = false := by simp [bne, bp]
    have HP0 := Lib.hid hp
    clear hp
    go_wp2
    go_roundw
    case rel => exact ⟨n - 1, by omega, by omega, rfl, HG2, fun h => by omega, HB⟩
    case measure => simp [lenV]; omega
   ·have HG2 : Hid (nzF (P.drop (n - 1)).reverse = nzF (P.drop n).reverse ++ [p]) := by
     show _ = _
     rw [HT.out, qxj]
     congr 1
     unfold nzF
     rw [List.filter_cons_of_pos (by simpa using hp)]
     rfl
    have bp : (p == 0) = false := by simpa using hp
    have bp2 : (p != 0) = true := by simp [bne, bp]
    have HGA := Lib.hid (HG.out.alloc (.cells #[.int .i64 p] 3))
    have HP0 := Lib.hid hp
    clear hp
    go_wp2_with (at_builtin; refine wpList_append_own _ rfl _ _ 32 rfl w2.heap.size 3 i0 (.int .i64 0) 1 8 qpg HI0.out HIZ.out HI1.out HI2.out rfl (by decide) _ _ _ rfl HGA.out ⟨_, 0, none⟩ 1 1 [.int .i64 p] rfl rfl (World.news_of_block (cs := #[.int .i64 p]) (t := 3) (fr := (0, 0)) HNB.out) (by simp [Value.oneCell']) (by unfold maxLen; omega) (by omega) (by simp; omega) ?_; intro v' w3 hown hgrow _)
    have HO1 : Hid (w3.ownsRow w2.heap.size 3 1 v' (nzF (P.drop (n - 1)).reverse).length (ints (nzF (P.drop (n - 1)).reverse))) := by
     show World.ownsRow _ _ _ _ _ _ _
     rw [HG2.out, List.length_append, qoq]
     exact hown
    have HB3 : Below w2.heap.size w2 w3 := Below.grown (HB.alloc hsz _) hgrow (by simp; omega) HLT.out
    clear hown hgrow
    go_wp2
    go_roundw
    case rel => exact ⟨n - 1, by omega, by omega, rfl, HO1, fun h => by omega, HB3⟩
    case measure => simp [lenV]; omega
  ·have hnP : n ≤ P.length := by rw [HN.out]; exact hn
   have HGE : Hid (nzF (P.drop n).reverse = qed P K) := by
    show _ = _
    unfold qed
    by_cases e : n = K
    ·rw [e]
    ·rw [List.drop_of_length_le (by rw [HN.out]; omega), List.drop_of_length_le (by rw [HN.out]; omega)]
   rw [HGE.out] at HG
   have HPT : Hid (wr.ownsRow w1.heap.size 3 1 (.slice x2 n c2) n (ints (resP P n))) := by
    show World.ownsRow _ _ _ _ _ _ _
    rw [yboy hnP]
    have hoc := ybgj HO2.out hn
    exact qav hoc fun q hq => HB.block q (hoc.lt q hq).2
   have HSEP : Hid (u11 = .slice none 0 0 ∨ (n = K ∧ ∀ b, (Value.slice x2 n c2).ownBlock = some b → u11.ownBlock ≠ some b)) := by
    by_cases e : n = K
    ·refine Or.inr ⟨e, fun b hb h2 => ?_⟩
     have h3 := ((ybgj HO2.out hn).lt b hb).2
     have h4 := (HG.out.lt b h2).1
     omega
    ·exact Or.inl (HGN.out (by omega))
   have HBW : Hid (Below w1.heap.size w1 wr) := HBC.out.trans (HB.mono hz12)
   have hgl : (qed P K).length ≤ 8 := by have := qzu P K; rw [HN.out] at this; omega
   have bKn : decide (K < n) = false := by rw [decide_eq_false_iff_not]; exact hlt
   have hnN : N ≤ n ∨ n = K := by omega
   have hnK : n ≤ K := by omega
   clear HB HGN HO2 HX2 hKn hlt
   go_wp2
   go_loopw [10] (fun pt wq => ∃ (j c : Nat) (q : Option Addr), j ≤ K ∧ (N ≤ j ∨ j = K) ∧ pt = .slice q j c ∧ Hid (wq.ownsRow w1.heap.size 3 1 (.slice q j c) j (ints (resP P j))) ∧ Hid (wq.ownsRow w2.heap.size 3 1 u11 (qed P K).length (ints (qed P K))) ∧ Hid (u11 = .slice none 0 0 ∨ (j = K ∧ ∀ b, (Value.slice q j c).ownBlock = some b → u11.ownBlock ≠ some b)) ∧ Hid (Below w1.heap.size w1 wq)) (fun pt _ => K - lenV pt)
   case atStart => exact ⟨n, c2, x2, hnK, hnN, rfl, HPT, HG, HSEP, HBW⟩
   case round =>
    obtain ⟨j, c, q, hj, hNj, rfl, HPJ, HGJ, HSJ, HBJ⟩ := hrel
    by_cases hlt : j < K
    ·have HNIL : Hid (u11 = .slice none 0 0) := by
      rcases HSJ.out with h | ⟨h, _⟩
      ·exact h
      ·omega
     have hsz := HBJ.out.size
     have HPA := Lib.hid (HPJ.out.alloc (.cells #[.int .i64 0] 3))
     have HNB : Hid ((wr.alloc (.cells #[.int .i64 0] 3)).heap[wr.heap.size]? = some (.cells #[.int .i64 0] 3 (0, 0))) := heap_alloc_new _ _
     have HLT : Hid (∀ b, (Value.slice q j c).ownBlock = some b → w1.heap.size ≤ b) := fun b hb => (HPJ.out.lt b hb).1
     have HST : Hid (resP P (j + 1) = resP P j ++ [0]) := ybox (by rw [HN.out]; omega)
     go_wp2_with (at_builtin; refine wpList_append_own _ rfl _ _ 32 rfl w1.heap.size 3 i0 (.int .i64 0) 1 8 qpg HI0.out HIZ.out HI1.out HI2.out rfl (by decide) _ _ _ rfl HPA.out ⟨_, 0, none⟩ 1 1 [.int .i64 0] rfl rfl (World.news_of_block (cs := #[.int .i64 0]) (t := 3) (fr := (0, 0)) HNB.out) (by simp [Value.oneCell']) (by unfold maxLen; omega) (by omega) (by simp; omega) ?_; intro v' w3 hown hgrow _)
     obtain ⟨q', c', hv', _⟩ := qar hown
     subst hv'
     have HO1 : Hid (w3.ownsRow w1.heap.size 3 1 (.slice q' (j + 1) c') (j + 1) (ints (resP P (j + 1)))) := by
      show World.ownsRow _ _ _ _ _ _ _
      rw [HST.out, qoq]
      exact hown
     have HB3 : Hid (Below w1.heap.size w1 w3) := Below.grown (HBJ.out.alloc hsz _) hgrow (by simp; omega) HLT.out
     have HG3 : Hid (w3.ownsRow w2.heap.size 3 1 u11 (qed P K).length (ints (qed P K))) := qav HGJ.out fun b hb => by rw [HNIL.out] at hb; simp [Value.ownBlock] at hb
     have HS3 : Hid (u11 = .slice none 0 0 ∨ (j + 1 = K ∧ ∀ b, (Value.slice q' (j + 1) c').ownBlock = some b → u11.ownBlock ≠ some b)) := Or.inl HNIL.out
     clear hown hgrow
     go_wp2
     go_roundw
     case rel => exact ⟨j + 1, c', q', by omega, by omega, rfl, HO1, HG3, HS3, HB3⟩
     case measure => simp [lenV]; omega
    ·obtain rfl : K = j := by omega
     have HSO := Lib.hid (ybgx u11 (qed P K) w2.heap.size wr HGJ.out (by omega))
     go_wp2_with fail
     refine HSO.out.mono ?_
     rintro e w5 ⟨rfl, ho5, hg5⟩
     have HSQ : Hid (∀ b, (Value.slice q K c).ownBlock = some b → u11.ownBlock ≠ some b) := fun b hb => by
      rcases HSJ.out with h | ⟨_, h⟩
      ·rw [h]; simp [Value.ownBlock]
      ·exact h b hb
     have HPT5 : Hid (w5.ownsRow w1.heap.size 3 1 (.slice q K c) K (ints (resP P K))) := qav HPJ.out fun b hb => hg5.block b (HPJ.out.lt b hb).2 (fun e => by
      rcases HSJ.out with h | ⟨_, h⟩
      ·rw [h] at e; simp [Value.ownBlock] at e
      ·exact h b hb e.symm)
     have HG5 := Lib.hid ho5
     have HB5 : Hid (Below w1.heap.size w1 w5) := Below.grown HBJ.out hg5 HBJ.out.size (fun b hb => by have := (HGJ.out.lt b hb).1; omega)
     have HV5 : Hid (w5.heap[w.heap.size]? = some (.cells #[.int .i64 k, .int .i64 m, .int .i64 u, .int .i64 g, .int .i64 s, .int .i64 l, .int .i64 up, (.slice pv N pcv)] 103 (0, 0))) := qaa HB5.out HV1.out
     have HZ5 : Hid (w5.heap[w.heap.size + 1]? = some (.cells #[.int .i64 0, .int .i64 0, .int .i64 0, .int .i64 0, .int .i64 0, .int .i64 0, .int .i64 0, .slice none 0 0] 103 (0, 0))) := qaa HB5.out HZ1.out
     have HBW5 : Hid (Below w.heap.size w w5) := HB1.out.trans (HB5.out.mono HB1.out.size)
     have HXP : Hid (0 < K → ∃ g, q = some ⟨g, 0, none⟩ ∧ ∀ (i : Nat) (x : Value), (ints (resP P K))[i]? = some x → w5.cell? ⟨g, i, none⟩ = some x) := fun h0 => by
      obtain ⟨q', c', hv', hx⟩ := qar HPT5.out
      cases hv'
      obtain ⟨g, rfl, _, hc⟩ := hx h0
      exact ⟨g, rfl, hc⟩
     obtain ⟨z0, z1, z2, z3, z4, z5, z6, z7⟩ := qcg HV5.out
     have hv1 : w.heap.size < w5.heap.size := qab HV5.out
     have hv2 : w.heap.size + 1 < w5.heap.size := qab HZ5.out
     have fz : ∀ i, w5.frozen? ⟨w.heap.size, i, none⟩ = false := fun i => frozen_of_row _ _ _ _ _ HV5.out
     have fz4 := fz 4
     have fz7 := fz 7
     have HRL : Hid ((resP P K).length = K) := ybgo P K
     clear ho5 hg5 fz HPJ HGJ HSJ HBJ HPT HG HSEP HBW hnN hnK hlt hNj hj
     have hn1 := qbb HPT5.out HV5.out (by decide)
     have hn2 := qbb HG5.out HV5.out (by decide)
     have hst : ∀ b, b ≠ w.heap.size → ((w5.setCell ⟨w.heap.size, 4, none⟩ (.int .i64 sz)).setCell ⟨w.heap.size, 7, none⟩ (.slice q K c)).heap[b]? = w5.heap[b]? := fun b hb => (Below.heap_setCell _ _ _ b hb).trans (Below.heap_setCell _ _ _ b hb)
     have HN6 : Hid (((w5.setCell ⟨w.heap.size, 4, none⟩ (.int .i64 sz)).setCell ⟨w.heap.size, 7, none⟩ (.slice q K c)).heap[w.heap.size]? = some (.cells #[.int .i64 k, .int .i64 m, .int .i64 u, .int .i64 g, .int .i64 sz, .int .i64 l, .int .i64 up, (.slice q K c)] 103 (0, 0))) := heap_setCell_same _ _ 7 _ _ (.slice q K c) (heap_setCell_same _ _ 4 _ _ (.int .i64 sz) HV5.out)
     have HZ6 : Hid (((w5.setCell ⟨w.heap.size, 4, none⟩ (.int .i64 sz)).setCell ⟨w.heap.size, 7, none⟩ (.slice q K c)).heap[w.heap.size + 1]? = some (.cells #[.int .i64 0, .int .i64 0, .int .i64 0, .int .i64 0, .int .i64 0, .int .i64 0, .int .i64 0, .slice none 0 0] 103 (0, 0))) := (hst _ (by omega)).trans HZ5.out
     have HPT6 : Hid (((w5.setCell ⟨w.heap.size, 4, none⟩ (.int .i64 sz)).setCell ⟨w.heap.size, 7, none⟩ (.slice q K c)).ownsRow w1.heap.size 3 1 (.slice q K c) K (ints (resP P K))) := qav HPT5.out fun b hb => hst b (hn1 b hb)
     have HG6 : Hid (((w5.setCell ⟨w.heap.size, 4, none⟩ (.int .i64 sz)).setCell ⟨w.heap.size, 7, none⟩ (.slice q K c)).ownsRow w2.heap.size 3 1 u11 (qed P K).length (ints (srtI (qed P K)))) := qav HG5.out fun b hb => hst b (hn2 b hb)
     have HB6 : Hid (Below w.heap.size w ((w5.setCell ⟨w.heap.size, 4, none⟩ (.int .i64 sz)).setCell ⟨w.heap.size, 7, none⟩ (.slice q K c))) := (HBW5.out.setCell (Nat.le_refl _) _).setCell (Nat.le_refl _) _
     have hw1 := HB1.out.size
     clear hn1 hn2 hst HV5 HZ5 HPT5 HG5 HBW5 HB5
     by_cases hlt4 : sz < s
     ·have b1 : decide (sz < s) = true := by rw [decide_eq_true_iff]; exact hlt4
      by_cases hm : sz % 64 = 0
      ·have b2 : (sz % 64 == 0) = true := by simpa using hm
       have b3 : (sz % 64 != 0) = false := by simp [bne, b2]
       have HT : Hid (qez P K s sz = 0) := by show _ = _; unfold qez; rw [if_neg (fun h => h.2.1 hm)]
       clear hm
       go_upto_region 25 with fail
       generalize ((w5.setCell ⟨w.heap.size, 4, none⟩ (.int .i64 sz)).setCell ⟨w.heap.size, 7, none⟩ (.slice q K c)) = w6 at *
       obtain ⟨q0, q1, q2, q3, q4, q5, q6, q7⟩ := qcg HN6.out
       have hn1 := qbb HPT6.out HZ6.out (by decide)
       have hn2 := qbb HG6.out HZ6.out (by decide)
       have HZR : Hid ((w6.setRow (w.heap.size + 1) #[.int .i64 k, .int .i64 m, .int .i64 u, .int .i64 g, .int .i64 sz, .int .i64 l, .int .i64 up, (.slice q K c)]).heap[w.heap.size + 1]? = some (.cells #[.int .i64 k, .int .i64 m, .int .i64 u, .int .i64 g, .int .i64 sz, .int .i64 l, .int .i64 up, (.slice q K c)] 103 (0, 0))) := setRow_heap _ _ _ _ _ _ HZ6.out
       have HBZ : Hid (Below w.heap.size w (w6.setRow (w.heap.size + 1) #[.int .i64 k, .int .i64 m, .int .i64 u, .int .i64 g, .int .i64 sz, .int .i64 l, .int .i64 up, (.slice q K c)])) := qgf HB6.out (by omega) _
       have HPZ : Hid ((w6.setRow (w.heap.size + 1) #[.int .i64 k, .int .i64 m, .int .i64 u, .int .i64 g, .int .i64 sz, .int .i64 l, .int .i64 up, (.slice q K c)]).ownsRow w.heap.size 3 1 (.slice q K c) K (ints (resP P K))) := qcv (qav HPT6.out fun b hb => setRow_other _ _ _ _ (hn1 b hb)) hw1
       have HGZ : Hid ((w6.setRow (w.heap.size + 1) #[.int .i64 k, .int .i64 m, .int .i64 u, .int .i64 g, .int .i64 sz, .int .i64 l, .int .i64 up, (.slice q K c)]).ownsRow w.heap.size 3 1 u11 (qed P K).length (ints (srtI (qed P K)))) := qcv (qav HG6.out fun b hb => setRow_other _ _ _ _ (hn2 b hb)) (by omega)
       clear hn1 hn2
       go_wp2_with (refine wpList_store_row rfl 103 (.tmp 4) (.tmp 91) rfl (w.heap.size + 1) #[.int .i64 k, .int .i64 m, .int .i64 u, .int .i64 g, .int .i64 sz, .int .i64 l, .int .i64 up, (.slice q K c)] rfl rfl 103 _ HZ6.out qxi rfl (qiw _ _ _ _ _ _ _ _ rfl) ?_)
       obtain ⟨z0, z1, z2, z3, z4, z5, z6, z7⟩ := qcg HZR.out
       exact bodyPost_ret (v := .tuple #[.agg #[.int .i64 k, .int .i64 m, .int .i64 u, .int .i64 g, .int .i64 sz, .int .i64 l, .int .i64 up, (.slice q K c)], u11, .int .i64 (qez P K s sz), .int .i64 0]) (by simp [results, Tryz.results55, go_sem, z0, z1, z2, z3, z4, z5, z6, z7, HT.out]) rfl ⟨q, c, u11, rfl, HPZ.out, HGZ.out, HBZ.out, HSQ.out⟩
      ·have b2 : (sz % 64 == 0) = false := by simpa using hm
       have b3 : (sz % 64 != 0) = true := by simp [bne, b2]
       have hK0 : 0 < K := HKP.out (by omega)
       obtain ⟨gp, rfl, hc⟩ := HXP.out hK0
       have hkl : K - 1 < (resP P K).length := by rw [HRL.out]; omega
       obtain ⟨y, Hy⟩ : ∃ y, Hid ((resP P K)[K - 1] = y) := ⟨(resP P K)[K - 1], rfl⟩
       have hcy := hc (K - 1) (.int .i64 y) (by rw [← Hy.out]; simp [ints, List.getElem?_eq_getElem hkl])
       have HYD : Hid ((resP P K).getD (K - 1) 0 = y) := by
        show _ = _
        rw [List.getD_eq_getElem?_getD, List.getElem?_eq_getElem hkl, ← Hy.out]; rfl
       have b4 : (K : Int) - 1 = ((K - 1 : Nat) : Int) := by omega
       have b5 : IntKind.i64.wrap ((K : Int) - 1) = ((K - 1 : Nat) : Int) := by rw [b4]; exact IntWalk.i64_in _ (by omega)
       have b6 : K - 1 < K := by omega
       clear hc b4
       by_cases hy : y = 0
       ·have b7 : (y == 0) = true := by simpa using hy
        have b8 : (y != 0) = false := by simp [bne, b7]
        have HT : Hid (qez P K s sz = 0) := by show _ = _; unfold qez; rw [if_neg (fun h => h.2.2 (by rw [HYD.out]; exact hy))]
        clear hy hm
        go_upto_region 25 with fail
        generalize ((w5.setCell ⟨w.heap.size, 4, none⟩ (.int .i64 sz)).setCell ⟨w.heap.size, 7, none⟩ (.slice (some ⟨gp, 0, none⟩) K c)) = w6 at *
        obtain ⟨q0, q1, q2, q3, q4, q5, q6, q7⟩ := qcg HN6.out
        have hn1 := qbb HPT6.out HZ6.out (by decide)
        have hn2 := qbb HG6.out HZ6.out (by decide)
        have HZR : Hid ((w6.setRow (w.heap.size + 1) #[.int .i64 k, .int .i64 m, .int .i64 u, .int .i64 g, .int .i64 sz, .int .i64 l, .int .i64 up, (.slice (some ⟨gp, 0, none⟩) K c)]).heap[w.heap.size + 1]? = some (.cells #[.int .i64 k, .int .i64 m, .int .i64 u, .int .i64 g, .int .i64 sz, .int .i64 l, .int .i64 up, (.slice (some ⟨gp, 0, none⟩) K c)] 103 (0, 0))) := setRow_heap _ _ _ _ _ _ HZ6.out
        have HBZ : Hid (Below w.heap.size w (w6.setRow (w.heap.size + 1) #[.int .i64 k, .int .i64 m, .int .i64 u, .int .i64 g, .int .i64 sz, .int .i64 l, .int .i64 up, (.slice (some ⟨gp, 0, none⟩) K c)])) := qgf HB6.out (by omega) _
        have HPZ : Hid ((w6.setRow (w.heap.size + 1) #[.int .i64 k, .int .i64 m, .int .i64 u, .int .i64 g, .int .i64 sz, .int .i64 l, .int .i64 up, (.slice (some ⟨gp, 0, none⟩) K c)]).ownsRow w.heap.size 3 1 (.slice (some ⟨gp, 0, none⟩) K c) K (ints (resP P K))) := qcv (qav HPT6.out fun b hb => setRow_other _ _ _ _ (hn1 b hb)) hw1
        have HGZ : Hid ((w6.setRow (w.heap.size + 1) #[.int .i64 k, .int .i64 m, .int .i64 u, .int .i64 g, .int .i64 sz, .int .i64 l, .int .i64 up, (.slice (some ⟨gp, 0, none⟩) K c)]).ownsRow w.heap.size 3 1 u11 (qed P K).length (ints (srtI (qed P K)))) := qcv (qav HG6.out fun b hb => setRow_other _ _ _ _ (hn2 b hb)) (by omega)
        clear hn1 hn2
        go_wp2_with (refine wpList_store_row rfl 103 (.tmp 4) (.tmp 91) rfl (w.heap.size + 1) #[.int .i64 k, .int .i64 m, .int .i64 u, .int .i64 g, .int .i64 sz, .int .i64 l, .int .i64 up, (.slice (some ⟨gp, 0, none⟩) K c)] rfl rfl 103 _ HZ6.out qxi rfl (qiw _ _ _ _ _ _ _ _ rfl) ?_)
        obtain ⟨z0, z1, z2, z3, z4, z5, z6, z7⟩ := qcg HZR.out
        exact bodyPost_ret (v := .tuple #[.agg #[.int .i64 k, .int .i64 m, .int .i64 u, .int .i64 g, .int .i64 sz, .int .i64 l, .int .i64 up, (.slice (some ⟨gp, 0, none⟩) K c)], u11, .int .i64 (qez P K s sz), .int .i64 0]) (by simp [results, Tryz.results55, go_sem, z0, z1, z2, z3, z4, z5, z6, z7, HT.out]) rfl ⟨_, c, u11, rfl, HPZ.out, HGZ.out, HBZ.out, HSQ.out⟩
       ·have b7 : (y == 0) = false := by simpa using hy
        have b8 : (y != 0) = true := by simp [bne, b7]
        have HT : Hid (qez P K s sz = sz % 64) := by show _ = _; unfold qez; rw [if_pos ⟨hlt4, hm, by rw [HYD.out]; exact hy⟩]
        clear hy hm
        go_upto_region 25 with fail
        generalize ((w5.setCell ⟨w.heap.size, 4, none⟩ (.int .i64 sz)).setCell ⟨w.heap.size, 7, none⟩ (.slice (some ⟨gp, 0, none⟩) K c)) = w6 at *
        obtain ⟨q0, q1, q2, q3, q4, q5, q6, q7⟩ := qcg HN6.out
        have hn1 := qbb HPT6.out HZ6.out (by decide)
        have hn2 := qbb HG6.out HZ6.out (by decide)
        have HZR : Hid ((w6.setRow (w.heap.size + 1) #[.int .i64 k, .int .i64 m, .int .i64 u, .int .i64 g, .int .i64 sz, .int .i64 l, .int .i64 up, (.slice (some ⟨gp, 0, none⟩) K c)]).heap[w.heap.size + 1]? = some (.cells #[.int .i64 k, .int .i64 m, .int .i64 u, .int .i64 g, .int .i64 sz, .int .i64 l, .int .i64 up, (.slice (some ⟨gp, 0, none⟩) K c)] 103 (0, 0))) := setRow_heap _ _ _ _ _ _ HZ6.out
        have HBZ : Hid (Below w.heap.size w (w6.setRow (w.heap.size + 1) #[.int .i64 k, .int .i64 m, .int .i64 u, .int .i64 g, .int .i64 sz, .int .i64 l, .int .i64 up, (.slice (some ⟨gp, 0, none⟩) K c)])) := qgf HB6.out (by omega) _
        have HPZ : Hid ((w6.setRow (w.heap.size + 1) #[.int .i64 k, .int .i64 m, .int .i64 u, .int .i64 g, .int .i64 sz, .int .i64 l, .int .i64 up, (.slice (some ⟨gp, 0, none⟩) K c)]).ownsRow w.heap.size 3 1 (.slice (some ⟨gp, 0, none⟩) K c) K (ints (resP P K))) := qcv (qav HPT6.out fun b hb => setRow_other _ _ _ _ (hn1 b hb)) hw1
        have HGZ : Hid ((w6.setRow (w.heap.size + 1) #[.int .i64 k, .int .i64 m, .int .i64 u, .int .i64 g, .int .i64 sz, .int .i64 l, .int .i64 up, (.slice (some ⟨gp, 0, none⟩) K c)]).ownsRow w.heap.size 3 1 u11 (qed P K).length (ints (srtI (qed P K)))) := qcv (qav HG6.out fun b hb => setRow_other _ _ _ _ (hn2 b hb)) (by omega)
        clear hn1 hn2
        go_wp2_with (refine wpList_store_row rfl 103 (.tmp 4) (.tmp 91) rfl (w.heap.size + 1) #[.int .i64 k, .int .i64 m, .int .i64 u, .int .i64 g, .int .i64 sz, .int .i64 l, .int .i64 up, (.slice (some ⟨gp, 0, none⟩) K c)] rfl rfl 103 _ HZ6.out qxi rfl (qiw _ _ _ _ _ _ _ _ rfl) ?_)
        obtain ⟨z0, z1, z2, z3, z4, z5, z6, z7⟩ := qcg HZR.out
        exact bodyPost_ret (v := .tuple #[.agg #[.int .i64 k, .int .i64 m, .int .i64 u, .int .i64 g, .int .i64 sz, .int .i64 l, .int .i64 up, (.slice (some ⟨gp, 0, none⟩) K c)], u11, .int .i64 (qez P K s sz), .int .i64 0]) (by simp [results, Tryz.results55, go_sem, z0, z1, z2, z3, z4, z5, z6, z7, HT.out]) rfl ⟨_, c, u11, rfl, HPZ.out, HGZ.out, HBZ.out, HSQ.out⟩
     ·have b1 : decide (sz < s) = false := by rw [decide_eq_false_iff_not]; exact hlt4
      have HT : Hid (qez P K s sz = 0) := by show _ = _; unfold qez; rw [if_neg (fun h => hlt4 h.1)]
      go_upto_region 25 with fail
      generalize ((w5.setCell ⟨w.heap.size, 4, none⟩ (.int .i64 sz)).setCell ⟨w.heap.size, 7, none⟩ (.slice q K c)) = w6 at *
      obtain ⟨q0, q1, q2, q3, q4, q5, q6, q7⟩ := qcg HN6.out
      have hn1 := qbb HPT6.out HZ6.out (by decide)
      have hn2 := qbb HG6.out HZ6.out (by decide)
      have HZR : Hid ((w6.setRow (w.heap.size + 1) #[.int .i64 k, .int .i64 m, .int .i64 u, .int .i64 g, .int .i64 sz, .int .i64 l, .int .i64 up, (.slice q K c)]).heap[w.heap.size + 1]? = some (.cells #[.int .i64 k, .int .i64 m, .int .i64 u, .int .i64 g, .int .i64 sz, .int .i64 l, .int .i64 up, (.slice q K c)] 103 (0, 0))) := setRow_heap _ _ _ _ _ _ HZ6.out
      have HBZ : Hid (Below w.heap.size w (w6.setRow (w.heap.size + 1) #[.int .i64 k, .int .i64 m, .int .i64 u, .int .i64 g, .int .i64 sz, .int .i64 l, .int .i64 up, (.slice q K c)])) := qgf HB6.out (by omega) _
      have HPZ : Hid ((w6.setRow (w.heap.size + 1) #[.int .i64 k, .int .i64 m, .int .i64 u, .int .i64 g, .int .i64 sz, .int .i64 l, .int .i64 up, (.slice q K c)]).ownsRow w.heap.size 3 1 (.slice q K c) K (ints (resP P K))) := qcv (qav HPT6.out fun b hb => setRow_other _ _ _ _ (hn1 b hb)) hw1
      have HGZ : Hid ((w6.setRow (w.heap.size + 1) #[.int .i64 k, .int .i64 m, .int .i64 u, .int .i64 g, .int .i64 sz, .int .i64 l, .int .i64 up, (.slice q K c)]).ownsRow w.heap.size 3 1 u11 (qed P K).length (ints (srtI (qed P K)))) := qcv (qav HG6.out fun b hb => setRow_other _ _ _ _ (hn2 b hb)) (by omega)
      clear hn1 hn2
      go_wp2_with (refine wpList_store_row rfl 103 (.tmp 4) (.tmp 91) rfl (w.heap.size + 1) #[.int .i64 k, .int .i64 m, .int .i64 u, .int .i64 g, .int .i64 sz, .int .i64 l, .int .i64 up, (.slice q K c)] rfl rfl 103 _ HZ6.out qxi rfl (qiw _ _ _ _ _ _ _ _ rfl) ?_)
      obtain ⟨z0, z1, z2, z3, z4, z5, z6, z7⟩ := qcg HZR.out
      exact bodyPost_ret (v := .tuple #[.agg #[.int .i64 k, .int .i64 m, .int .i64 u, .int .i64 g, .int .i64 sz, .int .i64 l, .int .i64 up, (.slice q K c)], u11, .int .i64 (qez P K s sz), .int .i64 0]) (by simp [results, Tryz.results55, go_sem, z0, z1, z2, z3, z4, z5, z6, z7, HT.out]) rfl ⟨q, c, u11, rfl, HPZ.out, HGZ.out, HBZ.out, HSQ.out⟩
end Go.Proofs.YtpoglnpjadmbpaaGreatDoor
