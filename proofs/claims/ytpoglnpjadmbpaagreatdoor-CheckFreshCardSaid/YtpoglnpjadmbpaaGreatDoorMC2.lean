/- Part of the proofs of CheckFresh: the texts Fs9. -/
import Derived.Test.YtpoglnpjadmbpaaGreatDoorMA43
import Derived.Test.YtpoglnpjadmbpaaGreatDoorMB3
import Derived.Test.YtpoglnpjadmbpaaGreatDoorMC1
set_option maxHeartbeats 16000000
namespace Go.Proofs.YtpoglnpjadmbpaaGreatDoor
open Go.RowKit
set_option maxRecDepth 100000 in
theorem ybdg {w : World} {gf : Nat} {s : Fs} {F : Nat → Prop} {B : Nat} {a : Addr} (h : FsAt w gf s F B a) (i : Nat) (hi : i < 32) (X : Pn) (hX : s.nodes[i]? = some X) (hk : X.k ≠ 1) (p n : Nat) (hn : n ≤ 512) :
  Calls Tryz.prog 18 #[.pointer (some ⟨gf, 0, none⟩), .int .i64 ((i : Int) + 1), .int .i64 (p : Int), .int .i64 (n : Int)] w
   (fun e w' => e = .returned (.tuple #[.slice none 0 0, .int .i64 (if X.k = 0 then 4 else 12)]) ∧ w = w') := by
 have HFI := Lib.hid (qoo h i hi X hX)
 rw [if_neg hk] at HFI
 obtain ⟨y, Hy⟩ : ∃ y, Hid ((if X.k = 0 then 4 else 12 : Int) = y) := ⟨_, rfl⟩
 have hy0 : y ≠ 0 := by rw [← Hy.out]; split <;> decide
 rw [Hy.out] at HFI ⊢
 have b0 : (y == 0) = false := by simpa using hy0
 have b1 : (y != 0) = true := by simpa using hy0
 have p1 : decide ((p : Int) < 0) = false := decide_eq_false (by omega)
 have p2 : decide ((n : Int) < 0) = false := decide_eq_false (by omega)
 have p3 : decide ((512 : Int) < (n : Int)) = false := decide_eq_false (by omega)
 have p4 : ¬ ((p : Int) < 0) := by omega
 have p5 : ¬ ((n : Int) < 0) := by omega
 have p6 : ¬ ((512 : Int) < (n : Int)) := by omega
 have p7 : ¬ (512 < n) := by omega
 clear h hX
 go_enter Tryz.func18, Tryz.ntmps18
 go_wp2_with fail
 refine HFI.out.mono ?_
 rintro e w1 ⟨rfl, rfl⟩
 go_wp2
 go_ret2
 simp
theorem qpa {w : World} {g : Nat} {a0 a1 a2 a3 a4 a5 : Value} {t : TypeId} {fr : Nat × Nat} (h : w.heap[g]? = some (.cells #[a0, a1, a2, a3, a4, a5] t fr)) :
  w.cell? ⟨g, 0, none⟩ = some a0 ∧ w.cell? ⟨g, 1, none⟩ = some a1 ∧ w.cell? ⟨g, 2, none⟩ = some a2 ∧ w.cell? ⟨g, 3, none⟩ = some a3 ∧ w.cell? ⟨g, 4, none⟩ = some a4 ∧ w.cell? ⟨g, 5, none⟩ = some a5 :=
 have c := fun i => cell_of_row _ _ i _ _ _ h
 ⟨c 0, c 1, c 2, c 3, c 4, c 5⟩
def statV (X : Pn) : Value := if X.k = 0 then .tuple #[.agg #[.int .i64 0, .int .i64 0, .int .i64 0, .int .i64 0, .int .i64 0, .int .i64 0], .int .i64 4] else .tuple #[.agg #[.int .i64 X.k, .int .i64 X.m, .int .i64 X.u, .int .i64 X.g, .int .i64 X.s, .int .i64 X.l], .int .i64 0]
set_option maxRecDepth 100000 in
theorem ybmj {w : World} {gf : Nat} {s : Fs} {F : Nat → Prop} {B : Nat} {a : Addr} (h : FsAt w gf s F B a) (i : Nat) (hi : i < 32) (X : Pn) (hX : s.nodes[i]? = some X) :
  Calls Tryz.prog 23 #[.pointer (some ⟨gf, 0, none⟩), .int .i64 ((i : Int) + 1)] w (fun e w' => e = .returned (statV X) ∧ Below w.heap.size w w') := by
 have HTH := Lib.hid (fun W (hW : Below w.heap.size w W) => qmz (h.below hW) i hi X hX)
 obtain ⟨gn, on, cn, yq, yn, yc, c195, hgn, e0, e1, e2, e3, e4, e5, e6, e7, hI⟩ := qdv h i hi X hX
 have hgf : gf < w.heap.size := block_lt_of_cell c195
 have hg1 : ¬ gf = w.heap.size := by omega
 have hg2 : ¬ gn = w.heap.size := by omega
 have i1 : IntKind.i64.wrap ((i : Int) + 1 - 1) = (i : Int) := by rw [IntWalk.i64_in _ (by omega)]; omega
 obtain ⟨y, Hy⟩ : ∃ y, Hid (X.k = y) := ⟨_, rfl⟩
 unfold statV
 rw [Hy.out] at e0 HTH ⊢
 clear h hX hI
 by_cases hy : y = 0
 ·subst hy
  rw [if_pos rfl]
  rw [show decide ((0 : Int) ≠ 0) = false from rfl] at HTH
  go_enter Tryz.func23, Tryz.ntmps23
  go_wp2_with fail
  refine (HTH.out _ ((Below.refl _ _).alloc (Nat.le_refl _) _)).mono ?_
  rintro e w1 ⟨rfl, rfl⟩
  go_wp2
  have hz := heap_alloc_new w (.cells #[.int .i64 0, .int .i64 0, .int .i64 0, .int .i64 0, .int .i64 0, .int .i64 0] 52)
  obtain ⟨z0, z1, z2, z3, z4, z5⟩ := qpa hz
  exact bodyPost_ret (v := .tuple #[.agg #[.int .i64 0, .int .i64 0, .int .i64 0, .int .i64 0, .int .i64 0, .int .i64 0], .int .i64 4]) (by simp [results, Tryz.results23, go_sem, z0, z1, z2, z3, z4, z5]) rfl ⟨rfl, (Below.refl _ _).alloc (Nat.le_refl _) _⟩
 ·rw [if_neg hy]
  rw [show decide (y ≠ 0) = true from decide_eq_true hy] at HTH
  go_enter Tryz.func23, Tryz.ntmps23
  go_wp2_with fail
  refine (HTH.out _ ((Below.refl _ _).alloc (Nat.le_refl _) _)).mono ?_
  rintro e w1 ⟨rfl, rfl⟩
  have HZ : Hid ((w.alloc (.cells #[.int .i64 0, .int .i64 0, .int .i64 0, .int .i64 0, .int .i64 0, .int .i64 0] 52)).heap[w.heap.size]? = some (.cells #[.int .i64 0, .int .i64 0, .int .i64 0, .int .i64 0, .int .i64 0, .int .i64 0] 52 (0, 0))) := heap_alloc_new _ _
  have HBA : Hid (Below w.heap.size w (w.alloc (.cells #[.int .i64 0, .int .i64 0, .int .i64 0, .int .i64 0, .int .i64 0, .int .i64 0] 52))) := (Below.refl _ _).alloc (Nat.le_refl _) _
  go_wp2_with fail
  refine (ybup y X.m X.u X.g X.s X.l X.up _ _).mono ?_
  rintro e w2 ⟨rfl, hb2⟩
  have HZ2 := Lib.hid (qaa hb2 HZ.out)
  have HB2 : Hid (Below w.heap.size w w2) := Below.step HBA.out hb2
  obtain ⟨z0, z1, z2, z3, z4, z5⟩ := qpa HZ2.out
  have f0 : w2.frozen? ⟨w.heap.size, 0, none⟩ = false := frozen_of_row _ _ _ _ _ HZ2.out
  have f1 : w2.frozen? ⟨w.heap.size, 1, none⟩ = false := frozen_of_row _ _ _ _ _ HZ2.out
  have f2 : w2.frozen? ⟨w.heap.size, 2, none⟩ = false := frozen_of_row _ _ _ _ _ HZ2.out
  have f3 : w2.frozen? ⟨w.heap.size, 3, none⟩ = false := frozen_of_row _ _ _ _ _ HZ2.out
  have f4 : w2.frozen? ⟨w.heap.size, 4, none⟩ = false := frozen_of_row _ _ _ _ _ HZ2.out
  have f5 : w2.frozen? ⟨w.heap.size, 5, none⟩ = false := frozen_of_row _ _ _ _ _ HZ2.out
  clear hb2
  go_wp2
  have hb3 : Below w.heap.size w ((((((w2.setCell ⟨w.heap.size, 0, none⟩ (.int .i64 y)).setCell ⟨w.heap.size, 1, none⟩ (.int .i64 X.m)).setCell ⟨w.heap.size, 2, none⟩ (.int .i64 X.u)).setCell ⟨w.heap.size, 3, none⟩ (.int .i64 X.g)).setCell ⟨w.heap.size, 4, none⟩ (.int .i64 X.s)).setCell ⟨w.heap.size, 5, none⟩ (.int .i64 X.l)) := (((((HB2.out.setCell (p := ⟨w.heap.size, 0, none⟩) (Nat.le_refl _) _).setCell (p := ⟨w.heap.size, 1, none⟩) (Nat.le_refl _) _).setCell (p := ⟨w.heap.size, 2, none⟩) (Nat.le_refl _) _).setCell (p := ⟨w.heap.size, 3, none⟩) (Nat.le_refl _) _).setCell (p := ⟨w.heap.size, 4, none⟩) (Nat.le_refl _) _).setCell (p := ⟨w.heap.size, 5, none⟩) (Nat.le_refl _) _
  have hr3 : ((((((w2.setCell ⟨w.heap.size, 0, none⟩ (.int .i64 y)).setCell ⟨w.heap.size, 1, none⟩ (.int .i64 X.m)).setCell ⟨w.heap.size, 2, none⟩ (.int .i64 X.u)).setCell ⟨w.heap.size, 3, none⟩ (.int .i64 X.g)).setCell ⟨w.heap.size, 4, none⟩ (.int .i64 X.s)).setCell ⟨w.heap.size, 5, none⟩ (.int .i64 X.l)).heap[w.heap.size]? = some (.cells #[.int .i64 y, .int .i64 X.m, .int .i64 X.u, .int .i64 X.g, .int .i64 X.s, .int .i64 X.l] 52 (0, 0)) :=
   heap_setCell_same _ _ 5 _ _ _ (heap_setCell_same _ _ 4 _ _ _ (heap_setCell_same _ _ 3 _ _ _ (heap_setCell_same _ _ 2 _ _ _ (heap_setCell_same _ _ 1 _ _ _ (heap_setCell_same _ _ 0 _ _ _ HZ2.out)))))
  generalize (((((w2.setCell ⟨w.heap.size, 0, none⟩ (.int .i64 y)).setCell ⟨w.heap.size, 1, none⟩ (.int .i64 X.m)).setCell ⟨w.heap.size, 2, none⟩ (.int .i64 X.u)).setCell ⟨w.heap.size, 3, none⟩ (.int .i64 X.g)).setCell ⟨w.heap.size, 4, none⟩ (.int .i64 X.s)).setCell ⟨w.heap.size, 5, none⟩ (.int .i64 X.l) = w3 at *
  obtain ⟨q0, q1, q2, q3, q4, q5⟩ := qpa hr3
  exact bodyPost_ret (v := .tuple #[.agg #[.int .i64 y, .int .i64 X.m, .int .i64 X.u, .int .i64 X.g, .int .i64 X.s, .int .i64 X.l], .int .i64 0]) (by simp [results, Tryz.results23, go_sem, q0, q1, q2, q3, q4, q5]) rfl ⟨rfl, hb3⟩
set_option maxRecDepth 100000 in
theorem fs_Up {w : World} {gf : Nat} {s : Fs} {F : Nat → Prop} {B : Nat} {a : Addr} (h : FsAt w gf s F B a) (i : Nat) (hi : i < 32) (X : Pn) (hX : s.nodes[i]? = some X) :
  Calls Tryz.prog 44 #[.pointer (some ⟨gf, 0, none⟩), .int .i64 ((i : Int) + 1)] w (fun e w' => e = .returned (.tuple #[.int .i64 (if X.k = 2 then X.up else 0), .int .i64 (if X.k = 0 then 4 else if X.k = 2 then 0 else 12)]) ∧ w = w') := by
 have HDI := Lib.hid (qjt h i hi X hX)
 obtain ⟨gn, on, cn, yq, yn, yc, c195, hgn, e0, e1, e2, e3, e4, e5, e6, e7, hI⟩ := qdv h i hi X hX
 have i1 : IntKind.i64.wrap ((i : Int) + 1 - 1) = (i : Int) := by rw [IntWalk.i64_in _ (by omega)]; omega
 clear h hX hI
 by_cases hk : X.k = 2
 ·rw [hk, if_neg (by omega), if_pos rfl] at HDI
  rw [hk, if_pos rfl, if_neg (by omega), if_pos rfl]
  go_enter Tryz.func44, Tryz.ntmps44
  go_wp2_with fail
  refine HDI.out.mono ?_
  rintro e w1 ⟨rfl, rfl⟩
  go_wp2
  go_ret2
  simp
 ·rw [if_neg hk, if_neg hk]
  rw [if_neg hk] at HDI
  obtain ⟨y, Hy⟩ : ∃ y, Hid ((if X.k = 0 then 4 else 12 : Int) = y) := ⟨_, rfl⟩
  have hy0 : y ≠ 0 := by rw [← Hy.out]; split <;> decide
  rw [Hy.out] at HDI ⊢
  have b0 : (y == 0) = false := by simpa using hy0
  have b1 : (y != 0) = true := by simpa using hy0
  go_enter Tryz.func44, Tryz.ntmps44
  go_wp2_with fail
  refine HDI.out.mono ?_
  rintro e w1 ⟨rfl, rfl⟩
  go_wp2
  go_ret2
  simp
set_option maxRecDepth 100000 in
theorem qzp {w : World} {gf : Nat} {s : Fs} {F : Nat → Prop} {B : Nat} {a : Addr} (h : FsAt w gf s F B a) (i : Nat) (hi : i < 32) (X : Pn) (hX : s.nodes[i]? = some X) (hk : X.k ≠ 3) :
  Calls Tryz.prog 43 #[.pointer (some ⟨gf, 0, none⟩), .int .i64 ((i : Int) + 1)] w (fun e w' => e = .returned (.tuple #[.string ⟨#[]⟩, .int .i64 (if X.k = 0 then 4 else 3)]) ∧ w = w') := by
 have HTH := Lib.hid (qmz h i hi X hX)
 obtain ⟨gn, on, cn, yq, yn, yc, c195, hgn, e0, e1, e2, e3, e4, e5, e6, e7, hI⟩ := qdv h i hi X hX
 have i1 : IntKind.i64.wrap ((i : Int) + 1 - 1) = (i : Int) := by rw [IntWalk.i64_in _ (by omega)]; omega
 obtain ⟨y, Hy⟩ : ∃ y, Hid (X.k = y) := ⟨_, rfl⟩
 rw [Hy.out] at e0 HTH hk ⊢
 have b0 : (y == 3) = false := by simpa using hk
 have b1 : (y != 3) = true := by simpa using hk
 clear h hX hI
 by_cases hy : y = 0
 ·subst hy
  go_enter Tryz.func43, Tryz.ntmps43
  go_wp2_with fail
  refine HTH.out.mono ?_
  rintro e w1 ⟨rfl, rfl⟩
  go_wp2
  go_ret2
  simp
 ·rw [show decide (y ≠ 0) = true from decide_eq_true hy] at HTH
  rw [if_neg hy]
  go_enter Tryz.func43, Tryz.ntmps43
  go_wp2_with fail
  refine HTH.out.mono ?_
  rintro e w1 ⟨rfl, rfl⟩
  go_wp2
  go_ret2
  simp
set_option maxRecDepth 100000 in
theorem ybmh {w : World} {gf : Nat} {s : Fs} {F : Nat → Prop} {B : Nat} {a : Addr} (h : FsAt w gf s F B a) (i : Nat) (hi : i < 32) (X : Pn) (hX : s.nodes[i]? = some X) (hk : X.k = 2) (hP : qgp X.P s.k) (hPl : X.P.length ≤ 8) (hs : 0 ≤ X.s ∧ X.s ≤ 64 * (X.P.length : Int))
  (D : List Int) (hD : qbl (secE s) X.P X.s = D) (hDB : qeb D) (hok : qdq D = true) :
  Calls Tryz.prog 10 #[.pointer (some ⟨gf, 0, none⟩), .int .i64 ((i : Int) + 1)] w (fun e w' => ∃ v, e = .returned (.tuple #[v, .int .i64 0]) ∧ qcx w' v (outD D) ∧ Below w.heap.size w w') := by
 have HDI := Lib.hid (qjt h i hi X hX)
 rw [hk, if_neg (by omega), if_pos rfl] at HDI
 have HBG := Lib.hid (qkq h)
 have HEN : Hid (∀ (gt : Nat) (T : Nat → Prop) (W : World), Below w.heap.size w W → TxAt W w.heap.size F gt (.pointer (some ⟨gf, 0, none⟩)) ⟨s.fo, s.rows, s.nodes, [], [], [], false, 256⟩ T →
   Calls Tryz.prog 33 #[.pointer (some ⟨gt, 0, none⟩), .int .i64 ((i : Int) + 1)] W (fun e w' => ∃ v, e = .returned v ∧ qbp w' v D ∧ Below W.heap.size W w')) := fun gt T W hW hT => by
  have := qpb hT (h.below hW) i hi X hX hP hPl hs
  have he : secT ⟨s.fo, s.rows, s.nodes, [], [], [], false, 256⟩ s = secE s := by funext n; rfl
  rw [he, hD] at this
  exact this.mono fun e w' ⟨v, h1, h2, h3⟩ => ⟨v, h1, ⟨qah.of_owns h2, qma h2⟩, h3⟩
 have hDl : D.length ≤ 1000 := by
  have := qys (secE s) X.P X.s
  rw [hD] at this
  omega
 have HLS : Hid (∀ (v : Value) (W : World), qbp W v D → Calls Tryz.prog 31 #[v] W (qhp D W)) := fun v W hv => qqj v D W hv hDB (by omega)
 have HOK := Lib.hid hok
 clear h hX hP hPl hs hok hDB hDl
 go_enter Tryz.func10, Tryz.ntmps10
 go_wp2_with fail
 refine HDI.out.mono ?_
 rintro e w' ⟨rfl, rfl⟩
 go_wp2_with fail
 refine HBG.out.mono ?_
 rintro e w1 ⟨gt, T, rfl, hb1, hT1⟩
 have HB1 := Lib.hid hb1
 have HT1 := Lib.hid hT1
 clear hb1 hT1
 go_wp2_with fail
 refine (HEN.out gt T w1 HB1.out HT1.out).mono ?_
 rintro e w2 ⟨v, rfl, hv, hb2⟩
 have HV := Lib.hid hv
 have HB2 := Lib.hid (Below.step HB1.out hb2)
 clear hv hb2
 go_wp2_with fail
 refine (HLS.out v w2 HV.out).mono ?_
 intro e w3 hl
 rcases hl with ⟨_, hl⟩ | ⟨hl, _⟩
 ·obtain ⟨v3, rfl, ho, hb3⟩ := hl
  have HO : Hid (qcx w3 v3 (outD D)) := qah.of_owns ho
  have HB3 : Hid (Below w.heap.size w w3) := Below.step HB2.out hb3
  clear ho hb3
  go_wp2
  go_ret2
  exact ⟨v3, rfl, HO.out, HB3.out⟩
 ·rw [HOK.out] at hl; cases hl
end Go.Proofs.YtpoglnpjadmbpaaGreatDoor
