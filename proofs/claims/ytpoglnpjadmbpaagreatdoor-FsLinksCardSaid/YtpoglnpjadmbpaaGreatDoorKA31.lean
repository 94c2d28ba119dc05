/- Part of the proofs of FsLinks: the texts GCommit. -/
import Derived.Test.YtpoglnpjadmbpaaGreatDoorKA30
set_option maxHeartbeats 16000000
set_option maxRecDepth 100000
namespace Go.Proofs.YtpoglnpjadmbpaaGreatDoor
open Go.RowKit
theorem ybbi {w : World} {a : Addr} {gl B : Nat} {F : Nat → Prop} {st : Dk} {sq : Int} (h : CS w a gl F st sq (fun _ => False) w) (hgl : ¬ F gl ∧ gl < w.heap.size) (hFB : ∀ i, F i → i < B) (hgB : gl < B) (v : Value) (E : List Jw) (hJ : qeh w B B v E) (hg : ybql (E.map jab)) (h0 : 0 < E.length) (hsq : 0 ≤ sq ∧ sq ≤ 1000) (hW : st.W.length < 800000) :
    Calls Tryz.prog 67 #[.pointer (some ⟨gl, 0, none⟩), v] w fun e w' => e = .returned (.int .i64 0) ∧ CS w a gl F (runE st (opsJ (sq + 1) (E.map jab))) (sq + 1) (fun _ => False) w' := by
  have HR : Hid (Calls Tryz.prog 104 #[.pointer (some ⟨gl, 0, none⟩), v] w fun e w' => e = .returned (.int .i64 0) ∧ Below w.heap.size w w') := by
    obtain ⟨F', h1, _⟩ := id h
    have h2 := ybun h1 h.log v E (qai.of_owns hJ.1) (fun x hx => ybno (hJ.2 x hx)) (by have := hg.l; rw [List.length_map] at this; omega)
    rw [ybje hg hJ.2] at h2
    exact h2
  have HC := Lib.hid h
  have HGL := Lib.hid hgl
  have HFB := Lib.hid hFB
  have HJ := Lib.hid hJ.2
  have HJ2 := Lib.hid hJ
  have HG := Lib.hid hg
  obtain ⟨p, cp, rfl, HP⟩ := qqe (qai.of_owns hJ.1)
  obtain ⟨N, HN⟩ : ∃ N, Hid (E.length = N) := ⟨_, rfl⟩
  have hPB : ∀ q, p = some q → B ≤ q.block := fun q hq => (hJ.1.lt q.block (by rw [hq]; rfl)).1
  have HPB := Lib.hid hPB
  have hN4 : E.length ≤ 30 := by have := hg.l; rwa [List.length_map] at this
  rw [HN.out] at HP h0 hN4
  rw [HN.out]
  rw [HN.out] at HR
  obtain ⟨L, HL⟩ : ∃ L, Hid (E.map jab = L) := ⟨_, rfl⟩
  have HLN : Hid (L.length = N) := by show _ = _; rw [← HL.out, List.length_map]; exact HN.out
  rw [HL.out] at HG
  have hgoal : Calls Tryz.prog 67 #[.pointer (some ⟨gl, 0, none⟩), .slice p N cp] w fun e w' => e = .returned (.int .i64 0) ∧ CS w a gl F (runE st (opsJ (sq + 1) L)) (sq + 1) (fun _ => False) w' := by
    have hN0 : ((N : Int) == 0) = false := by rw [beq_eq_false_iff_ne]; omega
    obtain ⟨hs0, hs1⟩ := hsq
    have HWW := Lib.hid hW
    obtain ⟨Z, HZ⟩ : ∃ Z, Hid (Z = zS) := ⟨_, rfl⟩
    have hmk : ∀ W : World, (Instr.makeSlice 38 (.int .i64 64) (.int .i64 64)).run Tryz.prog W = .ok (.slice (some ⟨W.heap.size, 0, none⟩) 64 64) (W.alloc (.cells (u8s Z).toArray 5)) := fun W => by
      rw [HZ.out]; exact qht 64 64 rfl (by omega) W
    clear h hgl hFB hJ hg hPB hW
    go_enter Tryz.func67, Tryz.ntmps67
    go_wp2_with fail
    refine HR.out.mono ?_
    rintro e w1 ⟨rfl, hb1⟩
    have HC1 := Lib.hid ((HC.out.below HGL.out hb1).mono (G' := fun _ => False) (fun _ h => h.elim))
    clear hb1 HR
    obtain ⟨l0, l1, l2, l3, hlt, lz⟩ := HC1.out.cells
    go_wp2_with fail
    refine (HC1.out.flush HGL.out).mono ?_
    rintro e w2 ⟨rfl, hc2, _⟩
    have HC2 := Lib.hid hc2
    clear hc2 l0 l1 l2 l3 lz hlt HC1
    obtain ⟨l0, l1, l2, l3, hlt, lz⟩ := HC2.out.cells
    have hc3 := HC2.out.count HGL.out (sq + 1)
    have hc4 := (hc3.below HGL.out ((Below.refl _ _).alloc (Nat.le_refl _) (.cells (u8s Z).toArray 5))).mono (G' := fun i => i = (w2.setCell ⟨gl, 3, none⟩ (.int .u32 (sq + 1))).heap.size) (fun i hi => Or.inr ⟨by omega, by subst hi; simp⟩)
    have hz4 := heap_alloc_new (w2.setCell ⟨gl, 3, none⟩ (.int .u32 (sq + 1))) (.cells (u8s Z).toArray 5)
    rw [show (w2.setCell ⟨gl, 3, none⟩ (.int .u32 (sq + 1))).heap.size = w2.heap.size by simp [World.setCell]] at hc4 hz4
    have HC4 := Lib.hid hc4
    have HZ4 := Lib.hid hz4
    clear hc3 hc4 hz4
    go_wp2
    have HWL : Hid ((doE st barR).W.length ≤ 800001) := by have h1 := qvu st barR; have h2 := HWW.out; show _ ≤ _; omega
    obtain ⟨s1, Hs1⟩ : ∃ s, Hid (doE st barR = s) := ⟨_, rfl⟩
    rw [Hs1.out] at HC4 HWL
    clear HC2 l0 l1 l2 l3 hlt lz HC hmk
    generalize (w2.setCell ⟨gl, 3, none⟩ (.int .u32 (sq + 1))).alloc (.cells (u8s Z).toArray 5) = w4 at *
    generalize w2.heap.size = gn at *
    obtain ⟨l0, l1, l2, l3, hlt, lz⟩ := HC4.out.cells
    go_still_tail 9, (by kernel_rfl)
    go_wp2_with fail
    refine (HC4.out.drew.write HGL.out 5 (by omega) gn 64 zS ybwn rfl (cur := (u8s Z).toArray) HZ4.out (by rw [HZ.out]; simp [u8s, zS]) (by have := HWL.out; omega)).mono ?_
    rintro e w5 ⟨rfl, hc5, hk5⟩
    have HZ5 := Lib.hid ((hk5 gn rfl).trans HZ4.out)
    have HWL2 : Hid ((doE s1 (5, zS, false)).W.length ≤ 800002) := by have h1 := qvu s1 (5, zS, false); have h2 := HWL.out; show _ ≤ _; omega
    obtain ⟨s2, Hs2⟩ : ∃ s, Hid (doE s1 (5, zS, false) = s) := ⟨_, rfl⟩
    rw [Hs2.out] at hc5 HWL2
    have HC5 := Lib.hid hc5
    clear hc5 hk5 l0 l1 l2 l3 hlt lz HC4 HZ4 HWL
    obtain ⟨l0, l1, l2, l3, hlt, lz⟩ := HC5.out.cells
    go_wp2_with fail
    refine (HC5.out.flush HGL.out).mono ?_
    rintro e w6 ⟨rfl, hc6, hk6⟩
    have HZ6 := Lib.hid ((hk6 gn rfl).trans HZ5.out)
    have HWL3 : Hid ((doE s2 barR).W.length ≤ 800003) := by have h1 := qvu s2 barR; have h2 := HWL2.out; show _ ≤ _; omega
    obtain ⟨s3, Hs3⟩ : ∃ s, Hid (doE s2 barR = s) := ⟨_, rfl⟩
    rw [Hs3.out] at hc6 HWL3
    have HC6 := Lib.hid hc6
    clear hc6 hk6 l0 l1 l2 l3 hlt lz HC5 HZ5 HWL2
    obtain ⟨l0, l1, l2, l3, hlt, lz⟩ := HC6.out.cells
    have hmk : ∀ W : World, (Instr.makeSlice 38 (.int .i64 64) (.int .i64 64)).run Tryz.prog W = .ok (.slice (some ⟨W.heap.size, 0, none⟩) 64 64) (W.alloc (.cells (u8s Z).toArray 5)) := fun W => by
      rw [HZ.out]; exact qht 64 64 rfl (by omega) W
    go_upto_region 12 with fail
    clear hmk
    have hH7 := heap_alloc_new w6 (.cells (u8s Z).toArray 5)
    have hc7 := (HC6.out.below HGL.out ((Below.refl _ _).alloc (Nat.le_refl _) (.cells (u8s Z).toArray 5))).mono (G' := fun i => i = gn ∨ i = w6.heap.size) (fun i hi => hi.imp id (fun h => ⟨by omega, by subst h; simp⟩))
    have hne : gn ≠ w6.heap.size := by have := HC6.out.own (i := gn) rfl; omega
    have HZ7 : Hid ((w6.alloc (.cells (u8s Z).toArray 5)).heap[gn]? = some (.cells (u8s Z).toArray 5 (0, 0))) := qad HZ6.out _
    clear l0 l1 l2 l3 hlt lz HC6 HZ6
    generalize w6.alloc (.cells (u8s Z).toArray 5) = w7 at *
    generalize w6.heap.size = gh at *
    have z0 : w7.cell? ⟨gh, 0, none⟩ = some (.int .u8 0) := by rw [cell_of_row _ _ _ _ _ _ hH7, HZ.out]; rfl
    have z5 : w7.cell? ⟨gh, 5, none⟩ = some (.int .u8 0) := by rw [cell_of_row _ _ _ _ _ _ hH7, HZ.out]; rfl
    have f0 : w7.frozen? ⟨gh, 0, none⟩ = false := frozen_of_row _ _ _ _ _ hH7
    have f5 : w7.frozen? ⟨gh, 5, none⟩ = false := frozen_of_row _ _ _ _ _ hH7
    have hgh : gh < w7.heap.size := qac hH7
    have HH8 : Hid (((w7.setCell ⟨gh, 0, none⟩ (.int .u8 74)).setCell ⟨gh, 5, none⟩ (.int .u8 (N : Int))).heap[gh]? = some (.cells (u8s ((Z.set 0 74).set 5 (N : Int))).toArray 5 (0, 0))) := by
      have h1 := qbu (i := 0) hH7 (.int .u8 74)
      rw [qxc] at h1
      have h2 := qbu (i := 5) h1 (.int .u8 (N : Int))
      rw [qxc] at h2
      exact h2
    have hk78 : qab (fun i => i = gn ∨ i = gh) w7 ((w7.setCell ⟨gh, 0, none⟩ (.int .u8 74)).setCell ⟨gh, 5, none⟩ (.int .u8 (N : Int))) := (qab.setCell (F := fun i => i = gn ∨ i = gh) (Or.inr rfl) _).step (qab.setCell (F := fun i => i = gn ∨ i = gh) (Or.inr rfl) _)
    have HC8 := Lib.hid ((hc7.mem HGL.out hk78).mono (G' := fun i => i = gn ∨ i = gh) (fun i hi => Or.inl hi))
    have HZ8 : Hid (((w7.setCell ⟨gh, 0, none⟩ (.int .u8 74)).setCell ⟨gh, 5, none⟩ (.int .u8 (N : Int))).heap[gn]? = some (.cells (u8s Z).toArray 5 (0, 0))) := (Below.heap_setCell _ _ _ _ hne).trans ((Below.heap_setCell _ _ _ _ hne).trans HZ7.out)
    clear hc7 hk78 hH7
    go_wp2
    obtain ⟨l0, l1, l2, l3, hlt, lz⟩ := HC8.out.cells
    generalize (w7.setCell ⟨gh, 0, none⟩ (.int .u8 74)).setCell ⟨gh, 5, none⟩ (.int .u8 (N : Int)) = w8 at *
    clear z0 z5 f0 f5 hgh HZ7
    have HWD := Lib.hid (qxh (sq + 1) (by omega) (by omega) w8 w8.drew ((Below.refl _ _).drew) rfl)
    refine wp_region_noPanic ?_
    go_region_held_law (fun w' => w'.cell? ⟨gl, 3, none⟩ = some (.int .u32 (sq + 1)))
      (first
        | (go_keep; done)
        | exact m1
        | exact m2)
      (first
        | (go_at_call 105; refine HWD.out.mono ?_; rintro e w9 ⟨rfl, hb9, hv9⟩
           have m1 : w9.cell? ⟨gl, 3, none⟩ = some (.int .u32 (sq + 1)) := (hb9.cell (p := ⟨gl, 3, none⟩) hlt).trans l3
           have HB9 := Lib.hid hb9
           have HV9 := Lib.hid hv9
           clear hb9 hv9)
        | (refine qkg (some 64) (by rfl) (by rfl) _ _ _ _ (by rfl) 5 u8sT qlb gh 1 63 63 _ (by rfl) (by rfl) ((Z.set 0 74).set 5 (N : Int)) (qck (sq + 1)) 5 (qaa HB9.out HH8.out) HV9.out (by simp [qck]) (by simp [qck]) (by rw [HZ.out]; simp [qck, zS]) ?_
           have hc10 := HC8.out.copied HGL.out HB9.out (g := gh) (Or.inr rfl) (u8s (over ((Z.set 0 74).set 5 (N : Int)) 1 (qck (sq + 1)))).toArray
           have hh10 := setRow_heap w9 gh _ (u8s (over ((Z.set 0 74).set 5 (N : Int)) 1 (qck (sq + 1)))).toArray _ _ (qaa HB9.out HH8.out)
           have hz10 := (setRow_other w9 gh gn (u8s (over ((Z.set 0 74).set 5 (N : Int)) 1 (qck (sq + 1)))).toArray hne).trans (qaa HB9.out HZ8.out)
           generalize w9.setRow gh (u8s (over ((Z.set 0 74).set 5 (N : Int)) 1 (qck (sq + 1)))).toArray = w10 at *
           have m2 : w10.cell? ⟨gl, 3, none⟩ = some (.int .u32 (sq + 1)) := hc10.cells.2.2.2.1
           have HC10 := Lib.hid hc10
           have HH10 := Lib.hid hh10
           have HZ10 := Lib.hid hz10
           clear hc10 hh10 hz10))
    refine NoPanic.normal ?_
    clear m1 m2 HV9 HB9 HC8 HH8 HZ8 HWD l0 l1 l2 l3 hlt lz
    go_wp2
    have HJ0 : Hid (LJ w a gl F s3 (sq + 1) L gn gh Z 0 (.slice none 0 0) w10) := ⟨⟨_, fun _ => False, HC10.out, ⟨Or.inl rfl, Or.inr rfl⟩, fun i hi => hi.elim, TD.nil _ _ _⟩, by rw [qps, HLN.out, ← HZ.out]; exact HH10.out, HZ10.out⟩
    clear HC10 HH10 HZ10
    go_loopw [8, 67] (fun td i wr => ∃ k : Nat, k ≤ N ∧ i = .int .i64 k ∧ Hid (LJ w a gl F s3 (sq + 1) L gn gh Z k td wr)) (fun _ i _ => N - (intOf i).toNat)
    case atStart => exact ⟨0, Nat.zero_le _, rfl, HJ0⟩
    case round =>
      obtain ⟨k, hk, rfl, HLJ⟩ := hrel
      obtain ⟨G, GT, hC, hG, hGT, hT⟩ := HLJ.out.ex
      by_cases hlt : k < N
      · obtain ⟨g, o, rfl, hg, hc⟩ := HP.out (by omega)
        have hkl : k < E.length := by rw [HN.out]; exact hlt
        obtain ⟨e0, e1⟩ := qgo E k hkl
        have hx := HJ.out E[k] (List.getElem_mem hkl)
        have hkL : k < L.length := by rw [HLN.out]; exact hlt
        have hLk : L[k] = jab E[k] := by simp only [← HL.out, List.getElem_map]
        have hgx := HG.out.n L[k] (List.getElem_mem hkL)
        have hhs := ybhv (sq := sq + 1) hkL
        have hds := ybhb hkL
        have hes := yble hkL
        rw [hLk] at hgx hhs hds hes
        generalize E[k] = x at e0 e1 hx hgx hhs hds hes
        have HX := Lib.hid hx
        obtain ⟨xn, xv, xD⟩ := x
        obtain ⟨hx256, hxD, gx, cx, curx, hxv, _⟩ := hx
        dsimp only [jab] at hxv e0 e1 hgx hhs hds hes hx256 hxD
        subst hxv
        have hgB2 : B ≤ g := HPB.out _ rfl
        have hgF : ¬ (F g ∨ g = gl) := by
          rintro (h | h)
          · have := HFB.out g h; omega
          · omega
        have c0 := (hC.keeps.cell (i := o + k * 2) hg hgF).trans (hc _ _ e0)
        have c1 := (hC.keeps.cell (i := o + (k * 2 + 1)) hg hgF).trans (hc _ _ e1)
        rw [← Nat.add_assoc] at c1
        have hlt2 : (k : Int) < (N : Int) := by omega
        have hgl : g < wr.heap.size := Nat.lt_of_lt_of_le hg hC.keeps.size
        have hgn : ¬ g = wr.heap.size := by omega
        have hghl : gh < wr.heap.size := hC.own hG.2
        have hghn : ¬ gh = wr.heap.size := by omega
        have hgnn : ¬ gn = wr.heap.size := by have := hC.own hG.1; omega
        have i6 : IntKind.i64.wrap (6 + (k : Int)) = 6 + (k : Int) := IntWalk.i64_in _ (by omega)
        have i60 : 0 ≤ 6 + (k : Int) := by omega
        have i61 : 6 + (k : Int) < 64 := by omega
        have i62 : (6 + (k : Int)).toNat = 6 + k := by omega
        have ku : IntKind.u8.wrap (xn : Int) = (xn : Int) := IntWalk.u8_in _ (by omega)
        have hk6 : 6 + k < 64 := by omega
        have z6 : wr.cell? ⟨gh, 6 + k, none⟩ = (u8s (qps (sq + 1) L k))[6 + k]? := by rw [cell_of_row _ _ _ _ _ _ HLJ.out.hh]; simp
        rw [qcj _ _ (by rw [qmv]; exact hk6)] at z6
        have f6 : wr.frozen? ⟨gh, 6 + k, none⟩ = false := frozen_of_row _ _ _ _ _ HLJ.out.hh
        have HC := Lib.hid hC
        have HGG := Lib.hid hG
        have HGT := Lib.hid hGT
        have HT := Lib.hid hT
        have HHS := Lib.hid hhs
        have HDS := Lib.hid hds
        have HES := Lib.hid hes
        have HGX := Lib.hid hgx
        clear hC hG hGT hT hhs hds hes hgx hc e0 e1 hLk
        go_wp2
        have hszA : (wr.setCell ⟨gh, 6 + k, none⟩ (.int .u8 (xn : Int))).heap.size = wr.heap.size := by simp [World.setCell]
        have hcA := ((((HC.out.mem HGL.out (qab.setCell (F := G) (p := ⟨gh, 6 + k, none⟩) HGG.out.2 (.int .u8 (xn : Int)))).mono (G' := G) fun i hi => Or.inl hi).below HGL.out ((Below.refl _ _).alloc (Nat.le_refl _) (.cells #[.int .i64 (xn : Int), .slice (some ⟨gx, 0, none⟩) 64 cx] 169)))).mono (G' := fun i => G i ∨ i = wr.heap.size) (fun i hi => hi.imp id (fun h => by subst h; rw [hszA]; exact ⟨Nat.le_refl _, by simp [hszA]⟩))
        have hhA := qad (qbu (i := 6 + k) HLJ.out.hh (.int .u8 (xn : Int))) (.cells #[.int .i64 (xn : Int), .slice (some ⟨gx, 0, none⟩) 64 cx] 169)
        rw [qxc, ← HHS.out] at hhA
        have hzA := qad ((Below.heap_setCell wr ⟨gh, 6 + k, none⟩ (.int .u8 (xn : Int)) gn hne).trans HLJ.out.hz) (.cells #[.int .i64 (xn : Int), .slice (some ⟨gx, 0, none⟩) 64 cx] 169)
        have hsA := heap_alloc_new (wr.setCell ⟨gh, 6 + k, none⟩ (.int .u8 (xn : Int))) (.cells #[.int .i64 (xn : Int), .slice (some ⟨gx, 0, none⟩) 64 cx] 169)
        rw [hszA] at hsA
        have htA := HT.out.keep (W' := (wr.setCell ⟨gh, 6 + k, none⟩ (.int .u8 (xn : Int))).alloc (.cells #[.int .i64 (xn : Int), .slice (some ⟨gx, 0, none⟩) 64 cx] 169)) (G' := GT) (fun i hi => (Below.heap_alloc _ _ i (by rw [hszA]; exact HC.out.own (HGT.out i hi).1)).trans (Below.heap_setCell wr _ _ i (HGT.out i hi).2.2)) (fun _ hi => hi)
        have HCA := Lib.hid hcA
        have HHA := Lib.hid hhA
        have HZA := Lib.hid hzA
        have HSA := Lib.hid hsA
        have HTA := Lib.hid htA
        have hgw : G wr.heap.size → False := fun h => by have := HC.out.own h; omega
        clear hcA hhA hzA hsA htA z6 f6 c0 c1 HC HT HLJ HHS i6 i60 i61 i62 ku hszA
        generalize (wr.setCell ⟨gh, 6 + k, none⟩ (.int .u8 (xn : Int))).alloc (.cells #[.int .i64 (xn : Int), .slice (some ⟨gx, 0, none⟩) 64 cx] 169) = wA at *
        generalize wr.heap.size = gw at *
        obtain ⟨l0, l1, l2, l3, hltl, lz⟩ := HCA.out.cells
        have c0 : wA.cell? ⟨gw, 0, none⟩ = some (.int .i64 (xn : Int)) := cell_of_row _ _ _ _ _ _ HSA.out
        have c1 : wA.cell? ⟨gw, 1, none⟩ = some (.slice (some ⟨gx, 0, none⟩) 64 cx) := cell_of_row _ _ _ _ _ _ HSA.out
        have hgwl : gw < wA.heap.size := qac HSA.out
        have i3 : IntKind.i64.wrap (6 + (k : Int)) = 6 + (k : Int) := IntWalk.i64_in _ (by omega)
        have hwr := HCA.out.drew.write_arg HGL.out (6 + k) (by omega) HFB.out HX.out (by have h1 := ybfy s3 (qpq L k); rw [qrc] at h1; have := HWL3.out; omega) hgB
        rw [show ((6 + k : Nat) : Int) = 6 + (k : Int) by omega] at hwr
        have HWR := Lib.hid hwr
        clear hwr
        go_still_tail 13, (by kernel_rfl)
        go_wp2_with fail
        refine HWR.out.mono ?_
        rintro e wB ⟨rfl, hcB, hkB⟩
        have hcBd := hcB.drew
        rw [← qsr, ← HDS.out] at hcBd
        have HCB := Lib.hid hcBd
        have hhB := (hkB gh (Or.inl HGG.out.2)).trans HHA.out
        have hzB := (hkB gn (Or.inl HGG.out.1)).trans HZA.out
        have hsB := (hkB gw (Or.inr rfl)).trans HSA.out
        have htB := HTA.out.keep (W' := wB.drew) (G' := GT) (fun i hi => hkB i (Or.inl (HGT.out i hi).1)) (fun _ hi => hi)
        have HHB := Lib.hid hhB
        have HZB := Lib.hid hzB
        have HTB := Lib.hid htB
        have x0 : wB.cell? ⟨gw, 0, none⟩ = some (.int .i64 (xn : Int)) := cell_of_row _ _ _ _ _ _ hsB
        have x1 : wB.cell? ⟨gw, 1, none⟩ = some (.slice (some ⟨gx, 0, none⟩) 64 cx) := cell_of_row _ _ _ _ _ _ hsB
        have hgwB : gw < wB.heap.size := qac hsB
        clear hcB hcBd hkB hhB hzB hsB htB HCA HHA HZA HSA HTA c0 c1 l0 l1 l2 l3 hltl lz i3 HWR hgwl HDS
        obtain ⟨ET, hET, ho, h3, h4⟩ := HTB.out
        have HET := Lib.hid hET
        have HO := Lib.hid ho
        have H3 := Lib.hid h3
        have H4 := Lib.hid h4
        have hETl : ET.length ≤ 30 := by
          have h1 : (ET.map rab).length = (emit (L.take k)).length := by rw [hET]
          rw [List.length_map] at h1
          unfold emit at h1
          rw [List.length_map, List.length_take] at h1
          omega
        have HBX := Lib.hid (HCB.out.arg HFB.out hgB HX.out)
        have hwz : w.heap.size ≤ wB.heap.size := HCB.out.keeps.size
        clear hET ho h3 h4 HTB
        have HCLN := Lib.hid (ybld _ xD wB.drew HBX.out hxD)
        obtain ⟨i0, hi0, hz0, hz1, hz2⟩ := info_parts qwq
        have HI := Lib.hid hi0
        have HZ0 := Lib.hid hz0
        have HZ1 := Lib.hid hz1
        have HZ2 := Lib.hid hz2
        clear hi0 hz0 hz1 hz2
        go_wp2_with fail
        refine wp_region_noPanic ?_
        go_region_held_law (fun w' => w'.cell? ⟨gw, 0, none⟩ = some (.int .i64 (xn : Int)) ∧ w'.cell? ⟨gw, 1, none⟩ = some (.slice (some ⟨gx, 0, none⟩) 64 cx))
          (first
            | exact ⟨m1, m2⟩
            | exact ⟨m3, m4⟩
            | (go_keep; done))
          (first
            | (go_at_call 98; refine HCLN.out.mono ?_; rintro e w2 ⟨v2, rfl, g2, cap2, cur2, rfl, hg2, hh2, ht2, hb2⟩
               have m1 : w2.cell? ⟨gw, 0, none⟩ = some (.int .i64 (xn : Int)) := (hb2.cell (p := ⟨gw, 0, none⟩) hgwB).trans x0
               have m2 : w2.cell? ⟨gw, 1, none⟩ = some (.slice (some ⟨gx, 0, none⟩) 64 cx) := (hb2.cell (p := ⟨gw, 1, none⟩) hgwB).trans x1
               have HO2 := Lib.hid (qap HO.out hb2)
               have HB2 := Lib.hid hb2
               have HG2 := Lib.hid hg2
               have HH2 := Lib.hid hh2
               have HT2 := Lib.hid ht2
               have hw2 : w.heap.size ≤ w2.heap.size := Nat.le_trans hwz hb2.size
               have hgw2 : gw < w2.heap.size := Nat.lt_of_lt_of_le hgwB hb2.size
               have hgwn : ¬ gw = w2.heap.size := by omega
               clear hg2 hh2 ht2 hb2)
            | (refine step_append_lies _ (by rfl) _ _ _ (by rfl) w.heap.size 171 i0 (.agg #[.int .i64 0, .slice none 0 0, .bool false]) 3 40 ybum HI.out HZ0.out HZ1.out HZ2.out rfl (by omega) _ ET.length (qbe ET) (by rfl) (HO2.out.alloc _)
                ⟨w2.heap.size, 0, none⟩ 1 1 [.int .i64 (xn : Int), .slice (some ⟨g2, 0, none⟩) 64 cap2, .bool false] (by rfl) (by rfl) (World.news_of_block (cs := #[.int .i64 (xn : Int), .slice (some ⟨g2, 0, none⟩) 64 cap2, .bool false]) (t := 171) (fr := (0, 0)) (heap_alloc_new w2 _)) (by simp [Value.oneCell'])
                (by omega) (by unfold maxLen; omega) (by omega) (by simp; omega) (w2.heap.size + 1) (by simp) ?_; intro gg cap4 w4 hown4 hgrow hat hlt4
               obtain ⟨ht4, hk4⟩ := TD.snoc (n := xn) (D := xD) HO.out H3.out H4.out HB2.out HG2.out HH2.out HT2.out hx256 hxD hown4 hgrow hat
               have m34 : ∀ i, w4.cell? ⟨gw, i, none⟩ = wB.cell? ⟨gw, i, none⟩ := fun i => hk4.cell hgwB (fun h => hgw (HGT.out gw h).1)
               have m3 := (m34 0).trans x0
               have m4 := (m34 1).trans x1
               have HT4 := Lib.hid ht4
               have HK4 := Lib.hid hk4
               clear ht4 hk4 m34 hown4 hgrow hat))
        all_goals
          refine NoPanic.normal ?_
          have hLJ : LJ w a gl F s3 (sq + 1) L gn gh Z (k + 1) (.slice (some ⟨gg, 0, none⟩) (ET.length + 1) cap4) w4 := by
            refine ⟨⟨_, _, HCB.out.mem HGL.out (HK4.out.mono (F1 := fun i => G i ∨ i = gw) (fun i _ hi => Or.inl (HGT.out i hi).1)), ⟨Or.inl (Or.inl HGG.out.1), Or.inl (Or.inl HGG.out.2)⟩, fun i hi => ?_, by rw [HES.out, ← HET.out]; exact HT4.out⟩, (HK4.out.block gh (qac HHB.out) (fun h => (HGT.out gh h).2.2 rfl)).trans HHB.out, (HK4.out.block gn (qac HZB.out) (fun h => (HGT.out gn h).2.1 rfl)).trans HZB.out⟩
            rcases hi with hi | hi
            · exact ⟨Or.inl (Or.inl (HGT.out i hi).1), (HGT.out i hi).2⟩
            · have e1 : gn < wB.heap.size := qac HZB.out
              have e2 : gh < wB.heap.size := qac HHB.out
              have e3 : wB.heap.size ≤ i := hi.1
              exact ⟨Or.inr hi, by omega, by omega⟩
          have HLJ2 := Lib.hid hLJ
          clear hLJ m1 m2 m3 m4 x0 x1 HO2 HB2 HG2 HH2 HT2 HT4 HK4 HO H3 H4 HET HCB HHB HZB
          go_wp2
          go_roundw
          case rel => exact ⟨k + 1, by omega, by go_num, HLJ2⟩
          case measure => simp [intOf]; omega
      · have hkN : N = k := by omega
        subst hkN
        obtain ⟨s4, Hs4⟩ : ∃ s, Hid (runE s3 (qpq L N) = s) := ⟨_, rfl⟩
        rw [List.take_of_length_le (by rw [HLN.out]; exact Nat.le_refl _)] at hT
        rw [Hs4.out] at hC
        have HWL4 : Hid (s4.W.length ≤ 800037) := by have h1 := ybfy s3 (qpq L N); rw [qrc, Hs4.out] at h1; have h2 := HWL3.out; show _ ≤ _; omega
        have hhW : qps (sq + 1) L N = qyp (sq + 1) L := by unfold qyp; rw [HLN.out]
        have hh := HLJ.out.hh
        rw [hhW] at hh
        have HH := Lib.hid hh
        have HZr := Lib.hid HLJ.out.hz
        have HC := Lib.hid hC
        have HGG := Lib.hid hG
        have HGT := Lib.hid hGT
        have HT := Lib.hid hT
        clear hC hG hGT hT hh hhW HLJ
        obtain ⟨l0, l1, l2, l3, hltl, lz⟩ := HC.out.cells
        have i3 : IntKind.i64.wrap (6 + (N : Int)) = 6 + (N : Int) := IntWalk.i64_in _ (by omega)
        have hnl : ¬ (N : Int) < (N : Int) := by omega
        go_wp2
        have hwr := HC.out.drew.write HGL.out (6 + N) (by omega) gn 64 zS ybwn HGG.out.1 (cur := (u8s Z).toArray) HZr.out (by rw [HZ.out]; simp [u8s, zS]) (by have := HWL4.out; omega)
        rw [show ((6 + N : Nat) : Int) = 6 + (N : Int) by omega] at hwr
        have HWR := Lib.hid hwr
        clear hwr
        go_still_tail 13, (by kernel_rfl)
        go_wp2_with fail
        refine HWR.out.mono ?_
        rintro e wC ⟨rfl, hcC, hkC⟩
        obtain ⟨s5, Hs5⟩ : ∃ s, Hid (doE s4 (6 + N, zS, false) = s) := ⟨_, rfl⟩
        have HWL5 : Hid (s5.W.length ≤ 800038) := by have h1 := qvu s4 (6 + N, zS, false); rw [Hs5.out] at h1; have h2 := HWL4.out; show _ ≤ _; omega
        rw [Hs5.out] at hcC
        have HCC := Lib.hid hcC
        have HHC := Lib.hid ((hkC gh HGG.out.2).trans HH.out)
        have HTC := Lib.hid (HT.out.keep (W' := wC) (G' := GT) (fun i hi => hkC i (HGT.out i hi).1) (fun _ hi => hi))
        clear hcC hkC HC HH HT HZr HWR i3 l0 l1 l2 l3 hltl lz HWL4
        obtain ⟨l0, l1, l2, l3, hltl, lz⟩ := HCC.out.cells
        go_wp2_with fail
        refine (HCC.out.flush HGL.out).mono ?_
        rintro e wD ⟨rfl, hcD, hkD⟩
        obtain ⟨s6, Hs6⟩ : ∃ s, Hid (doE s5 barR = s) := ⟨_, rfl⟩
        have HWL6 : Hid (s6.W.length ≤ 800039) := by have h1 := qvu s5 barR; rw [Hs6.out] at h1; have h2 := HWL5.out; show _ ≤ _; omega
        rw [Hs6.out] at hcD
        have HCD := Lib.hid hcD
        have HHD := Lib.hid ((hkD gh HGG.out.2).trans HHC.out)
        have HTD := Lib.hid (HTC.out.keep (W' := wD) (G' := GT) (fun i hi => hkD i (HGT.out i hi).1) (fun _ hi => hi))
        clear hcD hkD HCC HHC HTC l0 l1 l2 l3 hltl lz HWL5
        have hmk : ∀ W : World, (Instr.makeSlice 38 (.int .i64 64) (.int .i64 64)).run Tryz.prog W = .ok (.slice (some ⟨W.heap.size, 0, none⟩) 64 64) (W.alloc (.cells (u8s Z).toArray 5)) := fun W => by
          rw [HZ.out]; exact qht 64 64 rfl (by omega) W
        obtain ⟨l0, l1, l2, l3, hltl, lz⟩ := HCD.out.cells
        go_upto_region 25 with fail
        clear hmk
        have hT7 := heap_alloc_new wD (.cells (u8s Z).toArray 5)
        have hc7 := (HCD.out.below HGL.out ((Below.refl _ _).alloc (Nat.le_refl _) (.cells (u8s Z).toArray 5))).mono (G' := fun i => G i ∨ i = wD.heap.size) (fun i hi => hi.imp id (fun h => ⟨by omega, by subst h; simp⟩))
        have hgD : ∀ i, G i → i ≠ wD.heap.size := fun i hi => by have := HCD.out.own hi; omega
        have hh7 := qad HHD.out (.cells (u8s Z).toArray 5)
        have ht7 := HTD.out.keep (W' := wD.alloc (.cells (u8s Z).toArray 5)) (G' := GT) (fun i hi => Below.heap_alloc _ _ i (HCD.out.own (HGT.out i hi).1)) (fun _ hi => hi)
        have HGD := Lib.hid hgD
        clear l0 l1 l2 l3 hltl lz HCD HHD HTD hgD
        generalize wD.alloc (.cells (u8s Z).toArray 5) = wE at *
        generalize wD.heap.size = gt at *
        have z0 : wE.cell? ⟨gt, 0, none⟩ = some (.int .u8 0) := by rw [cell_of_row _ _ _ _ _ _ hT7, HZ.out]; rfl
        have f0 : wE.frozen? ⟨gt, 0, none⟩ = false := frozen_of_row _ _ _ _ _ hT7
        have hgtl : gt < wE.heap.size := qac hT7
        have hR8 := qbu (i := 0) hT7 (.int .u8 67)
        rw [qxc] at hR8
        have hk78 : qab (fun i => G i ∨ i = gt) wE (wE.setCell ⟨gt, 0, none⟩ (.int .u8 67)) := qab.setCell (F := fun i => G i ∨ i = gt) (Or.inr rfl) _
        have hc8 := (hc7.mem HGL.out hk78).mono (G' := fun i => G i ∨ i = gt) (fun i hi => Or.inl hi)
        have hh8 := (Below.heap_setCell wE ⟨gt, 0, none⟩ (.int .u8 67) gh (HGD.out gh HGG.out.2)).trans hh7
        have ht8 := ht7.keep (W' := wE.setCell ⟨gt, 0, none⟩ (.int .u8 67)) (G' := GT) (fun i hi => Below.heap_setCell wE _ _ i (HGD.out i (HGT.out i hi).1)) (fun _ hi => hi)
        have HR8 := Lib.hid hR8
        have HC8 := Lib.hid hc8
        have HH8 := Lib.hid hh8
        have HT8 := Lib.hid ht8
        clear hT7 hc7 hh7 ht7 hR8 hk78 hc8 hh8 ht8
        go_wp2
        obtain ⟨l0, l1, l2, l3, hltl, lz⟩ := HC8.out.cells
        generalize wE.setCell ⟨gt, 0, none⟩ (.int .u8 67) = wF at *
        clear z0 f0 hgtl
        have HWD := Lib.hid (qxh (sq + 1) (by omega) (by omega) wF wF.drew ((Below.refl _ _).drew) rfl)
        refine wp_region_noPanic ?_
        go_region_held_law (fun w' => w'.cell? ⟨gl, 3, none⟩ = some (.int .u32 (sq + 1)))
          (first
            | (go_keep; done)
            | exact m1
            | exact m2)
          (first
            | (go_at_call 105; refine HWD.out.mono ?_; rintro e w9 ⟨rfl, hb9, hv9⟩
               have m1 : w9.cell? ⟨gl, 3, none⟩ = some (.int .u32 (sq + 1)) := (hb9.cell (p := ⟨gl, 3, none⟩) hltl).trans l3
               have HB9 := Lib.hid hb9
               have HV9 := Lib.hid hv9
               clear hb9 hv9)
            | (refine qkg (some 132) (by rfl) (by rfl) _ _ _ _ (by rfl) 5 u8sT qlb gt 1 63 63 _ (by rfl) (by rfl) (Z.set 0 67) (qck (sq + 1)) 5 (qaa HB9.out HR8.out) HV9.out (by simp [qck]) (by simp [qck]) (by rw [HZ.out]; simp [qck, zS]) ?_
               have hc10 := HC8.out.copied HGL.out HB9.out (g := gt) (Or.inr rfl) (u8s (over (Z.set 0 67) 1 (qck (sq + 1)))).toArray
               have hr10 := setRow_heap w9 gt _ (u8s (over (Z.set 0 67) 1 (qck (sq + 1)))).toArray _ _ (qaa HB9.out HR8.out)
               have hh10 := (setRow_other w9 gt gh (u8s (over (Z.set 0 67) 1 (qck (sq + 1)))).toArray (HGD.out gh HGG.out.2)).trans (qaa HB9.out HH8.out)
               have ht10 := HT8.out.keep (W' := w9.setRow gt (u8s (over (Z.set 0 67) 1 (qck (sq + 1)))).toArray) (G' := GT) (fun i hi => (setRow_other w9 gt i _ (HGD.out i (HGT.out i hi).1)).trans (HB9.out.block i (HC8.out.own (Or.inl (HGT.out i hi).1)))) (fun _ hi => hi)
               generalize w9.setRow gt (u8s (over (Z.set 0 67) 1 (qck (sq + 1)))).toArray = wG at *
               have m2 : wG.cell? ⟨gl, 3, none⟩ = some (.int .u32 (sq + 1)) := hc10.cells.2.2.2.1
               have HCG := Lib.hid hc10
               have HRG := Lib.hid hr10
               have HHG := Lib.hid hh10
               have HTG := Lib.hid ht10
               clear hc10 hr10 hh10 ht10))
        refine NoPanic.normal ?_
        simp only [Act.put, List.setIfInBounds_toArray, List.set_cons_zero, List.set_cons_succ]
        clear m1 m2 HV9 HB9 HC8 HR8 HH8 HT8 HWD l0 l1 l2 l3 hltl lz
        have hJG := HCG.out.drew.jws HFB.out hgB HJ2.out
        rw [HN.out] at hJG
        have hsm := ybgd _ E wG.drew hJG (by rw [HN.out]; omega)
        rw [HL.out] at hsm
        have HSM := Lib.hid (hsm.mono (R' := fun e w' => e = .returned (.int .u32 (sumW L)) ∧ Below wG.heap.size wG w') fun e w' h => ⟨h.1, (Below.refl wG.heap.size wG).drew.trans h.2⟩)
        clear hsm
        have HSI := Lib.hid (ybzt L)
        clear hJG
        obtain ⟨sm, HSMq⟩ : ∃ q, Hid (sumW L = q) := ⟨_, rfl⟩
        rw [HSMq.out] at HSM HSI
        go_wp2_with fail
        refine wp_region_noPanic ?_
        go_region_held_law (fun _ => True)
          (trivial)
          (first
            | (go_at_call 106; refine HSM.out.mono ?_; rintro e w11 ⟨rfl, hb11⟩
               have HB11 := Lib.hid hb11
               clear hb11)
            | (go_at_call 105; refine (qxh sm HSI.out.1 HSI.out.2 w11 w11 (Below.refl _ _) rfl).mono ?_; rintro e w12 ⟨rfl, hb12, hv12⟩
               have HB12 := Lib.hid (Below.step HB11.out hb12)
               have HV12 := Lib.hid hv12
               clear hb12 hv12)
            | (refine qkg (some 138) (by rfl) (by rfl) _ _ _ _ (by rfl) 5 u8sT qlb gt 5 59 59 _ (by rfl) (by rfl) (over (Z.set 0 67) 1 (qck (sq + 1))) (qck sm) 5 (qaa HB12.out HRG.out) HV12.out (by simp [qck]) (by simp [qck]) (by rw [HZ.out, qne (by simp [zS, qck])]; simp [qck, zS]) ?_
               have hc10 := HCG.out.copied HGL.out HB12.out (g := gt) (Or.inr rfl) (u8s (over (over (Z.set 0 67) 1 (qck (sq + 1))) 5 (qck sm))).toArray
               have hr10 := setRow_heap w12 gt _ (u8s (over (over (Z.set 0 67) 1 (qck (sq + 1))) 5 (qck sm))).toArray _ _ (qaa HB12.out HRG.out)
               have hh10 := (setRow_other w12 gt gh (u8s (over (over (Z.set 0 67) 1 (qck (sq + 1))) 5 (qck sm))).toArray (HGD.out gh HGG.out.2)).trans (qaa HB12.out HHG.out)
               have ht10 := HTG.out.keep (W' := w12.setRow gt (u8s (over (over (Z.set 0 67) 1 (qck (sq + 1))) 5 (qck sm))).toArray) (G' := GT) (fun i hi => (setRow_other w12 gt i _ (HGD.out i (HGT.out i hi).1)).trans (HB12.out.block i (HCG.out.own (Or.inl (HGT.out i hi).1)))) (fun _ hi => hi)
               generalize w12.setRow gt (u8s (over (over (Z.set 0 67) 1 (qck (sq + 1))) 5 (qck sm))).toArray = wH at *
               have HCH := Lib.hid hc10
               have HRH := Lib.hid hr10
               have HHH := Lib.hid hh10
               have HTH := Lib.hid ht10
               clear hc10 hr10 hh10 ht10))
        refine NoPanic.normal ?_
        simp only [Act.put, List.setIfInBounds_toArray, List.set_cons_zero, List.set_cons_succ]
        clear HCG HRG HHG HTG HB11 HB12 HV12 HSM HSI
        obtain ⟨l0, l1, l2, l3, hltl, lz⟩ := HCH.out.cells
        have hwr := HCH.out.drew.write HGL.out 5 (by omega) gh 64 (qyp (sq + 1) L) (qmv _ _ _) (Or.inl HGG.out.2) HHH.out (by rw [List.take_of_length_le (by simp [qal, qyp, qmv])]) (by have := HWL6.out; omega)
        have HWR := Lib.hid hwr
        clear hwr
        go_wp2_with fail
        go_still_tail 9, (by kernel_rfl)
        go_wp2_with fail
        refine HWR.out.mono ?_
        rintro e wI ⟨rfl, hcI, hkI⟩
        obtain ⟨s7, Hs7⟩ : ∃ s, Hid (doE s6 (5, qyp (sq + 1) L, false) = s) := ⟨_, rfl⟩
        have HWL7 : Hid (s7.W.length ≤ 800040) := by have h1 := qvu s6 (5, qyp (sq + 1) L, false); rw [Hs7.out] at h1; have h2 := HWL6.out; show _ ≤ _; omega
        rw [Hs7.out] at hcI
        have HCI := Lib.hid hcI
        have HRI := Lib.hid ((hkI gt (Or.inr rfl)).trans HRH.out)
        have HTI := Lib.hid (HTH.out.keep (W' := wI) (G' := GT) (fun i hi => hkI i (Or.inl (HGT.out i hi).1)) (fun _ hi => hi))
        clear hcI hkI HCH HHH HRH HTH HWR l0 l1 l2 l3 hltl lz HWL6
        obtain ⟨l0, l1, l2, l3, hltl, lz⟩ := HCI.out.cells
        have i3 : IntKind.i64.wrap (6 + (N : Int)) = 6 + (N : Int) := IntWalk.i64_in _ (by omega)
        go_wp2_with fail
        have hwr := HCI.out.drew.write HGL.out (6 + N) (by omega) gt 64 (ybag (sq + 1) sm) (ybah _ _) (Or.inr rfl) HRI.out (by rw [HZ.out]; show (u8s (ybag (sq + 1) sm)).take 64 = _; rw [List.take_of_length_le (by rw [qal, ybah]; exact Nat.le_refl _)]) (by have := HWL7.out; omega)
        rw [show ((6 + N : Nat) : Int) = 6 + (N : Int) by omega] at hwr
        have HWR := Lib.hid hwr
        clear hwr
        go_still_tail 13, (by kernel_rfl)
        go_wp2_with fail
        refine HWR.out.mono ?_
        rintro e wJ ⟨rfl, hcJ, hkJ⟩
        obtain ⟨s8, Hs8⟩ : ∃ s, Hid (doE s7 (6 + N, ybag (sq + 1) sm, false) = s) := ⟨_, rfl⟩
        have HWL8 : Hid (s8.W.length ≤ 800041) := by have h1 := qvu s7 (6 + N, ybag (sq + 1) sm, false); rw [Hs8.out] at h1; have h2 := HWL7.out; show _ ≤ _; omega
        rw [Hs8.out] at hcJ
        have HCJ := Lib.hid hcJ
        have HTJ := Lib.hid (HTI.out.keep (W' := wJ) (G' := GT) (fun i hi => hkJ i (Or.inl (HGT.out i hi).1)) (fun _ hi => hi))
        clear hcJ hkJ HCI HRI HTI HWR l0 l1 l2 l3 hltl lz HWL7 i3
        obtain ⟨l0, l1, l2, l3, hltl, lz⟩ := HCJ.out.cells
        go_wp2_with fail
        refine (HCJ.out.flush HGL.out).mono ?_
        rintro e wK ⟨rfl, hcK, hkK⟩
        obtain ⟨s9, Hs9⟩ : ∃ s, Hid (doE s8 barR = s) := ⟨_, rfl⟩
        have HWL9 : Hid (s9.W.length ≤ 800042) := by have h1 := qvu s8 barR; rw [Hs9.out] at h1; have h2 := HWL8.out; show _ ≤ _; omega
        rw [Hs9.out] at hcK
        have HCK := Lib.hid hcK
        have HTK := Lib.hid (HTJ.out.keep (W' := wK) (G' := GT) (fun i hi => hkK i (Or.inl (HGT.out i hi).1)) (fun _ hi => hi))
        clear hcK hkK HCJ HTJ l0 l1 l2 l3 hltl lz HWL8
        obtain ⟨l0, l1, l2, l3, hltl, lz⟩ := HCK.out.cells
        have HRU := Lib.hid (HCK.out.runs HGL.out HTK.out (fun x hx => by
          obtain ⟨y, hy, rfl⟩ := List.mem_map.1 hx
          exact (HG.out.n y hy).2) (by show (emit L).length ≤ 100; unfold emit; rw [List.length_map, HLN.out]; omega) (by have := HWL9.out; omega))
        have HEQ : Hid (runE s9 (qii (emit L) 0) = runE st (opsJ (sq + 1) L)) := by
          show _ = _
          unfold opsJ opsB opsA
          rw [qnl, qnl, qnl]
          show _ = runE (doE (doE (doE (doE (doE (runE (doE (doE (doE st barR) (5, zS, false)) barR) (qpq L L.length)) (6 + L.length, zS, false)) barR) (5, qyp (sq + 1) L, false)) (6 + L.length, ybag (sq + 1) (sumW L), false)) barR) _
          rw [HLN.out, HSMq.out, Hs1.out, Hs2.out, Hs3.out, Hs4.out, Hs5.out, Hs6.out, Hs7.out, Hs8.out, Hs9.out]
        rw [HEQ.out] at HRU
        go_wp2_with fail
        refine HRU.out.mono ?_
        rintro e wL ⟨rfl, hcL⟩
        have HCL := Lib.hid hcL
        clear hcL HCK HTK HRU l0 l1 l2 l3 hltl lz
        go_wp2
        go_ret
        exact ⟨rfl, HCL.out⟩
  rw [← HL.out] at hgoal
  exact hgoal
end Go.Proofs.YtpoglnpjadmbpaaGreatDoor
