/- use: walked. -/
import Derived.Test.YthkcnihmfeilgaaBufUse
namespace Go.Proofs.Ythkcnihmfeilgaa
open Go.RowKit

/-- The slots, and the disk's state, when a slot comes ahead. -/
def roomE (slots : Nat) (E1 : List Sl) (st : Dk) : List Sl × Dk :=
  if E1.length = slots then
    match E1.getLast? with
    | some x => (E1.dropLast, if x.d then writeE st x.n x.D else st)
    | none => (E1, st)
  else (E1, st)
def useE (slots : Nat) (E : List Sl) (st : Dk) (s : Sl) : List Sl × Dk :=
  (s :: (roomE slots (outE E s.n) st).1, (roomE slots (outE E s.n) st).2)

theorem roomE_lt (slots : Nat) (E : List Sl) (st : Dk) (h0 : 1 ≤ slots) (h : E.length ≤ slots) : (roomE slots E st).1.length < slots := by
  unfold roomE
  split
  · rename_i hs
    cases hl : E.getLast? with
    | none =>
      rw [List.getLast?_eq_none_iff] at hl
      rw [hl] at hs
      simp at hs; omega
    | some x => simp; omega
  · simp; omega

set_option maxRecDepth 100000 in
set_option maxHeartbeats 4000000 in
theorem use_raw {w : World} {gc : Nat} {d lv : Value} {slots : Nat} {E : List Sl} {st : Dk} {k : Nat} {A F : Nat → Prop} (h : CLies w gc d lv slots E k A) (hd : DiskAt w d st k F) (hAF : ∀ i, A i → ¬ F i) (sn : Nat) (sv : Value) (sD : List Int) (sd : Bool) (hs : sn < k) (hdat : DatAt w A sv sD) (hW : st.W.length < 1000000) :
    Calls Try.prog 52 #[.pointer (some ⟨gc, 0, none⟩), .agg #[.int .i64 (sn : Int), sv, .bool sd]] w fun e w' => e = .returned (.tuple #[]) ∧ BufDid (.pointer (some ⟨gc, 0, none⟩)) d slots (useE slots E st ⟨sn, sv, sD, sd⟩).1 (useE slots E st ⟨sn, sv, sD, sd⟩).2 k A F w w' := by
  obtain ⟨gv, cv, hsv⟩ : ∃ gv cv, sv = .slice (some ⟨gv, 0, none⟩) 64 cv := by
    obtain ⟨g', c', _, h1, _⟩ := hdat
    exact ⟨g', c', h1⟩
  subst hsv
  have hlt : gc < w.heap.size := h.fin _ h.agc
  have H := Lib.hid h
  have HD := Lib.hid hd
  have HAF := Lib.hid hAF
  have HDAT := Lib.hid hdat
  have hfin := h.fin
  have HFIN := Lib.hid hfin
  clear h hd hAF hdat hfin
  go_enter Try.func52, Try.ntmps52
  go_wp2_with fail
  refine (find_any (H.out.below ((Below.refl _ _).alloc (Nat.le_refl _) _)) sn).mono ?_
  rintro e w1 ⟨rfl, hb1⟩
  have hb0 : Below w.heap.size w w1 := Below.step ((Below.refl _ _).alloc (Nat.le_refl _) _) hb1
  have H1 := Lib.hid (H.out.below hb0)
  have HD1 := Lib.hid (HD.out.below hb0)
  have HBOX := Lib.hid (heap_below hb1 (heap_alloc_new w (.cells #[.int .i64 (sn : Int), .slice (some ⟨gv, 0, none⟩) 64 cv, .bool sd] 82)))
  have hlt1 : gc < w1.heap.size := H1.out.fin _ H1.out.agc
  clear hb1
  go_upto_if 11 with fail
  go_cut [0, 4] (fun s0 s4 wx => s0 = .pointer (some ⟨gc, 0, none⟩) ∧ Hid (Gone gc d slots (outE E sn) st k A F w wx) ∧ Hid (wx.heap[w.heap.size]? = some (.cells #[.int .i64 (sn : Int), .slice (some ⟨gv, 0, none⟩) 64 cv, .bool sd] 82 (0, 0))))
  case first =>
    rcases idxO_spec E sn with ⟨hi, hno⟩ | ⟨i, hil, hi, hin, hfirst⟩
    · have HI : Hid (idxI E sn = -1) := by show _ = _; unfold idxI; rw [hi]
      have HG : Hid (Gone gc d slots (outE E sn) st k A F w w1) := by
        show Gone _ _ _ _ _ _ _ _ _ _
        rw [outE_none hi]
        exact ⟨lv, A, H1.out, HD1.out, HAF.out, fun _ h => Or.inl h, fun _ h => h, Keeps.of_below hb0, fun v D hvd => hvd.keep (fun i _ _ hc => hb0.block i (heap_lt hc)) fun _ h => h⟩
      clear hi hno
      rw [HI.out]
      go_wp2_with fail
      go_meet
      case rel => exact ⟨rfl, HG, HBOX⟩
    · have HI : Hid (idxI E sn = (i : Int)) := by show _ = _; unfold idxI; rw [hi]
      have HIO : Hid (idxO E sn = some i) := hi
      clear hi hin hfirst
      rw [HI.out]
      have c2 := H1.out.c2
      have hl32 : i ≤ 32 := by have := H.out.len; have := H.out.s1; omega
      go_wp2_with fail
      refine (delete_anySlot i E.length lv (scells E) _ (by have := H.out.len; have := H.out.s1; omega) hil H1.out.own H1.out.ones).mono ?_
      rintro e w2 ⟨v', rfl, hr1, hr2, hr3⟩
      obtain ⟨q2, cp2, hv2, _⟩ := owns_slice hr1
      subst hv2
      have hk2 := hr2
      have HG := Lib.hid (gone_delete H1.out HD1.out HAF.out HIO.out hb0 HFIN.out ⟨_, rfl, hr1, hr2, hr3⟩)
      have hc2 : w2.heap[gc]? = some (.cells #[d, .int .i64 (slots : Int), lv] 85 (0, 0)) := (hr2.block gc hlt1 H1.out.ne).trans H1.out.hc
      have k2 : w2.cell? ⟨gc, 2, none⟩ = some lv := cell_of_row _ _ _ _ _ _ hc2
      have z2 : w2.frozen? ⟨gc, 2, none⟩ = false := by simp [World.frozen?, hc2]
      have hlt2 : gc < w2.heap.size := heap_lt hc2
      have hbx : lv.ownBlock ≠ some w.heap.size := fun e => by
        have := HFIN.out _ (H1.out.aown _ e)
        omega
      have HBX : Hid ((w2.setCell ⟨gc, 2, none⟩ (.slice q2 (E.length - 1) cp2)).heap[w.heap.size]? = some (.cells #[.int .i64 (sn : Int), .slice (some ⟨gv, 0, none⟩) 64 cv, .bool sd] 82 (0, 0))) :=
        (Below.heap_setCell w2 _ _ _ (by show w.heap.size ≠ gc; omega)).trans ((hr2.block _ (heap_lt HBOX.out) hbx).trans HBOX.out)
      clear hr1 hr2 hr3 hc2 hk2 c2
      go_wp2_with fail
      go_meet
      case rel => exact ⟨rfl, HG, HBX⟩
  case rest =>
    obtain ⟨rfl, HG, HBX⟩ := hcut
    obtain ⟨wb, hwb⟩ : ∃ x, x = wc := ⟨_, rfl⟩
    subst hwb
    obtain ⟨lv1, A1, g1, g2, g3, g4, g5, g6, g7⟩ := HG.out
    have G7 := Lib.hid g7
    have G1 := Lib.hid g1
    have G2 := Lib.hid g2
    have G3 := Lib.hid g3
    have G4 := Lib.hid g4
    have G5 := Lib.hid g5
    have G6 := Lib.hid g6
    obtain ⟨q, cp, hlv, hq⟩ := owns_slice g1.own
    have HQ := Lib.hid hq
    have c1 := g1.c1
    have c2 := g1.c2
    have hlen := g1.len
    have hs1 := g1.s1
    have hs0 := g1.s0
    rw [hlv] at c2
    obtain ⟨n, HN⟩ : ∃ n, Hid (n = (outE E sn).length) := ⟨_, rfl⟩
    have hltc : gc < wb.heap.size := g1.fin _ g1.agc
    rw [← HN.out] at c2 hlen HQ
    have HLV := Lib.hid hlv
    clear g1 g2 g3 g4 g5 g6 g7 hq hlv HG hb0
    have hb32 : ((n : Int) == (slots : Int)) = decide (n = slots) := by
      by_cases e : n = slots
      · subst e; simp
      · rw [decide_eq_false e, beq_eq_false_iff_ne]; omega
    go_upto_region 4 with fail
    go_cut [0, 32] (fun s0 s32 wx => s0 = .pointer (some ⟨gc, 0, none⟩) ∧ s32 = .bool (decide (n = slots)) ∧ Hid (Below wb.heap.size wb wx))
    case first =>
      go_quiet (fail)
      go_wp2_with fail
      go_meet
      case rel => exact ⟨rfl, by rw [← hb32], below_dN (Below.refl _ _) _⟩
    case rest =>
    obtain ⟨rfl, rfl, HBW⟩ := hcut
    have G1' := Lib.hid (G1.out.below HBW.out)
    have G2' := Lib.hid (G2.out.below HBW.out)
    have G6' : Hid (Keeps A w wc) := G6.out.trans (Keeps.of_below HBW.out (F := fun _ => False)) (fun _ h => h.elim)
    have HBX' := Lib.hid (heap_below HBW.out HBX.out)
    have G7' : Hid (∀ v D, DatAt w A v D → DatAt wc A1 v D) := fun v D hvd => (G7.out v D hvd).keep (fun i _ _ hc => HBW.out.block i (heap_lt hc)) fun _ h => h
    have c2' := G1'.out.c2
    rw [HLV.out] at c2'
    have hltc' : gc < wc.heap.size := G1'.out.fin _ G1'.out.agc
    have HQ' : Hid (0 < n → ∃ g, q = some ⟨g, 0, none⟩ ∧ g < wc.heap.size ∧ ∀ (j : Nat) (x : Value), (scells (outE E sn))[j]? = some x → wc.cell? ⟨g, j, none⟩ = some x) := fun h0 => by
      obtain ⟨g, hg, _, hc⟩ := HQ.out h0
      have hl : g < wb.heap.size := (G1.out.own.lt g (by rw [HLV.out, hg]; rfl)).2
      exact ⟨g, hg, Nat.lt_of_lt_of_le hl HBW.out.size, fun j x hx => (HBW.out.cell (p := ⟨g, j, none⟩) hl).trans (hc j x hx)⟩
    clear c1 c2 hltc
    rw [← HN.out] at c2'
    go_upto_if 32 with fail
    go_cut [0, 5] (fun s0 s5 wx => s0 = .pointer (some ⟨gc, 0, none⟩) ∧ Hid (Mid gc d slots (roomE slots (outE E sn) st).1 (roomE slots (outE E sn) st).2 k A F w wx) ∧ Hid (wx.heap[w.heap.size]? = some (.cells #[.int .i64 (sn : Int), .slice (some ⟨gv, 0, none⟩) 64 cv, .bool sd] 82 (0, 0))))
    case first =>
      by_cases hfull : n = slots
      · subst hfull
        have hne : decide (n = n) = true := by simp
        have hne2 : ((n : Int) == (n : Int)) = true := by simp
        obtain ⟨g, hqg, hgl, hcells⟩ := HQ'.out (by omega)
        subst hqg
        have hnl : n - 1 < (outE E sn).length := by rw [← HN.out]; omega
        obtain ⟨e0, e1, e2⟩ := scells_get (outE E sn) (n - 1) hnl
        obtain ⟨x, Hx⟩ : ∃ x, Hid (x = (outE E sn)[n - 1]) := ⟨(outE E sn)[n - 1], rfl⟩
        rw [← Hx.out] at e0 e1 e2
        have l0 := hcells _ _ e0
        have l1 := hcells _ _ e1
        have l2 := hcells _ _ e2
        have HXD : Hid (x.n < k ∧ DatAt wc A1 x.v x.D) := by
          have hm : x ∈ outE E sn := by rw [Hx.out]; exact List.getElem_mem hnl
          exact ⟨G1'.out.ns x hm, G1'.out.dat x hm⟩
        have HRO : Hid (roomE n (outE E sn) st = ((outE E sn).dropLast, if x.d then writeE st x.n x.D else st)) := by
          show _ = _
          unfold roomE
          rw [if_pos HN.out.symm, List.getLast?_eq_getElem?, ← HN.out, List.getElem?_eq_getElem hnl, ← Hx.out]
        have p1 : IntKind.i64.wrap ((n : Int) - 1) = (n : Int) - 1 := IntWalk.i64_in _ (by omega)
        have p2 : ((n : Int) - 1).toNat = n - 1 := by omega
        have p3 : 0 ≤ (n : Int) - 1 := by omega
        have p4 : (n : Int) - 1 < (n : Int) := by omega
        have p5 : 1 ≤ (n : Int) := by omega
        have kn1 : ¬ g = wc.heap.size := by omega
        have kn2 : ¬ gc = wc.heap.size := by omega
        clear hcells e0 e1 e2
        obtain ⟨xn, Hxn⟩ : ∃ q, Hid (x.n = q) := ⟨_, rfl⟩
        obtain ⟨xv, Hxv⟩ : ∃ q, Hid (x.v = q) := ⟨_, rfl⟩
        obtain ⟨xd, Hxd⟩ : ∃ q, Hid (x.d = q) := ⟨_, rfl⟩
        rw [Hxn.out] at l0
        rw [Hxv.out] at l1
        obtain ⟨gx, cx, hxv0⟩ : ∃ gx cx, xv = .slice (some ⟨gx, 0, none⟩) 64 cx := by
          obtain ⟨g', c', _, h1, _⟩ := HXD.out.2
          exact ⟨g', c', by rw [← Hxv.out, h1]⟩
        subst hxv0
        rw [Hxd.out] at l2
        go_wp2_with fail
        go_region
        all_goals
          have hbD : Below wc.heap.size wc (wc.alloc (.cells #[.int .i64 (xn : Int), .slice (some ⟨gx, 0, none⟩) 64 cx, .bool xd] 82)).drew := ((Below.refl _ _).alloc (Nat.le_refl _) _).drew
          have g1 := G1'.out.below hbD
          have g2 := G2'.out.below hbD
          have hbx := heap_below hbD HBX'.out
          have h5 : (wc.alloc (.cells #[.int .i64 (xn : Int), .slice (some ⟨gx, 0, none⟩) 64 cx, .bool xd] 82)).drew.heap[wc.heap.size]? = some (.cells #[.int .i64 (xn : Int), .slice (some ⟨gx, 0, none⟩) 64 cx, .bool xd] 82 (0, 0)) := heap_alloc_new wc _
          generalize (wc.alloc (.cells #[.int .i64 (xn : Int), .slice (some ⟨gx, 0, none⟩) 64 cx, .bool xd] 82)).drew = wd at *
          have HBD := Lib.hid hbD
          have GD1 := Lib.hid g1
          have GD2 := Lib.hid g2
          have HBXD := Lib.hid hbx
          have d0 := g1.c0
          have d2 := g1.c2
          rw [HLV.out] at d2
          rw [← HN.out] at d2
          have b0 := cell_of_row wd _ 0 _ _ _ h5
          have b1 := cell_of_row wd _ 1 _ _ _ h5
          have b2 := cell_of_row wd _ 2 _ _ _ h5
          have hld : gc < wd.heap.size := g1.fin _ g1.agc
          obtain ⟨m5, Hm5⟩ : ∃ m5, m5 = wc.heap.size := ⟨_, rfl⟩
          have hl5 : wc.heap.size < wd.heap.size := heap_lt h5
          clear hbD g1 g2 hbx h5 c2' l0 l1 l2 hltc' hgl kn1 kn2
          have hncp : n ≤ cp := by
            obtain ⟨_, ⟨hv, h0⟩ | ⟨g', cap', cur, hv, _, _, hh, _⟩⟩ := GD1.out.own
            · rw [HLV.out] at hv; cases hv
            · rw [HLV.out] at hv
              have e1 := congrArg (fun v => match v with | Value.slice _ _ c => c | _ => 0) hv
              simp only at e1
              rw [← HN.out] at hh
              omega
          have p6 : (n : Int) - 1 ≤ (cp : Int) := by omega
          have z2 : wd.frozen? ⟨gc, 2, none⟩ = false := GD1.out.z 2
          have HKD : Hid (Keeps (fun i => A i ∨ F i) w wd) := (G6'.out.mono fun _ _ h => Or.inl h).trans (Keeps.of_below HBD.out (F := fun _ => False)) fun _ h => h.elim
          have G8 : Hid (∀ v D, DatAt w A v D → DatAt wd A1 v D) := fun v D hvd => (G7'.out v D hvd).keep (fun i _ _ hc => HBD.out.block i (heap_lt hc)) fun _ h => h
          have HLE : Hid (gc ≠ w.heap.size) := fun e => by have := HFIN.out gc H.out.agc; omega
          cases xd with
          | true =>
            rw [Hxd.out] at HRO
            go_wp2_with fail
            go_still_tail 8, (by kernel_rfl)
            go_wp2_with fail
            have HXV : Hid (DatAt wd A1 (.slice (some ⟨gx, 0, none⟩) 64 cx) x.D) := by
              have := HXD.out.2
              rw [Hxv.out] at this
              exact this.keep (fun i c _ hc => HBD.out.block i (heap_lt hc)) fun _ h => h
            refine (write_at (GD2.out.below (Below.refl _ _).drew) xn (by rw [← Hxn.out]; exact HXD.out.1) _ x.D (by obtain ⟨_, _, _, _, h, _⟩ := HXV.out; exact h) (fun w' hk => (HXV.out.keep (A' := A1) (fun i c hi hc => hk.block i (heap_lt hc) (G3.out i hi)) fun _ h => h).bytes) hW).mono ?_
            rintro e we ⟨rfl, F2, f1, f2, f3⟩
            have f3' : Keeps F wd we := (Keeps.refl F wd).drew.step f3
            have GE1 := Lib.hid (GD1.out.keeps f3' G3.out)
            have HBXE : Hid (we.heap[w.heap.size]? = some (.cells #[.int .i64 (sn : Int), .slice (some ⟨gv, 0, none⟩) 64 cv, .bool sd] 82 (0, 0))) := (f3'.block _ (heap_lt HBXD.out) (fun hf => by have := HD.out.fin _ hf; omega)).trans HBXD.out
            have hds : wd.heap.size ≤ we.heap.size := f3'.size
            have hwd := HKD.out.size
            have HMD := Lib.hid (mid_cut (w := w) (A := A) (F := F) (by have := GE1.out; rw [HLV.out, ← HN.out] at this; exact this) HN.out f1 (fun i hi hf => by
              rcases f2 i hf with h | h
              · exact G3.out i hi h
              · exact absurd (GD1.out.fin i hi) (Nat.not_lt.2 h)) G4.out (fun i hi => (f2 i hi).imp id fun h => Nat.le_trans hwd h) G5.out (HKD.out.step (f3'.mono fun _ _ h => Or.inr h)) fun v D hvd => (G8.out v D hvd).keep (fun i c hi hc => f3'.block i (heap_lt hc) (G3.out i hi)) fun _ h => h)
            have k2 := GE1.out.c2
            rw [HLV.out, ← HN.out] at k2
            have z3 : we.frozen? ⟨gc, 2, none⟩ = false := GE1.out.z 2
            have hle : gc < we.heap.size := GE1.out.fin _ GE1.out.agc
            clear d0 d2 b0 b1 b2 z2 hld f1 f2 f3 f3'
            go_wp2_with fail
            go_still_tail 14, (by kernel_rfl)
            go_wp2_with fail
            go_meet
            case rel =>
              refine ⟨rfl, ?_, ?_⟩
              · show Mid _ _ _ _ _ _ _ _ _ _
                rw [HRO.out]
                simp only [if_true, Hxn.out]
                exact HMD.out.below (Below.refl _ _).drew
              · exact (Below.heap_setCell we _ _ _ (by show w.heap.size ≠ gc; exact Ne.symm HLE.out)).trans HBXE.out
          | false =>
            have HMD := Lib.hid (mid_cut (w := w) (st := st) (F := F) (A := A) (by have := GD1.out; rw [HLV.out, ← HN.out] at this; exact this) HN.out GD2.out G3.out G4.out (fun _ h => Or.inl h) G5.out HKD.out G8.out)
            rw [Hxd.out] at HRO
            go_wp2_with fail
            go_still_tail 14, (by kernel_rfl)
            go_wp2_with fail
            go_meet
            case rel =>
              refine ⟨rfl, ?_, ?_⟩
              · show Mid _ _ _ _ _ _ _ _ _ _
                rw [HRO.out]
                exact HMD.out.below (Below.refl _ _).drew
              · exact (Below.heap_setCell wd _ _ _ (by show w.heap.size ≠ gc; exact Ne.symm HLE.out)).trans HBXD.out
      · have HR : Hid (roomE slots (outE E sn) st = (outE E sn, st)) := by show _ = _; unfold roomE; rw [if_neg (by rw [← HN.out]; exact hfull)]
        have hne : decide (n = slots) = false := decide_eq_false hfull
        have hne2 : ¬ (n : Int) = (slots : Int) := by omega
        clear hfull
        go_wp2_with fail
        go_meet
        case rel =>
          refine ⟨rfl, ?_, HBX'.out⟩
          show Mid _ _ _ _ _ _ _ _ _ _
          rw [HR.out]
          exact ⟨lv1, A1, F, G1'.out, G2'.out, G3.out, G4.out, fun _ h => Or.inl h, G5.out, (G6'.out.mono fun _ _ h => Or.inl h), G7'.out⟩
    case rest =>
      obtain ⟨rfl, HM, HBX2⟩ := hcut
      obtain ⟨lv2, A2, F2, m1, m2, m3, m4, m5, m6, m7, m8⟩ := HM.out
      generalize hE2 : (roomE slots (outE E sn) st).1 = E2 at *
      generalize hS2 : (roomE slots (outE E sn) st).2 = st2 at *
      have HE2 := Lib.hid hE2
      have HS2 := Lib.hid hS2
      have hroom : E2.length < slots := by rw [← hE2]; exact roomE_lt slots (outE E sn) st G1'.out.s0 G1'.out.len
      obtain ⟨q2, cp2, hlv2, _⟩ := owns_slice m1.own
      obtain ⟨n2, HN2⟩ : ∃ n2, Hid (n2 = E2.length) := ⟨_, rfl⟩
      rw [← HN2.out] at hlv2 hroom
      subst hlv2
      have M1 := Lib.hid m1
      have M2 := Lib.hid m2
      have M3 := Lib.hid m3
      have M4 := Lib.hid m4
      have M5 := Lib.hid m5
      have M6 := Lib.hid m6
      have M7 := Lib.hid m7
      have M8 := Lib.hid m8
      have c2 := m1.c2
      have z2 := m1.z 2
      have hlc : gc < wc.heap.size := m1.fin _ m1.agc
      have b0 := cell_of_row wc _ 0 _ _ _ HBX2.out
      have b1 := cell_of_row wc _ 1 _ _ _ HBX2.out
      have b2 := cell_of_row wc _ 2 _ _ _ HBX2.out
      have hlb : w.heap.size < wc.heap.size := heap_lt HBX2.out
      have HINS : Hid (Calls Try.prog 74 #[.slice q2 n2 cp2, .int .i64 0, .slice (some ⟨wc.heap.size, 0, none⟩) 1 1] (wc.drew.alloc (.cells #[.int .i64 (sn : Int), .slice (some ⟨gv, 0, none⟩) 64 cv, .bool sd] 82))
          fun e w' => ∃ v, e = .returned v ∧ ((∃ q c, v = .slice q (n2 + 1) c) ∧ w'.ownsRow 0 82 3 v (n2 + 1) ([.int .i64 (sn : Int), .slice (some ⟨gv, 0, none⟩) 64 cv, .bool sd] ++ scells E2) ∧ Keeps (fun i => (Value.slice q2 n2 cp2).ownBlock = some i) (wc.drew.alloc (.cells #[.int .i64 (sn : Int), .slice (some ⟨gv, 0, none⟩) 64 cv, .bool sd] 82)) w' ∧ ∀ b, v.ownBlock = some b → (Value.slice q2 n2 cp2).ownBlock = some b ∨ (wc.drew.alloc (.cells #[.int .i64 (sn : Int), .slice (some ⟨gv, 0, none⟩) 64 cv, .bool sd] 82)).heap.size ≤ b)) := by
        have hb : Below wc.heap.size wc (wc.drew.alloc (.cells #[.int .i64 (sn : Int), .slice (some ⟨gv, 0, none⟩) 64 cv, .bool sd] 82)) := (Below.refl _ _).drew.alloc (Nat.le_refl _) _
        have ho := (M1.out.below hb).own
        rw [← HN2.out] at ho
        have := insert_anySlot 0 n2 (.slice q2 n2 cp2) (scells E2) [.int .i64 (sn : Int), .slice (some ⟨gv, 0, none⟩) 64 cv, .bool sd] wc.heap.size _ (by have := M1.out.s1; omega) (Nat.zero_le _) ho M1.out.ones rfl (by intro u hu; simp at hu; rcases hu with rfl | rfl | rfl <;> rfl) (heap_alloc_new wc.drew _) (fun g hg => by have := M1.out.fin _ (M1.out.aown g hg); omega)
        refine this.mono ?_
        rintro e w' ⟨v, he, h1, h2, h3⟩
        obtain ⟨q, c, hv, _⟩ := owns_slice h1
        refine ⟨v, he, ⟨q, c, hv⟩, ?_, h2, h3⟩
        simpa using h1
      have HCW : Hid (∀ w2, Keeps (fun i => (Value.slice q2 n2 cp2).ownBlock = some i) (wc.drew.alloc (.cells #[.int .i64 (sn : Int), .slice (some ⟨gv, 0, none⟩) 64 cv, .bool sd] 82)) w2 → w2.heap[gc]? = some (.cells #[d, .int .i64 (slots : Int), .slice q2 n2 cp2] 85 (0, 0))) := fun w2 h2 =>
        (h2.block gc (by simp; omega) M1.out.ne).trans ((heap_alloc_old wc.drew _ hlc).trans M1.out.hc)
      clear m1 m2 m3 m4 m5 m6 m7 m8 hE2 hS2 HM
      go_wp2_with fail
      go_region_law (refine step_call ?_ 74 #[.tmp 74, .const (.int .i64 0), .tmp 76] #[83, 3, 83] ?_ (fun _ _ => by kernel_rfl) #[.slice q2 n2 cp2, .int .i64 0, .slice (some ⟨wc.heap.size, 0, none⟩) 1 1] ?_ _ HINS.out ?_; (rfl); (rfl); (kernel_rfl); rintro v2 w2 ⟨⟨q3, c3, rfl⟩, r1, r2, r3⟩; have hcw := HCW.out w2 r2; have k2 : w2.cell? ⟨gc, 2, none⟩ = some (.slice q2 n2 cp2) := cell_of_row _ _ _ _ _ _ hcw; have f2 : w2.frozen? ⟨gc, 2, none⟩ = false := frozen_of_row _ _ _ _ _ hcw; have kz : gc < w2.heap.size := heap_lt hcw; have R1 := Lib.hid r1; have R2 := Lib.hid r2; have R3 := Lib.hid r3; clear r1 r2 r3 hcw)
      all_goals
        have hb : Below wc.heap.size wc (wc.drew.alloc (.cells #[.int .i64 (sn : Int), .slice (some ⟨gv, 0, none⟩) 64 cv, .bool sd] 82)) := (Below.refl _ _).drew.alloc (Nat.le_refl _) _
        have hz := hb.size
        have hw := M7.out.size
        have HFINAL : Hid (BufDid (.pointer (some ⟨gc, 0, none⟩)) d slots (⟨sn, .slice (some ⟨gv, 0, none⟩) 64 cv, sD, sd⟩ :: E2) st2 k A F w (w2.setCell ⟨gc, 2, none⟩ (.slice q3 (n2 + 1) c3))) := by
          have hown : w2.ownsRow 0 82 3 (.slice q3 (n2 + 1) c3) ((⟨sn, .slice (some ⟨gv, 0, none⟩) 64 cv, sD, sd⟩ : Sl) :: E2).length (scells ((⟨sn, .slice (some ⟨gv, 0, none⟩) 64 cv, sD, sd⟩ : Sl) :: E2)) := by
            rw [List.length_cons, ← HN2.out]
            exact R1.out
          obtain ⟨A3, a1, a2, a3, a4, a5, a6, a7⟩ := BufAt.store (M1.out.below hb) (M2.out.below hb) M3.out R2.out hown R3.out (fun x hx => by
            rcases List.mem_cons.1 hx with rfl | hx
            · exact ⟨hs, (M1.out.below hb).dat_row R2.out ((M8.out _ _ HDAT.out).keep (fun i _ _ hc => hb.block i (heap_lt hc)) fun _ h => h)⟩
            · exact ⟨M1.out.ns x hx, (M1.out.below hb).dat_row R2.out ((M1.out.below hb).dat x hx)⟩) (by rw [List.length_cons, ← HN2.out]; omega)
          refine ⟨A3, F2, ⟨gc, _, rfl, a1, a2, a3⟩, fun i hi => ?_, M5.out, (M7.out.trans (Keeps.of_below hb (F := fun _ => False)) fun _ h => h.elim).trans a6 fun i hi => ?_⟩
          · rcases a4 i hi with h | h
            · exact M4.out i h
            · exact Or.inr (by omega)
          · rcases M4.out i hi with h | h
            · exact Or.inl (Or.inl h)
            · exact Or.inr h
        go_wp2
        go_end0
        refine ⟨rfl, ?_⟩
        show BufDid _ _ _ (_ :: (roomE slots (outE E sn) st).1) (roomE slots (outE E sn) st).2 _ _ _ _ _
        rw [HE2.out, HS2.out]
        exact HFINAL.out

end Go.Proofs.Ythkcnihmfeilgaa
