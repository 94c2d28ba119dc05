/- Open, walked. -/
import Derived.Test.YtdcplaonafmbjaaJScan
import Derived.Test.YtdcplaonafmbjaaLiftRun
namespace Go.Proofs.Ytdcplaonafmbjaa
open Go.RowKit

def okO (N : List Int) : Bool := scanH N && scanT N
def seqO (N : List Int) : Int := if scanH N = true then scanSeq N else 0
def openL (N : List Int) : List Wr := if okO N = true then scanK N (scanN N) else []
def openE (st : Dk) : Dk := runE st (emit (openL st.N))
def wrFree (x : Wr) : Prop := x.1 < 20 ∧ (x.1 < 2 ∨ 8 ≤ x.1)
def logC (a : Addr) (sq : Int) : Array Value := #[.pointer (some a), .int .i64 2, .int .i64 6, .int .u32 sq]
/-- A disk and its journal behind something that was done since w. -/
def LogDid (a : Addr) (st : Dk) (sq : Int) (F : Nat → Prop) (gl : Nat) (w w' : World) : Prop :=
  ∃ F', DiskAt w' (.pointer (some a)) st 20 F' ∧ (∀ i, F' i → F i ∨ w.heap.size ≤ i) ∧ ¬ F' gl ∧ Keeps F w w' ∧ w'.heap[gl]? = some (.cells (logC a sq) 74 (0, 0))
theorem emit_snocJ (P : List Wr) (x : Wr) : emit (P ++ [x]) = emit P ++ [(x.1, x.2, false)] := by unfold emit; rw [List.map_append]; rfl
theorem doE_write (st : Dk) (n : Nat) (D : List Int) : doE st (n, D, false) = writeE st n D := by unfold doE; rw [if_neg (by simp)]
theorem runE_emit_snoc (st : Dk) (P : List Wr) (x : Wr) : runE st (emit (P ++ [x])) = writeE (runE st (emit P)) x.1 x.2 := by rw [emit_snocJ, runE_snoc, doE_write]

theorem jw_kept {w3 wr : World} {base : Nat} {F : Nat → Prop} {x : Jw} (h : JwNew w3 base x) (hk : Keeps F w3 wr) (hF : ∀ i, F i → i < base) : ∃ gx cx cur, x.v = .slice (some ⟨gx, 0, none⟩) 64 cx ∧ base ≤ gx ∧ gx < w3.heap.size ∧ wr.heap[gx]? = some (.cells cur 5 (0, 0)) ∧ cur.toList.take 64 = u8s x.D := by
  obtain ⟨_, _, gx, cx, cur, hxv, hcx, hgx, htx⟩ := h
  exact ⟨gx, cx, cur, hxv, hcx.1, heap_lt hgx, (hk.block gx (heap_lt hgx) (fun h => by have := hF gx h; have := hcx.1; omega)).trans hgx, htx⟩

set_option maxRecDepth 100000 in
set_option maxHeartbeats 8000000 in
theorem open_at {w : World} {a : Addr} {st : Dk} {F : Nat → Prop} (h : DiskAt w (.pointer (some a)) st 20 F) (hN : ByteL st.N) (hg : ∀ x ∈ openL st.N, wrFree x) (hW : st.W.length < 900000) :
    Calls Try.prog 12 #[.pointer (some a), .int .i64 2, .int .i64 6] w fun e w' => ∃ gl, e = .returned (.tuple #[.pointer (some ⟨gl, 0, none⟩), .int .i64 0]) ∧ w.heap.size ≤ gl ∧ LogDid a (openE st) (seqO st.N) F gl w w' := by
  have HD := Lib.hid h
  have HFL := Lib.hid h.fin
  have HSC := Lib.hid (scan_raw h hN)
  have HGD := Lib.hid hg
  have HWW := Lib.hid hW
  clear h hN hg hW
  go_enter Try.func12, Try.ntmps12
  go_wp2_with fail
  refine HSC.out.mono ?_
  intro e w1 hres
  unfold ScanRes at hres
  have HL0 : ∀ (w1 : World) (sq : Int), Below w.heap.size w w1 → okO st.N = false → seqO st.N = sq → LogDid a (openE st) (seqO st.N) F w1.heap.size w (w1.alloc (.cells (logC a sq) 74)) := fun w1 sq hb hok hsq => by
    have e : openE st = st := by unfold openE openL; rw [hok, if_neg (by simp)]; rfl
    rw [e, hsq]
    refine ⟨F, (HD.out.below hb).below ((Below.refl _ _).alloc (Nat.le_refl _) _), fun _ h => Or.inl h, fun h => ?_, (Keeps.of_below hb).step (Keeps.alloc _), heap_alloc_new _ _⟩
    have h1 := HFL.out _ h
    have h2 := hb.size
    omega
  rcases hres with ⟨s1, rfl, hb⟩ | ⟨s1, s2, rfl, hb⟩ | ⟨s1, s2, v, E, rfl, hE, hJ, hb⟩
  · have HLD := Lib.hid (HL0 w1 0 hb (by unfold okO; rw [s1]; rfl) (by unfold seqO; rw [if_neg (by rw [s1]; simp)]))
    have HB := Lib.hid hb
    clear HL0 hb s1
    go_wp2
    go_ret2
    exact ⟨_, rfl, HB.out.size, HLD.out⟩
  · have HLD := Lib.hid (HL0 w1 (scanSeq st.N) hb (by unfold okO; rw [s2]; simp) (by unfold seqO; rw [if_pos s1]))
    have HB := Lib.hid hb
    clear HL0 hb s1 s2
    go_wp2
    go_ret2
    exact ⟨_, rfl, HB.out.size, HLD.out⟩
  · have hok : okO st.N = true := by unfold okO; rw [s1, s2]; rfl
    have HOL : Hid (openL st.N = E.map jab) := by show _ = _; unfold openL; rw [if_pos hok, hE]
    have HSQ : Hid (seqO st.N = scanSeq st.N) := by show _ = _; unfold seqO; rw [if_pos s1]
    have HOE : Hid (openE st = runE st (emit (E.map jab))) := by show _ = _; unfold openE; rw [HOL.out]
    have HGE : Hid (∀ x ∈ E, wrFree (jab x)) := fun x hx => HGD.out _ (by rw [HOL.out]; exact List.mem_map.2 ⟨x, hx, rfl⟩)
    have hEl : E.length ≤ 4 := by
      have h1 := congrArg List.length hE
      rw [List.length_map, scanK_len] at h1
      unfold scanH at s1
      simp only [Bool.and_eq_true, decide_eq_true_eq] at s1
      omega
    obtain ⟨p, cp, rfl, HP⟩ := jws_open (RowAt.of_owns hJ.1)
    obtain ⟨N, HNN⟩ : ∃ N, Hid (E.length = N) := ⟨_, rfl⟩
    rw [HNN.out] at HP hEl
    rw [HNN.out]
    have HJ2 := Lib.hid hJ.2
    have HOWN := Lib.hid hJ.1
    have HB1 := Lib.hid hb
    generalize scanSeq st.N = sq at *
    clear hJ hb hE s1 s2 hok HL0 HSC HGD HOL
    go_wp2
    go_loopw [31] (fun i wr => ∃ k : Nat, k ≤ N ∧ i = .int .i64 k ∧ Hid (Below w1.heap.size w1 wr)) (fun i _ => N - (intOf i).toNat)
    case atStart => exact ⟨0, Nat.zero_le _, rfl, Below.refl _ _⟩
    case round =>
      obtain ⟨k, hk, rfl, HB⟩ := hrel
      by_cases hlt : k < N
      · obtain ⟨g, o, rfl, hg, hc⟩ := HP.out (by omega)
        have hkl : k < E.length := by rw [HNN.out]; exact hlt
        obtain ⟨e0, e1⟩ := jcells_get E k hkl
        have hfr := HGE.out E[k] (List.getElem_mem hkl)
        obtain ⟨px, cx, hxs⟩ := (JwNew.ok (HJ2.out E[k] (List.getElem_mem hkl))).shape
        generalize E[k] = x at e0 e1 hfr hxs
        obtain ⟨xn, xv, xD⟩ := x
        dsimp only at hxs e0 e1
        subst hxs
        have c0 := (HB.out.cell (p := ⟨g, o + k * 2, none⟩) hg).trans (hc _ _ e0)
        have c1 := (HB.out.cell (p := ⟨g, o + (k * 2 + 1), none⟩) hg).trans (hc _ _ e1)
        rw [← Nat.add_assoc] at c1
        obtain ⟨hn20, hn28⟩ : xn < 20 ∧ (xn < 2 ∨ 8 ≤ xn) := hfr
        have hlt2 : (k : Int) < (N : Int) := by omega
        have hgl : g < wr.heap.size := Nat.lt_of_lt_of_le hg HB.out.size
        have hgn : ¬ g = wr.heap.size := by omega
        have HBA : Hid (Below w1.heap.size w1 (wr.alloc (.cells #[.int .i64 (xn : Int), .slice px 64 cx] 44))) := HB.out.alloc HB.out.size _
        have HSZ : Hid (∀ n, Calls Try.prog 38 #[.pointer (some a)] ((wr.alloc (.cells #[.int .i64 (xn : Int), .slice px 64 cx] 44)).drewN n) fun e w' => e = .returned (.int .i64 ((20 : Nat) : Int)) ∧ w' = (wr.alloc (.cells #[.int .i64 (xn : Int), .slice px 64 cx] 44)).drewN n) := fun n => (size_at ((HD.out.below (Below.step HB1.out HBA.out)).drewN n)).mono fun e w' h => ⟨h.1, h.2.symm⟩
        have d1 : decide ((20 : Int) ≤ (xn : Int)) = false := by rw [decide_eq_false_iff_not]; omega
        have d1' : decide (20 ≤ xn) = false := by rw [decide_eq_false_iff_not]; omega
        clear hc e0 e1
        by_cases h2 : xn < 2
        · have d2 : decide ((2 : Int) ≤ (xn : Int)) = false := by rw [decide_eq_false_iff_not]; omega
          have d2' : decide (2 ≤ xn) = false := by rw [decide_eq_false_iff_not]; omega
          clear h2 hn28
          go_wp2
          go_quiet ((go_at_call 38; exact Calls.quiet_of_same (HSZ.out _)))
          go_wp2
          go_roundw
          case rel => exact ⟨k + 1, by omega, by go_num, below_dr HBA.out _⟩
          case measure => simp [intOf]; omega
        · have h8 : 8 ≤ xn := by omega
          have d2 : decide ((2 : Int) ≤ (xn : Int)) = true := by rw [decide_eq_true_iff]; omega
          have d2' : decide (2 ≤ xn) = true := by rw [decide_eq_true_iff]; omega
          have d3 : decide ((xn : Int) < 8) = false := by rw [decide_eq_false_iff_not]; omega
          have d3' : decide (xn < 8) = false := by rw [decide_eq_false_iff_not]; omega
          clear h2 hn28
          go_wp2
          go_quiet ((go_at_call 38; exact Calls.quiet_of_same (HSZ.out _)))
          go_wp2
          go_roundw
          case rel => exact ⟨k + 1, by omega, by go_num, below_dr HBA.out _⟩
          case measure => simp [intOf]; omega
      · have HST : Hid (Did (.pointer (some a)) (runE st (emit ((E.take 0).map jab))) 20 F w1 wr) :=
          ⟨F, HD.out.below (Below.step HB1.out HB.out), fun _ h => Or.inl h, Keeps.of_below HB.out⟩
        have hFb : ∀ i, F i → i < w.heap.size := HFL.out
        have HFB := Lib.hid hFb
        have bKn : decide (k < N) = false := by rw [decide_eq_false_iff_not]; exact hlt
        clear HB hFb
        go_wp2
        go_loopw [57] (fun i wq => ∃ j : Nat, j ≤ N ∧ i = .int .i64 j ∧ Hid (Did (.pointer (some a)) (runE st (emit ((E.take j).map jab))) 20 F w1 wq)) (fun i _ => N - (intOf i).toNat)
        case atStart => exact ⟨0, Nat.zero_le _, rfl, HST⟩
        case round =>
          obtain ⟨j, hj, rfl, HR⟩ := hrel
          by_cases hlt : j < N
          · obtain ⟨g, o, rfl, hg, hc⟩ := HP.out (by omega)
            have hkl : j < E.length := by rw [HNN.out]; exact hlt
            obtain ⟨F', hd', hF', hk'⟩ := HR.out
            obtain ⟨e0, e1⟩ := jcells_get E j hkl
            have hgo : w.heap.size ≤ g := (HOWN.out.lt g rfl).1
            have hnF : ¬ F g := fun h => by have := HFB.out g h; omega
            have c0 := (hk'.cell hg hnF).trans (hc _ _ e0)
            have c1 := (hk'.cell hg hnF).trans (hc _ _ e1)
            rw [← Nat.add_assoc] at c1
            have hfr := HGE.out E[j] (List.getElem_mem hkl)
            have hnew := HJ2.out E[j] (List.getElem_mem hkl)
            have HTK : Hid (runE st (emit ((E.take (j + 1)).map jab)) = writeE (runE st (emit ((E.take j).map jab))) E[j].n E[j].D) := by
              show _ = _
              rw [← List.take_append_getElem hkl, List.map_append]
              exact runE_emit_snoc _ _ _
            generalize E[j] = x at e0 e1 c0 c1 hfr hnew HTK
            obtain ⟨xn, xv, xD⟩ := x
            obtain ⟨gx, cx, cur, hxv, hgx1, hgx2, hhx, htx⟩ := jw_kept hnew hk' HFB.out
            dsimp only at hxv c0 c1 HTK htx
            subst hxv
            have hn20 : xn < 20 := hfr.1
            have hD64 : xD.length = 64 := hnew.2.1
            have hgl : g < wr.heap.size := Nat.lt_of_lt_of_le hg hk'.size
            have hgn : ¬ g = wr.heap.size := by omega
            have hlt2 : (j : Int) < (N : Int) := by omega
            have hWj : (runE st (emit ((E.take j).map jab))).W.length < 1000000 := by
              have h1 := runE_W st (emit ((E.take j).map jab))
              rw [show (emit ((E.take j).map jab)).length = (E.take j).length by simp [emit]] at h1
              have h2 := List.length_take_le j E
              have h3 := HWW.out
              omega
            have hnF2 : ¬ F' gx := fun h => by
              rcases hF' gx h with h | h
              · have := HFB.out gx h; omega
              · omega
            have hgz : gx < (wr.alloc (.cells #[.int .i64 (xn : Int), .slice (some ⟨gx, 0, none⟩) 64 cx] 44)).heap.size := by
              have := heap_lt hhx
              simp; omega
            have HDA := Lib.hid (hd'.below ((Below.refl _ _).alloc (Nat.le_refl _) (.cells #[.int .i64 (xn : Int), .slice (some ⟨gx, 0, none⟩) 64 cx] 44)))
            have HWR := Lib.hid (write_at HDA.out xn hn20 (.slice (some ⟨gx, 0, none⟩) 64 cx) xD hD64 (fun w' hk => bytes_of_row hD64 ((hk.block gx hgz hnF2).trans (heap_alloc_keep hhx _)) htx) hWj)
            have HF' := Lib.hid hF'
            have HK' := Lib.hid hk'
            clear hc e0 e1 hd' hF' hk' hfr hnew hgx1 hgx2 hD64 hhx htx hnF2 hgz hWj HR
            go_wp2_with fail
            refine HWR.out.mono ?_
            rintro e wq ⟨rfl, hdid⟩
            have HNX : Hid (Did (.pointer (some a)) (runE st (emit ((E.take (j + 1)).map jab))) 20 F w1 wq) := by
              show Did _ _ _ _ _ _
              rw [HTK.out]
              exact Did.trans (HK'.out.step (Keeps.alloc _)) HF'.out hdid
            clear hdid
            go_wp2
            go_roundw
            case rel => exact ⟨j + 1, by omega, by go_num, HNX⟩
            case measure => simp [intOf]; omega
          · have HT : Hid (E.take j = E) := List.take_of_length_le (by rw [HNN.out]; omega)
            rw [HT.out, ← HOE.out] at HR
            obtain ⟨F', hd', hF', hk'⟩ := HR.out
            have HLD : Hid (LogDid a (openE st) (seqO st.N) F wr.heap.size w (wr.alloc (.cells (logC a sq) 74))) := by
              show LogDid _ _ _ _ _ _ _
              rw [HSQ.out]
              refine ⟨F', hd'.below ((Below.refl _ _).alloc (Nat.le_refl _) _), fun i hi => ?_, fun h => ?_, ((Keeps.of_below HB1.out).step hk').step (Keeps.alloc _), heap_alloc_new _ _⟩
              · rcases hF' i hi with h | h
                · exact Or.inl h
                · exact Or.inr (Nat.le_trans HB1.out.size h)
              · have := hd'.fin _ h; omega
            have hsz : w.heap.size ≤ wr.heap.size := Nat.le_trans HB1.out.size hk'.size
            clear hd' hF' hk' HR
            go_wp2
            go_ret2
            exact ⟨_, rfl, hsz, HLD.out⟩

end Go.Proofs.Ytdcplaonafmbjaa
