/- Run: requests, in their order, on a disk. -/
import Derived.Test.YtdcplaonafmbjaaLiftRunP
import Derived.Test.YtdcplaonafmbjaaLiftOps
import Derived.Deep.QuietTactic
import Derived.BigQuiet
namespace Go.Proofs.Ytdcplaonafmbjaa
open Go.RowKit

theorem below_dr {B : Nat} {a w : World} (h : Below B a w) (n : Nat) : Below B a (w.drewN n) := ⟨h.os, h.tape, h.output, h.size, h.block⟩
theorem DiskAt.drewN {w : World} {d : Value} {st : Dk} {k : Nat} {F : Nat → Prop} (h : DiskAt w d st k F) (n : Nat) : DiskAt (w.drewN n) d st k F := h.keep (G := fun _ => False) ⟨rfl, rfl, rfl, Nat.le_refl _, fun _ _ _ => rfl⟩ (fun _ _ h => h)
theorem rb_of {w : World} {x : Rq} (h : RqOk w x) {k : Nat} (hk : x.b = false → x.n < k) : RbOk k (rab x) := by
  rcases h with ⟨h1, _⟩ | ⟨h1, h2, h3, h4⟩
  · exact Or.inl h1
  · exact Or.inr ⟨hk h1, h4⟩
theorem order_ok {k : Nat} (hk : k ≤ 256) {l : List Rb} (hl : ∀ x ∈ l, RbOk k x) : ∀ x ∈ orderF l 0, RbOk k x := (run_order hk l 0 (by omega) (freshE k) (fresh_on k) hl).2
theorem Did.start {d : Value} {st : Dk} {k : Nat} {F : Nat → Prop} {w w' : World} (h : DiskAt w d st k F) (hb : Below w.heap.size w w') : Did d st k F w' w' := ⟨F, h.below hb, fun _ h => Or.inl h, Keeps.refl _ _⟩

/-- A request of the call's own, while a disk changes. -/
theorem rq_kept {w3 wr : World} {base : Nat} {F : Nat → Prop} {x : Rq} (h : RqNew w3 base x) (hb : x.b = false) (hk : Keeps F w3 wr) (hF : ∀ i, F i → i < base) : ∃ gx cx cur, x.v = .slice (some ⟨gx, 0, none⟩) 64 cx ∧ base ≤ gx ∧ gx < w3.heap.size ∧ x.D.length = 64 ∧ wr.heap[gx]? = some (.cells cur 5 (0, 0)) ∧ cur.toList.take 64 = u8s x.D := by
  rcases h with ⟨h4, _⟩ | ⟨_, _, hD, gx, cx, cur, hxv, hcx, hgx, htx⟩
  · rw [hb] at h4; cases h4
  · exact ⟨gx, cx, cur, hxv, hcx.1, heap_lt hgx, hD, (hk.block gx (heap_lt hgx) (fun h => by have := hF gx h; have := hcx.1; omega)).trans hgx, htx⟩

set_option maxRecDepth 100000 in
set_option maxHeartbeats 4000000 in
theorem run_any {w : World} {a : Addr} {st : Dk} {k : Nat} {F : Nat → Prop} (h : DiskAt w (.pointer (some a)) st k F) (v : Value) (E : List Rq) (hv : RqRow w v E) (hE : ∀ x ∈ E, RqOk w x) (hk : ∀ x ∈ E, x.b = false → x.n < k) (hk2 : k ≤ 256) (hl : E.length ≤ 100) (hW : st.W.length < 900000) :
    Calls Try.prog 47 #[.pointer (some a), v] w fun e w' => e = .returned (.int .i64 0) ∧ Did (.pointer (some a)) (runE st (orderF (E.map rab) 0)) k F w w' := by
  have HD := Lib.hid h
  have HFL := Lib.hid h.fin
  have HE := Lib.hid hE
  have HK := Lib.hid hk
  have HOR := Lib.hid (fun W (hW : Below w.heap.size w W) => order_any v E 0 (by omega) W (hv.below hW) (fun x hx => (hE x hx).below hW) hl)
  unfold OrderRes at HOR
  have HRB : Hid (∀ x ∈ orderF (E.map rab) 0, RbOk k x) := order_ok hk2 fun x hx => by
    obtain ⟨y, hy, rfl⟩ := List.mem_map.1 hx
    exact rb_of (hE y hy) (hk y hy)
  have hlo : (orderF (E.map rab) 0).length ≤ E.length := by
    have := orderG_len (E.map rab) 0 (by omega)
    rw [List.length_map] at this
    exact this
  obtain ⟨p, cp, rfl, HP⟩ := rqs_open hv.row
  obtain ⟨N, HN⟩ : ∃ N, Hid (E.length = N) := ⟨_, rfl⟩
  rw [HN.out] at hl HP HOR hlo
  rw [HN.out]
  generalize orderF (E.map rab) 0 = O at *
  clear hv hE hk h
  go_enter Try.func47, Try.ntmps47
  go_wp2
  go_loopw [14] (fun i wr => ∃ j : Nat, j ≤ N ∧ i = .int .i64 j ∧ Below w.heap.size w wr) (fun i _ => N - (intOf i).toNat)
  case atStart => exact ⟨0, Nat.zero_le _, rfl, Below.refl _ _⟩
  case round =>
    obtain ⟨j, hj, rfl, HB⟩ := hrel
    by_cases hlt : j < N
    · obtain ⟨g, o, rfl, hg, hc⟩ := HP.out (by omega)
      have hkl : j < E.length := by rw [HN.out]; exact hlt
      obtain ⟨e0, e1, e2⟩ := rcells_get E j hkl
      obtain ⟨px, lx, cx, hxs, _, hxn⟩ := (HE.out E[j] (List.getElem_mem hkl)).shape
      rw [hxs] at e1
      have c0 := (HB.cell (p := ⟨g, o + j * 3, none⟩) hg).trans (hc _ _ e0)
      have c1 := (HB.cell (p := ⟨g, o + (j * 3 + 1), none⟩) hg).trans (hc _ _ e1)
      have c2 := (HB.cell (p := ⟨g, o + (j * 3 + 2), none⟩) hg).trans (hc _ _ e2)
      rw [← Nat.add_assoc] at c1 c2
      have hxk := HK.out E[j] (List.getElem_mem hkl)
      obtain ⟨xn, Hxn⟩ : ∃ q, Hid (E[j].n = q) := ⟨E[j].n, rfl⟩
      obtain ⟨xb, Hxb⟩ : ∃ q, Hid (E[j].b = q) := ⟨E[j].b, rfl⟩
      rw [Hxn.out] at c0 hxn hxk
      rw [Hxb.out] at c2 hxk
      have hlt2 : (j : Int) < (N : Int) := by omega
      have hgl : g < wr.heap.size := Nat.lt_of_lt_of_le hg HB.size
      have hgn : ¬ g = wr.heap.size := by omega
      have HBA : Hid (Below w.heap.size w (wr.alloc (.cells #[.int .i64 (xn : Int), .slice px lx cx, .bool xb] 81))) := HB.alloc HB.size _
      have HSZ : Hid (∀ n, Calls Try.prog 38 #[.pointer (some a)] ((wr.alloc (.cells #[.int .i64 (xn : Int), .slice px lx cx, .bool xb] 81)).drewN n) fun e w' => e = .returned (.int .i64 (k : Int)) ∧ w' = (wr.alloc (.cells #[.int .i64 (xn : Int), .slice px lx cx, .bool xb] 81)).drewN n) := fun n => (size_at ((HD.out.below HBA.out).drewN n)).mono fun e w' h => ⟨h.1, h.2.symm⟩
      clear hc e0 e1 e2 hxs
      cases xb with
      | true =>
        clear hxk
        go_wp2
        go_quiet (fail)
        go_wp2
        go_roundw
        case rel => exact ⟨j + 1, by omega, by go_num, below_dr HBA.out _⟩
        case measure => simp [intOf]; omega
      | false =>
        have hxk2 := hxk rfl
        have b1 : decide ((xn : Int) < 0) = false := by rw [decide_eq_false_iff_not]; omega
        have b2 : decide ((k : Int) ≤ (xn : Int)) = false := by rw [decide_eq_false_iff_not]; omega
        have b3 : ¬ (k : Int) ≤ (xn : Int) := by omega
        have b4 : ¬ k ≤ xn := by omega
        clear hxk
        go_wp2
        go_quiet ((go_at_call 38; exact Calls.quiet_of_same (HSZ.out _)))
        go_wp2
        go_roundw
        case rel => exact ⟨j + 1, by omega, by go_num, below_dr HBA.out _⟩
        case measure => simp [intOf]; omega
    · go_wp2_with fail
      refine (HOR.out _ HB).mono ?_
      rintro e w3 ⟨v3, rfl, ho3, hb3⟩
      have HB3 : Hid (Below w.heap.size w w3) := Below.step HB hb3
      have HST : Hid (Did (.pointer (some a)) (runE st (O.take 0)) k F w3 w3) := Did.start HD.out HB3.out
      have hzr := HB.size
      obtain ⟨B, hBe⟩ : ∃ B, wr.heap.size = B := ⟨_, rfl⟩
      rw [hBe] at hzr ho3
      have hFb : ∀ i, F i → i < B := fun i hi => Nat.lt_of_lt_of_le (HFL.out i hi) hzr
      obtain ⟨E6, hE6, ho6, hn6⟩ := ho3
      have hL6 := rqs_len hE6
      obtain ⟨q, cp6, rfl, hq⟩ := owns_slice ho6
      obtain ⟨L, HL⟩ : ∃ L, Hid (E6.length = L) := ⟨_, rfl⟩
      have HQ : Hid (0 < L → ∃ g, q = some ⟨g, 0, none⟩ ∧ g < w3.heap.size ∧ B ≤ g ∧ ∀ (j : Nat) (x : Value), (rcells E6)[j]? = some x → w3.cell? ⟨g, j, none⟩ = some x) := fun h0 => by
        obtain ⟨g, rfl, hg, hc⟩ := hq (by rw [HL.out]; exact h0)
        exact ⟨g, rfl, (ho6.lt g rfl).2, hg, hc⟩
      rw [HL.out]
      rw [HL.out] at hL6
      have hL100 : L ≤ 100 := by omega
      have HE6 := Lib.hid hE6
      have HN6 := Lib.hid hn6
      have HFB := Lib.hid hFb
      have HOL := Lib.hid hL6
      have HWW := Lib.hid hW
      clear hE6 ho6 hn6 hq hb3 hFb hL6 hlo hBe HB
      go_wp2
      go_loopw [44] (fun i wq => ∃ j : Nat, j ≤ L ∧ i = .int .i64 j ∧ Hid (Did (.pointer (some a)) (runE st (O.take j)) k F w3 wq)) (fun i _ => L - (intOf i).toNat)
      case atStart => exact ⟨0, Nat.zero_le _, rfl, HST⟩
      case round =>
        obtain ⟨j, hj, rfl, HR⟩ := hrel
        by_cases hlt : j < L
        · obtain ⟨g, rfl, hg, hgb, hc⟩ := HQ.out (by omega)
          have hkl : j < E6.length := by rw [HL.out]; exact hlt
          have hko : j < O.length := by rw [← HOL.out]; exact hlt
          obtain ⟨F', hd', hF', hk'⟩ := HR.out
          obtain ⟨e0, e1, e2⟩ := rcells_get E6 j hkl
          have hnF : ¬ F g := fun h => by have := HFB.out g h; omega
          have c0 := (hk'.cell hg hnF).trans (hc _ _ e0)
          have c2 := (hk'.cell hg hnF).trans (hc _ _ e2)
          have c1 := (hk'.cell hg hnF).trans (hc _ _ e1)
          have hrb : rab E6[j] = O[j] := by
            have h1 : (E6.map rab)[j]? = O[j]? := by rw [HE6.out]
            rw [List.getElem?_map, List.getElem?_eq_getElem hkl, List.getElem?_eq_getElem hko] at h1
            simpa using h1
          have hxr := HRB.out O[j] (List.getElem_mem hko)
          rw [← hrb] at hxr
          have HTK : Hid (runE st (O.take (j + 1)) = doE (runE st (O.take j)) (rab E6[j])) := by
            show _ = _
            rw [← List.take_append_getElem hko, runE_snoc, hrb]
          have hx6 := HN6.out E6[j] (List.getElem_mem hkl)
          have hgl : g < wr.heap.size := Nat.lt_of_lt_of_le hg hk'.size
          have hgn : ¬ g = wr.heap.size := by omega
          have hlt2 : (j : Int) < (L : Int) := by omega
          have hWj : (runE st (O.take j)).W.length < 1000000 := by
            have h1 := runE_W st (O.take j)
            have h2 := List.length_take_le j O
            have h3 := HWW.out
            omega
          have HX6 := Lib.hid hx6
          have HXR := Lib.hid hxr
          have HD' := Lib.hid hd'
          have HF' := Lib.hid hF'
          have HK' := Lib.hid hk'
          have HWJ := Lib.hid hWj
          clear hc e0 e1 e2 hrb hx6 hd' hF' hk' hxr HR hWj
          obtain ⟨xb, Hxb⟩ : ∃ q, Hid (E6[j].b = q) := ⟨E6[j].b, rfl⟩
          obtain ⟨xn, Hxn⟩ : ∃ q, Hid (E6[j].n = q) := ⟨E6[j].n, rfl⟩
          rw [Hxb.out] at c2
          rw [Hxn.out] at c0
          cases xb with
          | true =>
            have hv6 : E6[j].v = .slice none 0 0 := by
              rcases HX6.out with ⟨_, _, h, _⟩ | ⟨h, _⟩
              · exact h
              · rw [Hxb.out] at h; cases h
            rw [hv6] at c1
            have HDA := Lib.hid (HD'.out.below ((Below.refl _ _).alloc (Nat.le_refl _) (.cells #[.int .i64 (xn : Int), .slice none 0 0, .bool true] 81)))
            have HDO : Hid (doE (runE st (O.take j)) (rab E6[j]) = flushE (runE st (O.take j))) := by
              show _ = _
              unfold doE
              rw [if_pos (show (rab E6[j]).2.2 = true from Hxb.out)]
            clear hv6
            go_wp2_with fail
            refine (flush_at HDA.out).mono ?_
            rintro e wq ⟨rfl, hdid⟩
            have HNX : Hid (Did (.pointer (some a)) (runE st (O.take (j + 1))) k F w3 wq) := by
              show Did _ _ _ _ _ _
              rw [HTK.out, HDO.out]
              exact Did.trans (HK'.out.step (Keeps.alloc _)) HF'.out hdid
            clear hdid
            go_wp2
            go_roundw
            case rel => exact ⟨j + 1, by omega, by go_num, HNX⟩
            case measure => simp [intOf]; omega
          | false =>
            obtain ⟨gx, cx, cur, hxv, hgx1, hgx2, hD64, hhx, htx⟩ := rq_kept HX6.out Hxb.out HK'.out HFB.out
            rw [hxv] at c1
            have hxk : xn < k := by
              rcases HXR.out with h | ⟨h, _⟩
              · rw [show (rab E6[j]).2.2 = E6[j].b from rfl, Hxb.out] at h; cases h
              · rw [← Hxn.out]; exact h
            have hnF2 : ¬ F' gx := fun h => by
              rcases HF'.out gx h with h | h
              · have := HFB.out gx h; omega
              · omega
            have hgz : gx < (wr.alloc (.cells #[.int .i64 (xn : Int), .slice (some ⟨gx, 0, none⟩) 64 cx, .bool false] 81)).heap.size := by
              have := heap_lt hhx
              simp; omega
            have HDA := Lib.hid (HD'.out.below ((Below.refl _ _).alloc (Nat.le_refl _) (.cells #[.int .i64 (xn : Int), .slice (some ⟨gx, 0, none⟩) 64 cx, .bool false] 81)))
            have HWR := Lib.hid (write_at HDA.out xn hxk (.slice (some ⟨gx, 0, none⟩) 64 cx) E6[j].D hD64 (fun w' hk => bytes_of_row hD64 ((hk.block gx hgz hnF2).trans (heap_alloc_keep hhx _)) htx) HWJ.out)
            have HDO : Hid (doE (runE st (O.take j)) (rab E6[j]) = writeE (runE st (O.take j)) xn E6[j].D) := by
              show _ = _
              unfold doE
              rw [if_neg (by rw [show (rab E6[j]).2.2 = E6[j].b from rfl, Hxb.out]; simp), ← Hxn.out]
              rfl
            clear hxv hgx1 hgx2 hD64 hhx htx hxk hnF2 hgz
            go_wp2_with fail
            refine HWR.out.mono ?_
            rintro e wq ⟨rfl, hdid⟩
            have HNX : Hid (Did (.pointer (some a)) (runE st (O.take (j + 1))) k F w3 wq) := by
              show Did _ _ _ _ _ _
              rw [HTK.out, HDO.out]
              exact Did.trans (HK'.out.step (Keeps.alloc _)) HF'.out hdid
            clear hdid
            go_wp2
            go_roundw
            case rel => exact ⟨j + 1, by omega, by go_num, HNX⟩
            case measure => simp [intOf]; omega
        · have HT : Hid (O.take j = O) := List.take_of_length_le (by rw [← HOL.out]; omega)
          rw [HT.out] at HR
          go_wp2
          go_ret
          exact ⟨rfl, Did.trans (Keeps.of_below HB3.out) (fun _ h => Or.inl h) HR.out⟩

end Go.Proofs.Ytdcplaonafmbjaa
