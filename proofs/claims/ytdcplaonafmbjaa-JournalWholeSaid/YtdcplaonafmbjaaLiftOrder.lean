/- Order: walked. -/
import Derived.Test.YtdcplaonafmbjaaRqRow
namespace Go.Proofs.Ytdcplaonafmbjaa
open Go.RowKit

theorem barI_none {E : List Rq} (h : E.findIdx? (fun x => x.b) = none) : barI E = -1 ∧ (∀ x ∈ E, x.b = false) ∧ E.map rab = emit (wrs E) := by
  have h1 : ∀ x ∈ E, x.b = false := fun x hx => by rw [List.findIdx?_eq_none_iff] at h; exact h x hx
  refine ⟨by unfold barI; rw [h], h1, ?_⟩
  unfold emit wrs
  rw [List.map_map]
  refine List.map_congr_left fun x hx => ?_
  show (x.n, x.D, x.b) = (x.n, x.D, false)
  rw [h1 x hx]
theorem barI_some {E : List Rq} {k : Nat} (h : E.findIdx? (fun x => x.b) = some k) : ∃ hk : k < E.length, barI E = (k : Int) ∧ (∀ x ∈ E.take k, x.b = false) ∧ E.map rab = emit (wrs (E.take k)) ++ (E[k].n, E[k].D, true) :: (E.drop (k + 1)).map rab := by
  have h0 := h
  rw [List.findIdx?_eq_some_iff_getElem] at h
  obtain ⟨hk, h1, h2⟩ := h
  have h3 : ∀ x ∈ E.take k, x.b = false := fun x hx => by
    obtain ⟨j, hj, rfl⟩ := List.getElem_of_mem hx
    rw [List.getElem_take]
    have hjk : j < k := by rw [List.length_take] at hj; omega
    simpa using h2 j hjk
  refine ⟨hk, by unfold barI; rw [h0], h3, ?_⟩
  conv => lhs; rw [← List.take_append_drop k E, List.drop_eq_getElem_cons hk, List.map_append, List.map_cons]
  congr 1
  · unfold emit wrs
    rw [List.map_map]
    refine List.map_congr_left fun x hx => ?_
    show (x.n, x.D, x.b) = (x.n, x.D, false)
    rw [h3 x hx]
  · congr 1
    show (E[k].n, E[k].D, E[k].b) = _
    rw [h1]
theorem emit_len (P : List Wr) : (emit P).length = P.length := by simp [emit]
theorem wrs_len (E : List Rq) : (wrs E).length = E.length := by simp [wrs]
theorem rqOk_part {w : World} {E : List Rq} (h : ∀ x ∈ E, RqOk w x) (hb : ∀ x ∈ E, x.b = false) : ∀ x ∈ E, x.b = false ∧ x.n < 256 ∧ BytesAt w x.v x.D ∧ x.D.length = 64 := by
  intro x hx
  have h1 := hb x hx
  rcases h x hx with ⟨h2, _⟩ | h2
  · rw [h1] at h2; cases h2
  · exact h2

theorem rqsOwn_bar (w : World) (base : Nat) (h : base ≤ w.heap.size) : RqsOwn (w.alloc (.cells #[.int .i64 0, .slice none 0 0, .bool true] 81)) base (.slice (some ⟨w.heap.size, 0, none⟩) 1 1) [barR] :=
  ⟨[⟨0, .slice none 0 0, [], true⟩], rfl, ⟨rfl, Or.inr ⟨w.heap.size, 1, _, rfl, h, heap_alloc_new w _, Nat.le_refl _, by unfold maxLen; omega, rfl, rfl⟩⟩, fun x hx => by
    simp at hx
    subst hx
    exact Or.inl ⟨rfl, rfl, rfl, rfl⟩⟩
theorem orderG_nil (h : Nat) (hh : h < 256) : orderG [] h [] = [] := by
  have h2 := orderG_len [] h hh
  exact List.length_eq_zero_iff.1 (by simpa using h2)

def OrderRes (L : List Rb) (h : Nat) (w : World) (e : Ending) (w' : World) : Prop :=
  ∃ v', e = .returned (.tuple #[v', .int .i64 0]) ∧ RqsOwn w' w.heap.size v' (orderF L h) ∧ Below w.heap.size w w'

set_option maxRecDepth 100000 in
set_option maxHeartbeats 4000000 in
theorem order_raw (hsort : SortSaid) (v : Value) (E : List Rq) (h : Nat) (hh : h < 256) (w : World) (hv : RqRow w v E) (hE : ∀ x ∈ E, RqOk w x) (hl : E.length ≤ 100) :
    Calls Try.prog 62 #[v, .int .i64 (h : Int)] w (OrderRes (E.map rab) h w) := by
  have HSORT : Hid SortSaid := hsort
  clear hsort
  have HV := Lib.hid hv
  have HE := Lib.hid hE
  have HR := Lib.hid (fun W (hW : Below w.heap.size w W) => right_ok v E W (RowAt.below hv.row hW) (fun x hx => (hE x hx).below hW) hl)
  have b1 : decide ((h : Int) < 0) = false := by rw [decide_eq_false_iff_not]; omega
  have b2 : decide ((256 : Int) ≤ (h : Int)) = false := by rw [decide_eq_false_iff_not]; omega
  have b3 : ¬ (256 : Int) ≤ (h : Int) := by omega
  have b4 : ¬ 256 ≤ h := by omega
  clear hv hE
  go_enter Try.func62, Try.ntmps62
  go_wp2_with fail
  refine (HR.out _ (Below.refl _ _)).mono ?_
  rintro e w1 ⟨rfl, hb1⟩
  have HB1 := Lib.hid hb1
  clear hb1 b1 b2 b3 b4
  go_wp2
  obtain ⟨i0, hi0, hz0, hz1, hz2⟩ := info_parts reqInfo
  have HI := Lib.hid hi0
  have HZ0 := Lib.hid hz0
  have HZ1 := Lib.hid hz1
  have HZ2 := Lib.hid hz2
  clear hi0 hz0 hz1 hz2
  go_loopw [0, 1, 7] (fun lv hd o wr => ∃ (E' : List Rq) (h' : Nat) (O : List Rb), Hid (RqRow w lv E') ∧ Hid (∀ x ∈ E', x ∈ E) ∧ E'.length + O.length ≤ 100 ∧ hd = .int .i64 (h' : Int) ∧ h' < 256 ∧ Hid (RqsOwn wr w.heap.size o O) ∧ Hid (O ++ orderG [] h' (E'.map rab) = orderF (E.map rab) h) ∧ Hid (Below w.heap.size w wr)) (fun lv _ _ _ => match lv with | .slice _ n _ => n | _ => 0)
  case atStart =>
    exact ⟨E, h, [], HV, fun x hx => hx, by simp; exact hl, rfl, hh, ⟨[], rfl, World.ownsRow_nil _ _ _ _, fun x hx => by simp at hx⟩, rfl, HB1⟩
  case round =>
    obtain ⟨E', h', O, HV', HS, hlen, rfl, hh', HO, HEQ, HB⟩ := hrel
    obtain ⟨a, cap, hlv, hc1, hc2, hc3⟩ := HV'.out
    obtain ⟨n, HN⟩ : ∃ n, Hid (E'.length = n) := ⟨_, rfl⟩
    rw [HN.out] at hlv hc1 hlen hc3
    subst hlv
    have HC3 := Lib.hid hc3
    have HMX : Hid (cap ≤ maxLen) := hc2
    unfold maxLen at hc2
    clear hc3
    by_cases hn : 0 < n
    · obtain ⟨g, o, rfl, hcx⟩ := HC3.out hn
      clear hcx
      have HOK : Hid (∀ x ∈ E', RqOk w x) := fun x hx => HE.out x (HS.out x hx)
      have HBI := Lib.hid (barI_any _ E' _ (RowAt.below HV'.out.row HB.out) (fun x hx => (HOK.out x hx).below HB.out) (by rw [HN.out]; omega))
      have hzr := HB.out.size
      go_wp2_with fail
      refine HBI.out.mono ?_
      rintro e w2 ⟨rfl, hb2⟩
      have HB2 : Hid (Below w.heap.size w w2) := Below.step HB.out hb2
      have HO2 : Hid (RqsOwn w2 w.heap.size u7 O) := HO.out.below hb2
      have hz2 : w.heap.size ≤ w2.heap.size := HB2.out.size
      clear hb2
      cases hfi : E'.findIdx? (fun x => x.b) with
      | none =>
        obtain ⟨hbi, hnb, hem⟩ := barI_none hfi
        have HBV := Lib.hid hbi
        have HPA := Lib.hid (part_raw HSORT.out _ E' h' hh' w2 (RowAt.below HV'.out.row HB2.out) (fun x hx => rqOk_part (fun y hy => (HOK.out y hy).below HB2.out) hnb x hx) (by rw [HN.out]; omega))
        unfold PartRes at HPA
        have HEM := Lib.hid hem
        clear hfi hbi hnb hem
        rw [HBV.out]
        have HLP : Hid ((emit (partF (wrs E') h')).length ≤ n) := by
          show _ ≤ _
          rw [emit_len, ← HN.out, ← wrs_len]
          exact partF_len _ _ hh'
        have hlp := HLP.out
        have q1 : decide ((-1 : Int) < 0) = true := by decide
        have q2 : 0 ≤ (n : Int) := by omega
        have q3 : (n : Int) ≤ (cap : Int) := by omega
        have HFIN : Hid ((O ++ emit (partF (wrs E') h')) ++ orderG [] (headF (wrs E') h') (([] : List Rq).map rab) = orderF (E.map rab) h) := by
          have h1 := HEQ.out
          rw [HEM.out, orderG_emit, List.nil_append] at h1
          show (O ++ _) ++ orderG [] _ [] = _
          rw [orderG_nil _ (headF_lt _ _ hh'), List.append_nil]
          exact h1
        have hh3 := headF_lt (wrs E') h' hh'
        clear HEQ HEM
        generalize emit (partF (wrs E') h') = L at *
        generalize headF (wrs E') h' = h3 at *
        by_cases hcap : cap = n
        all_goals
          try subst hcap
          go_wp2_with (first
            | (go_at_call 71; refine HPA.out.mono ?_; rintro e w3 ⟨pv, rfl, hp3, hb3⟩
               have HP3 := Lib.hid hp3
               have HO3 := Lib.hid (HO2.out.below hb3)
               have HB3 : Hid (Below w.heap.size w w3) := Below.step HB2.out hb3
               have hz3 := HB3.out.size
               clear hp3 hb3)
            | (at_builtin; refine wpList_append_rqs rfl _ _ rfl _ _ w.heap.size _ _ _ rfl rfl HO3.out HP3.out hz2 hz3 (by omega) ?_; intro v4 w4 hown4 hgrow4))
          have HO4 := Lib.hid hown4
          have HB4 : Hid (Below w.heap.size w w4) := HB3.out.grown hgrow4 hz3 (fun q hq => by
            obtain ⟨_, _, h1, _⟩ := HO3.out
            exact (h1.lt q hq).1)
          clear hown4 hgrow4
          go_wp2
          go_roundw
          case rel => exact ⟨[], h3, _, RqRow.none (by unfold maxLen; omega), fun x hx => by simp at hx, by simp; omega, rfl, hh3, HO4, HFIN, HB4⟩
          case measure => simp; omega
      | some k =>
        obtain ⟨hkl, hbi, hnb, hem⟩ := barI_some hfi
        have HBV := Lib.hid hbi
        have hkn : k < n := by rw [← HN.out]; exact hkl
        have HVT : Hid (RqRow w (.slice (some ⟨g, o, none⟩) k cap) (E'.take k)) := HV'.out.take (by omega)
        have htl : (E'.take k).length = k := by rw [List.length_take]; omega
        have HPA := Lib.hid (part_raw HSORT.out _ (E'.take k) h' hh' w2 (RowAt.below HVT.out.row HB2.out) (fun x hx => rqOk_part (fun y hy => (HOK.out y (List.mem_of_mem_take hy)).below HB2.out) hnb x hx) (by rw [htl]; omega))
        unfold PartRes at HPA
        have HEM := Lib.hid hem
        have hlp : (emit (partF (wrs (E'.take k)) h')).length ≤ k := by
          rw [emit_len]
          have h1 := partF_len (wrs (E'.take k)) h' hh'
          rw [wrs_len, htl] at h1
          exact h1
        clear hfi hbi hnb hem htl
        rw [HBV.out]
        have q1 : decide ((k : Int) < 0) = false := by rw [decide_eq_false_iff_not]; omega
        have q2 : 0 ≤ (k : Int) := by omega
        have q3 : (k : Int) ≤ (cap : Int) := by omega
        have q4 : (k : Int) < (n : Int) := by omega
        have q5 : (k : Int) + 1 ≤ (n : Int) := by omega
        have q6 : (n : Int) ≤ (cap : Int) := by omega
        have q7 : IntKind.i64.wrap ((k : Int) + 1) = (k : Int) + 1 := IntWalk.i64_in _ (by omega)
        have q8 : ((k : Int) + 1).toNat = k + 1 := by omega
        have q9 : 0 ≤ (k : Int) + 1 := by omega
        have HFIN : Hid (((O ++ emit (partF (wrs (E'.take k)) h')) ++ [barR]) ++ orderG [] (headF (wrs (E'.take k)) h') ((E'.drop (k + 1)).map rab) = orderF (E.map rab) h) := by
          have h1 := HEQ.out
          rw [HEM.out, orderG_cut, List.nil_append] at h1
          show _ = _
          rw [← h1]
          simp
        have hh3 := headF_lt (wrs (E'.take k)) h' hh'
        have HDR := Lib.hid (HV'.out.drop (k := k + 1) (by omega))
        have HDS : Hid (∀ x ∈ E'.drop (k + 1), x ∈ E) := fun x hx => HS.out x (List.mem_of_mem_drop hx)
        have hdl : (E'.drop (k + 1)).length = n - (k + 1) := by rw [List.length_drop, HN.out]
        clear HEQ HEM
        generalize emit (partF (wrs (E'.take k)) h') = L at *
        generalize headF (wrs (E'.take k)) h' = h3 at *
        have hol : (O ++ L).length + [barR].length ≤ 1000000 := by rw [List.length_append]; simp; omega
        have hol2 : (O ++ L ++ [barR]).length = O.length + L.length + 1 := by simp; omega
        by_cases hcap : cap = k + 1
        · have hn1 : n = k + 1 := by omega
          subst hcap
          subst hn1
          go_wp2_with (first
            | (go_at_call 71; refine HPA.out.mono ?_; rintro e w3 ⟨pv, rfl, hp3, hb3⟩
               have HP3 := Lib.hid hp3
               have HO3 := Lib.hid (HO2.out.below hb3)
               have HB3 : Hid (Below w.heap.size w w3) := Below.step HB2.out hb3
               have hz3 := HB3.out.size
               have tok1 : True := trivial
               clear hp3 hb3)
            | (at_builtin; have _t := tok1; refine wpList_append_rqs rfl _ _ rfl _ _ w.heap.size _ _ _ rfl rfl HO3.out HP3.out hz2 hz3 (by omega) ?_; intro v4 w4 hown4 hgrow4
               have HO4 := Lib.hid hown4
               have HB4 : Hid (Below w.heap.size w w4) := HB3.out.grown hgrow4 hz3 (fun q hq => by
                 obtain ⟨_, _, h1, _⟩ := HO3.out
                 exact (h1.lt q hq).1)
               have hz4 := HB4.out.size
               have tok2 : True := trivial
               clear hown4 hgrow4 tok1 _t)
            | (at_builtin; have _t := tok2; refine wpList_append_rqs rfl _ _ rfl _ _ w.heap.size w.heap.size _ _ rfl rfl (HO4.out.below ((Below.refl _ _).alloc (Nat.le_refl _) _)) (rqsOwn_bar w4 w.heap.size hz4) (Nat.le_refl _) (by simp; omega) hol ?_; intro v5 w5 hown5 hgrow5
               have HO5 := Lib.hid hown5
               have HB5 : Hid (Below w.heap.size w w5) := (HB4.out.alloc hz4 _).grown hgrow5 (by simp; omega) (fun q hq => by
                 obtain ⟨_, _, h1, _⟩ := HO4.out
                 exact (h1.lt q hq).1)
               clear hown5 hgrow5 tok2 _t))
          have he0 : E'.drop (k + 1) = [] := List.length_eq_zero_iff.1 (by rw [hdl]; omega)
          go_roundw
          case rel => exact ⟨E'.drop (k + 1), h3, _, by rw [he0]; exact RqRow.none (by unfold maxLen; omega), HDS, by rw [hdl, hol2]; omega, rfl, hh3, HO5, HFIN, HB5⟩
          case measure => simp
        · go_wp2_with (first
            | (go_at_call 71; refine HPA.out.mono ?_; rintro e w3 ⟨pv, rfl, hp3, hb3⟩
               have HP3 := Lib.hid hp3
               have HO3 := Lib.hid (HO2.out.below hb3)
               have HB3 : Hid (Below w.heap.size w w3) := Below.step HB2.out hb3
               have hz3 := HB3.out.size
               have tok1 : True := trivial
               clear hp3 hb3)
            | (at_builtin; have _t := tok1; refine wpList_append_rqs rfl _ _ rfl _ _ w.heap.size _ _ _ rfl rfl HO3.out HP3.out hz2 hz3 (by omega) ?_; intro v4 w4 hown4 hgrow4
               have HO4 := Lib.hid hown4
               have HB4 : Hid (Below w.heap.size w w4) := HB3.out.grown hgrow4 hz3 (fun q hq => by
                 obtain ⟨_, _, h1, _⟩ := HO3.out
                 exact (h1.lt q hq).1)
               have hz4 := HB4.out.size
               have tok2 : True := trivial
               clear hown4 hgrow4 tok1 _t)
            | (at_builtin; have _t := tok2; refine wpList_append_rqs rfl _ _ rfl _ _ w.heap.size w.heap.size _ _ rfl rfl (HO4.out.below ((Below.refl _ _).alloc (Nat.le_refl _) _)) (rqsOwn_bar w4 w.heap.size hz4) (Nat.le_refl _) (by simp; omega) hol ?_; intro v5 w5 hown5 hgrow5
               have HO5 := Lib.hid hown5
               have HB5 : Hid (Below w.heap.size w w5) := (HB4.out.alloc hz4 _).grown hgrow5 (by simp; omega) (fun q hq => by
                 obtain ⟨_, _, h1, _⟩ := HO4.out
                 exact (h1.lt q hq).1)
               clear hown5 hgrow5 tok2 _t))
          go_roundw
          case rel => exact ⟨E'.drop (k + 1), h3, _, HDR, HDS, by rw [hdl, hol2]; omega, rfl, hh3, HO5, HFIN, HB5⟩
          case measure => simp; omega
    · have hn0 : n = 0 := by omega
      have he : E' = [] := List.length_eq_zero_iff.1 (by rw [HN.out]; exact hn0)
      have HF : Hid (O = orderF (E.map rab) h) := by
        have h1 := HEQ.out
        rw [he] at h1
        show _ = _
        rw [← h1]
        have h2 := orderG_len [] h' hh'
        have : orderG [] h' [] = [] := List.length_eq_zero_iff.1 (by simpa using h2)
        show O = O ++ orderG [] h' []
        rw [this, List.append_nil]
      subst hn0
      clear he hn
      go_wp2
      go_ret2
      refine ⟨_, rfl, ?_, HB.out⟩
      rw [← HF.out]
      exact HO.out

end Go.Proofs.Ytdcplaonafmbjaa
