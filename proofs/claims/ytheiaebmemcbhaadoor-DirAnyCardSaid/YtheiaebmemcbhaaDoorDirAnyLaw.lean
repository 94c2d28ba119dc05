/- DirAny, walked. -/
import Derived.Test.YtheiaebmemcbhaaDoorDirPutsLaw
import Derived.Test.YtheiaebmemcbhaaDoorDkPick
import Derived.Deep.DeepCutAuto
import Derived.Deep.CutBlock
import Derived.ArgAppend
namespace Go.Proofs.YtheiaebmemcbhaaDoor
open Go.RowKit

section
variable {P : Program}
theorem run_append_room_off {w : World} (t ty e : TypeId) (i : TypeInfo) (ht : P.underlying t = some (.slice e)) (hi : P.info? e = some i)
    (g off sLen sCap : Nat) (cur : Array Value) (hg : w.heap[g]? = some (.cells cur e (0, 0)))
    (a : Addr) (m c : Nat) (news : List Value) (hl : news.length = m * i.size) (hnews : ∀ j u, news[j]? = some u → w.cell? (a.add j) = some u) (h1 : ∀ u ∈ news, u.oneCell' = true)
    (hroom : sLen + m ≤ sCap) (hfit : off + sLen * i.size + news.length ≤ cur.size) :
    (Builtin.append_ #[t, t] ty #[.slice (some ⟨g, off, none⟩) sLen sCap, .slice (some a) m c]).run P w =
      .ok (.slice (some ⟨g, off, none⟩) (sLen + m) sCap) (w.setRow g (cur.toList.take (off + sLen * i.size) ++ news ++ cur.toList.drop (off + sLen * i.size + news.length)).toArray) := by
  have hf := run_firstCells_some (P := P) w i.size m a m c news hl hnews
  have hst := run_storeCells_at P g (off + sLen * i.size) e news 0 cur w hg (by simpa using hfit) h1
  simp only [Nat.add_zero] at hst
  simp [Builtin.append_, run_underlying ht, sizeOf, typeInfo, hi, Builtin.lenOf, hroom, hf, Addr.add_lit, hst]
theorem wpList_append_run {w w' : World} {ops : Array Oper} {rest : List Oper} {o : Oper} {a : Act} {Q : Exit → Act → World → Prop} (hg : o.guard = none) (s x : Operand) (t : TypeId) (hop : o.op = Op.call { callee := Callee.builtin Builtin.append, args := #[s, x], argTypes := #[t, t] })
    (sv xv u : Value) (hs : a.eval s = sv) (hx : a.eval x = xv) (hrun : (Builtin.append_ #[t, t] o.type #[sv, xv]).run P w = .ok u w') (h : wpList P ops Q rest (a.put o.dst u) w') : wpList P ops Q (o :: rest) a w := by
  refine wpList_plain hg fun K hK' => ?_
  unfold Oper.wp
  simp [execOp, hop, resolve, invoke, builtin, hs, hx, hrun, Result.andThen]
  exact hK' _ _ h
end

set_option maxRecDepth 100000 in
/-- The end ahead of the beginning. -/
theorem rot_run (B g n c k : Nat) (R : List En) (W : World) (hown : W.ownsRow B 33 2 (.slice (some ⟨g, 0, none⟩) n c) n (ents R)) (hR : R.length = n) (hk : k < n) (hn : n ≤ 1000) (hB : B ≤ W.heap.size) :
    ∃ u W', (Builtin.append_ #[22, 22] 22 #[.slice (some ⟨g, k * 2, none⟩) (n - k) (c - k), .slice (some ⟨g, 0, none⟩) k c]).run Tryd.prog W = .ok u W' ∧ EntsIn W' u (R.drop k ++ R.take k) ∧ Below B W W' := by
  obtain ⟨i0, hi0, hz0, hz1, hz2⟩ := info_parts entInfo
  obtain ⟨hxl, ⟨hv, _⟩ | ⟨g', c', cur, hv, hg, hh, hc, hmx, hs, ht⟩⟩ := hown
  · cases hv
  injection hv with e1 _ e3
  injection e1 with e1
  injection e1 with e1
  subst e1 e3
  have hadd : ∀ (b o q : Nat), (⟨b, o, none⟩ : Addr).add q = ⟨b, o + q, none⟩ := fun b o q => by unfold Addr.add; split <;> simp_all
  have hcell : ∀ (q : Nat) (u : Value), (ents R)[q]? = some u → W.cell? ⟨g, q, none⟩ = some u := fun q u hq => by
    have hq1 := (List.getElem?_eq_some_iff.1 hq).1
    rw [hxl] at hq1
    rw [cell_of_row _ _ _ _ _ _ hh]
    rw [← ht, List.getElem?_take, if_pos (by omega)] at hq
    simpa using hq
  have e : ents R = ents (R.take k) ++ ents (R.drop k) := by rw [← ents_append, List.take_append_drop]
  have hlt : (ents (R.take k)).length = k * 2 := by rw [ents_len, List.length_take, hR]; congr 1; omega
  have hld : (ents (R.drop k)).length = (n - k) * 2 := by rw [ents_len, List.length_drop, hR]
  have hTl : (R.drop k ++ R.take k).length = n := by rw [List.length_append, List.length_drop, List.length_take, hR]; omega
  have hnews : ∀ (q : Nat) (u : Value), (ents (R.take k))[q]? = some u → W.cell? ⟨g, 0 + q, none⟩ = some u := fun q u hq => by
    rw [Nat.zero_add]
    refine hcell q u ?_
    rw [e, List.getElem?_append_left (List.getElem?_eq_some_iff.1 hq).1]
    exact hq
  by_cases hroom : n - k + k ≤ c - k
  · have hrun := run_append_room_off (P := Tryd.prog) (w := W) 22 22 33 i0 entsT hi0 g (k * 2) (n - k) (c - k) cur hh ⟨g, 0, none⟩ k c (ents (R.take k)) (by rw [hz1, hlt]) (fun q u hq => by rw [hadd]; exact hnews q u hq) (ents_one _) hroom (by rw [hz1, hlt, hs]; omega)
    rw [hz1, hlt] at hrun
    refine ⟨_, _, hrun, ⟨⟨by rw [ents_len], Or.inr ⟨g, k * 2, c - k, by rw [hTl]; congr 1; omega, fun j x hj => ?_⟩⟩, fun p n' c' he => ?_⟩, below_rowSet (Below.refl _ _) hg _⟩
    · have hj1 := (List.getElem?_eq_some_iff.1 hj).1
      rw [ents_len, hTl] at hj1
      rw [cell_of_row _ _ _ _ _ _ (setRow_heap _ _ _ _ _ _ hh), ← Array.getElem?_toList]
      show (cur.toList.take (k * 2 + (n - k) * 2) ++ ents (R.take k) ++ cur.toList.drop (k * 2 + (n - k) * 2 + k * 2))[k * 2 + j]? = some x
      have e2 : cur.toList.take (k * 2 + (n - k) * 2) = ents (R.take k) ++ ents (R.drop k) := by
        rw [← e, ← ht]; congr 1; omega
      rw [e2, List.append_assoc, List.append_assoc, List.getElem?_append_right (by omega), hlt, show k * 2 + j - k * 2 = j by omega, ← List.append_assoc, List.getElem?_append_left (by rw [List.length_append, hlt, hld]; omega)]
      rw [ents_append] at hj
      exact hj
    · injection he with _ e4 e5
      omega
  · obtain ⟨v', w', hrun, r1, r2⟩ := run_append_arg_grows (P := Tryd.prog) W 22 22 33 i0 _ 2 24 entsT hi0 hz0 hz1 hz2 rfl (by omega) ⟨g, k * 2, none⟩ (n - k) (c - k) (ents (R.drop k)) hld (fun q u hq => by
      rw [hadd]
      refine hcell _ u ?_
      rw [e, List.getElem?_append_right (by omega), hlt, show k * 2 + q - k * 2 = q by omega]
      exact hq) ⟨g, 0, none⟩ k c (ents (R.take k)) hlt (fun q u hq => by rw [hadd]; exact hnews q u hq) (by omega) (by unfold maxLen; omega) (by omega)
    refine ⟨v', w', hrun, ⟨?_, own_cap r1⟩, ?_⟩
    · unfold EntsAt
      rw [hTl, ents_append]
      have := RowAt.of_owns r1
      rw [show n - k + k = n by omega] at this
      exact this
    · exact Below.grown (Below.refl _ _) r2 hB (fun q hq => by cases hq)

set_option maxRecDepth 100000 in
set_option maxHeartbeats 8000000 in
theorem any_law (v : Value) (l : List En) (by_ : Int) (w : World) (h : EntsIn w v l) (hs : ∀ x, x ∈ l → x.1.size ≤ maxLen) :
    Calls Tryd.prog 5 #[v, .int .i64 by_] w fun e w' => e = .returned (.bool true) ∧ Below w.heap.size w w' := by
  obtain ⟨N, HN⟩ : ∃ N, Hid (N = l.length) := ⟨_, rfl⟩
  obtain ⟨p, cp, rfl, hp⟩ := ents_open h.1 N HN.out
  have HIN := Lib.hid h
  have HS := Lib.hid hs
  clear h hs hp
  go_enter Tryd.func5, Tryd.ntmps5
  go_wp2_with fail
  refine (laid_true _).mono ?_
  rintro e w1 ⟨rfl, hb1⟩
  have HB1 := Lib.hid hb1
  clear hb1
  obtain ⟨eb, Heb⟩ : ∃ b, Hid (entB l = b) := ⟨_, rfl⟩
  have hent := entries_any _ l w1 (HIN.out.below HB1.out).1 HS.out
  rw [Heb.out] at hent
  have HENT := Lib.hid hent
  clear hent
  go_wp2_with fail
  refine HENT.out.mono ?_
  rintro e w2 ⟨rfl, hb2⟩
  have HB2 : Hid (Below w.heap.size w w2) := Below.step HB1.out hb2
  clear hb2
  cases eb with
  | false =>
    go_wp2
    go_ret
    exact ⟨rfl, HB2.out⟩
  | true =>
  have h40 : N ≤ 40 := by
    have := Heb.out
    unfold entB at this
    rw [Bool.and_eq_true, decide_eq_true_eq] at this
    rw [HN.out]; exact this.1
  have HCL := Lib.hid (entsClone_any _ l w2 (HIN.out.below HB2.out).1 (by rw [← HN.out]; omega))
  go_wp2_with fail
  refine HCL.out.mono ?_
  rintro e w3 ⟨v3, rfl, hown, hb3, hz3⟩
  have HB3 : Hid (Below w.heap.size w w3) := Below.step HB2.out hb3
  have HZ3 := Lib.hid hz3
  have HRV := Lib.hid (reverse_any w2.heap.size v3 l w3 hown (by rw [← HN.out]; omega))
  have HOWN := Lib.hid hown
  clear hown hb3 hz3
  go_wp2_with fail
  refine HRV.out.mono ?_
  rintro e w4 ⟨rfl, hown4, hgr⟩
  rw [← HN.out] at hown4
  obtain ⟨q, c, rfl, hq⟩ := owns_slice hown4
  have hb4 : Below w2.heap.size w3 w4 := Below.grown (Below.refl _ _) hgr HZ3.out (fun k hk => own_above HOWN.out (Nat.le_refl _) hk)
  have HB4 : Hid (Below w.heap.size w w4) := HB3.out.trans (hb4.mono HB2.out.size)
  have HZ4 : Hid (w2.heap.size ≤ w4.heap.size) := Nat.le_trans HZ3.out hb4.size
  have HO4 := Lib.hid hown4
  have HQ := Lib.hid hq
  clear hown4 hgr hq hb4
  go_upto_if 22 with fail
  go_cut [5] (fun s5 wx => ∃ T, T.Perm l ∧ EntsIn wx s5 T ∧ Below w.heap.size w wx)
  case first =>
    by_cases h0 : N = 0
    · subst h0
      go_wp2
      go_meet
      refine ⟨l.reverse, List.reverse_perm l, ⟨?_, own_cap HO4.out⟩, HB4.out⟩
      unfold EntsAt
      rw [List.length_reverse, ← HN.out]
      exact RowAt.of_owns HO4.out
    · obtain ⟨g, rfl, hg, _⟩ := HQ.out (by omega)
      have hNpos : (0 : Int) < (N : Int) := by omega
      obtain ⟨k, Hk⟩ : ∃ k, Hid (pkN by_ N = k) := ⟨_, rfl⟩
      have hk : k < N := by rw [← Hk.out]; exact pkN_lt by_ N (by omega) (by omega)
      have HPK : Hid (∀ W : World, Calls Tryd.prog 18 #[.int .i64 by_, .int .i64 (N : Int)] W fun e w' => e = .returned (.int .i64 (k : Int)) ∧ W = w') := fun W => by
        have := pickN by_ (N : Int) W (by omega) (by omega)
        rw [Hk.out] at this
        exact this
      have hcap : N ≤ c := own_cap HO4.out _ _ _ rfl
      obtain ⟨u, w5, hrun, hin, hb5⟩ := rot_run w2.heap.size g N c k l.reverse w4.drew HO4.out (by rw [List.length_reverse, ← HN.out]) hk (by omega) HZ4.out
      have HRES : Hid (∃ T, T.Perm l ∧ EntsIn w5 u T ∧ Below w.heap.size w w5) := by
        refine ⟨_, ?_, hin, HB4.out.drew.trans (hb5.mono HB2.out.size)⟩
        refine List.Perm.trans ?_ (List.reverse_perm l)
        exact (List.perm_append_comm).trans (by rw [List.take_append_drop])
      have kN : (k : Int) ≤ (N : Int) := by omega
      have kc : (k : Int) ≤ (c : Int) := by omega
      have kne : ¬ c = k := by omega
      have kne2 : ¬ k = c := by omega
      have kne3 : ¬ N = k := by omega
      clear hin hb5 hg
      go_wp2_with fail
      refine (HPK.out _).mono ?_
      rintro e w' ⟨rfl, rfl⟩
      go_wp2
      go_still_tail 6, (by kernel_rfl)
      go_wp2_with (at_builtin; refine wpList_append_run rfl _ _ 22 rfl _ _ _ rfl rfl hrun ?_)
      go_meet
      exact HRES.out
  case rest =>
    obtain ⟨T, hT, hin, hbc⟩ := hcut
    have HT := Lib.hid hT
    have HI := Lib.hid hin
    have HBC := Lib.hid hbc
    have hTl : T.length ≤ 40 := by rw [hT.length_eq, ← HN.out]; exact h40
    clear hT hin hbc
    by_cases hr : rightD l = 0
    · have hrT : rightD T = 0 := (rightD_perm HT.out).2 hr
      have HL := Lib.hid (lay_ok _ l wc (HIN.out.below HBC.out) hr)
      have HR := Lib.hid hr
      have HRT := Lib.hid hrT
      clear hr hrT
      go_wp2_with fail
      refine HL.out.mono ?_
      rintro e w6 ⟨a6, rfl, ha6, hb6⟩
      have HB6 : Hid (Below w.heap.size w w6) := Below.step HBC.out hb6
      have HA6 := Lib.hid ha6
      have HL2 := Lib.hid (lay_ok _ T w6 (HI.out.below hb6) HRT.out)
      clear ha6 hb6
      go_wp2_with fail
      refine HL2.out.mono ?_
      rintro e w7 ⟨a7, rfl, ha7, hb7⟩
      have HB7 : Hid (Below w.heap.size w w7) := Below.step HB6.out hb7
      have hsame : layD l = layD T := layD_perm HT.out.symm HR.out
      rw [← hsame] at ha7
      have heq := equalBytes_dec a6 a7 (layD l) (layD l) w7 (HA6.out.below hb7).1 ha7.1 rfl (by rw [layD_len HR.out, ← HN.out]; omega)
      have hee : eqB (layD l) (layD l) = true := by unfold eqB; simp
      rw [hee] at heq
      have HEQ := Lib.hid heq
      clear ha7 hb7 hsame heq hee
      go_wp2_with fail
      refine HEQ.out.mono ?_
      rintro e w8 ⟨rfl, hb8⟩
      have HB8 : Hid (Below w.heap.size w w8) := Below.step HB7.out hb8
      clear hb8
      go_wp2
      go_ret
      exact ⟨rfl, HB8.out⟩
    · have hrT : rightD T ≠ 0 := fun h => hr ((rightD_perm HT.out).1 h)
      obtain ⟨r1, Hr1⟩ : ∃ r, Hid (rightD l = r) := ⟨_, rfl⟩
      obtain ⟨r2, Hr2⟩ : ∃ r, Hid (rightD T = r) := ⟨_, rfl⟩
      rw [Hr1.out] at hr
      rw [Hr2.out] at hrT
      have b1 : (r1 == 0) = false := by rw [beq_eq_false_iff_ne]; exact hr
      have b2 : (r2 == 0) = false := by rw [beq_eq_false_iff_ne]; exact hrT
      have HL := Lib.hid (lay_bad _ l wc (HIN.out.below HBC.out) (by rw [← HN.out]; omega) r1 Hr1.out hr)
      go_wp2_with fail
      refine HL.out.mono ?_
      rintro e w6 ⟨rfl, hb6⟩
      have HB6 : Hid (Below w.heap.size w w6) := Below.step HBC.out hb6
      have HL2 := Lib.hid (lay_bad _ T w6 (HI.out.below hb6) (by omega) r2 Hr2.out hrT)
      clear hb6
      go_wp2_with fail
      refine HL2.out.mono ?_
      rintro e w7 ⟨rfl, hb7⟩
      have HB7 : Hid (Below w.heap.size w w7) := Below.step HB6.out hb7
      have heq := equalBytes_dec (.slice none 0 0) (.slice none 0 0) [] [] w7 ⟨rfl, Or.inl ⟨rfl, _, _, rfl⟩⟩ ⟨rfl, Or.inl ⟨rfl, _, _, rfl⟩⟩ rfl (by simp)
      have hee : eqB ([] : List Int) [] = true := by unfold eqB; simp
      rw [hee] at heq
      have HEQ := Lib.hid heq
      clear hb7 heq hee
      go_wp2_with fail
      refine HEQ.out.mono ?_
      rintro e w8 ⟨rfl, hb8⟩
      have HB8 : Hid (Below w.heap.size w w8) := Below.step HB7.out hb8
      clear hb8
      go_wp2
      go_ret
      exact ⟨rfl, HB8.out⟩
end Go.Proofs.YtheiaebmemcbhaaDoor
