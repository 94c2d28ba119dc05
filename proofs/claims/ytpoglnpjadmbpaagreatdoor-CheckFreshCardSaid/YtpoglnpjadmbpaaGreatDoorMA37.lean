/- Part of the proofs of CheckFresh, FsCut, FsHoles: the texts GOpen, GRight, GCs, GOps, GTd, GCommit. -/
import Derived.Test.YtpoglnpjadmbpaaGreatDoorMA36
import Derived.Maps.Own
import Derived.Maps.OwnOps
set_option maxHeartbeats 16000000
namespace Go.Proofs.YtpoglnpjadmbpaaGreatDoor
open Go.RowKit
def okO (N : List Int) : Bool := qpz N && qxv N
def seqO (N : List Int) : Int := if qpz N = true then qfy N else 0
def ybdx (N : List Int) : List Wr := if okO N = true then qtb N (qlk N) else []
def qxk (st : Dk) : Dk := runE st (emit (ybdx st.N))
def ybcc (x : Wr) : Prop := x.1 < 80 ∧ (x.1 < 5 ∨ 37 ≤ x.1)
def logC (a : Addr) (sq : Int) : Array Value := #[.pointer (some a), .int .i64 5, .int .i64 32, .int .u32 sq]
def ybev (a : Addr) (st : Dk) (sq : Int) (F : Nat → Prop) (gl : Nat) (w w' : World) : Prop :=
 ∃ F', qay w' (.pointer (some a)) st 80 F' ∧ (∀ i, F' i → F i ∨ w.heap.size ≤ i) ∧ ¬ F' gl ∧ qac F w w' ∧ w'.heap[gl]? = some (.cells (logC a sq) 165 (0, 0))
theorem ybhr (P : List Wr) (x : Wr) : emit (P ++ [x]) = emit P ++ [(x.1, x.2, false)] := by unfold emit; rw [List.map_append]; rfl
theorem qri (st : Dk) (n : Nat) (D : List Int) : doE st (n, D, false) = qcc st n D := by unfold doE; rw [if_neg (by simp)]
theorem quf (st : Dk) (P : List Wr) (x : Wr) : runE st (emit (P ++ [x])) = qcc (runE st (emit P)) x.1 x.2 := by rw [ybhr, qsy, qri]
theorem ybdq {w3 wr : World} {base : Nat} {F : Nat → Prop} {x : Jw} (h : qmg w3 base x) (hk : qac F w3 wr) (hF : ∀ i, F i → i < base) : ∃ gx cx cur, x.v = .slice (some ⟨gx, 0, none⟩) 64 cx ∧ base ≤ gx ∧ gx < w3.heap.size ∧ wr.heap[gx]? = some (.cells cur 5 (0, 0)) ∧ cur.toList.take 64 = u8s x.D := by
 obtain ⟨_, _, gx, cx, cur, hxv, hcx, hgx, htx⟩ := h
 exact ⟨gx, cx, cur, hxv, hcx.1, qab hgx, (hk.block gx (qab hgx) (fun h => by have := hF gx h; have := hcx.1; omega)).trans hgx, htx⟩
set_option maxRecDepth 100000 in
theorem ybyh {w : World} {a : Addr} {st : Dk} {F : Nat → Prop} (h : qay w (.pointer (some a)) st 80 F) (hN : qeb st.N) (hg : ∀ x ∈ ybdx st.N, ybcc x) (hW : st.W.length < 900000) :
  Calls Tryz.prog 70 #[.pointer (some a), .int .i64 5, .int .i64 32] w fun e w' => ∃ gl, e = .returned (.tuple #[.pointer (some ⟨gl, 0, none⟩), .int .i64 0]) ∧ w.heap.size ≤ gl ∧ ybev a (qxk st) (seqO st.N) F gl w w' := by
 have HD := Lib.hid h
 have HFL := Lib.hid h.fin
 have HSC := Lib.hid (ybum h hN)
 have HGD := Lib.hid hg
 have HWW := Lib.hid hW
 clear h hN hg hW
 go_enter Tryz.func70, Tryz.ntmps70
 go_wp2_with fail
 refine HSC.out.mono ?_
 intro e w1 hres
 unfold ybcg at hres
 have HL0 : ∀ (w1 : World) (sq : Int), Below w.heap.size w w1 → okO st.N = false → seqO st.N = sq → ybev a (qxk st) (seqO st.N) F w1.heap.size w (w1.alloc (.cells (logC a sq) 165)) := fun w1 sq hb hok hsq => by
  have e : qxk st = st := by unfold qxk ybdx; rw [hok, if_neg (by simp)]; rfl
  rw [e, hsq]
  refine ⟨F, (HD.out.below hb).below ((Below.refl _ _).alloc (Nat.le_refl _) _), fun _ h => Or.inl h, fun h => ?_, (qac.of_below hb).step (qac.alloc _), heap_alloc_new _ _⟩
  have h1 := HFL.out _ h
  have h2 := hb.size
  omega
 rcases hres with ⟨s1, rfl, hb⟩ | ⟨s1, s2, rfl, hb⟩ | ⟨s1, s2, v, E, rfl, hE, hJ, hb⟩
 ·have HLD := Lib.hid (HL0 w1 0 hb (by unfold okO; rw [s1]; rfl) (by unfold seqO; rw [if_neg (by rw [s1]; simp)]))
  have HB := Lib.hid hb
  clear HL0 hb s1
  go_wp2
  go_ret2
  exact ⟨_, rfl, HB.out.size, HLD.out⟩
 ·have HLD := Lib.hid (HL0 w1 (qfy st.N) hb (by unfold okO; rw [s2]; simp) (by unfold seqO; rw [if_pos s1]))
  have HB := Lib.hid hb
  clear HL0 hb s1 s2
  go_wp2
  go_ret2
  exact ⟨_, rfl, HB.out.size, HLD.out⟩
 ·have hok : okO st.N = true := by unfold okO; rw [s1, s2]; rfl
  have HOL : Hid (ybdx st.N = E.map jab) := by show _ = _; unfold ybdx; rw [if_pos hok, hE]
  have HSQ : Hid (seqO st.N = qfy st.N) := by show _ = _; unfold seqO; rw [if_pos s1]
  have HOE : Hid (qxk st = runE st (emit (E.map jab))) := by show _ = _; unfold qxk; rw [HOL.out]
  have HGE : Hid (∀ x ∈ E, ybcc (jab x)) := fun x hx => HGD.out _ (by rw [HOL.out]; exact List.mem_map.2 ⟨x, hx, rfl⟩)
  have hEl : E.length ≤ 30 := by
   have h1 := congrArg List.length hE
   rw [List.length_map, qtc] at h1
   unfold qpz at s1
   simp only [Bool.and_eq_true, decide_eq_true_eq] at s1
   omega
  obtain ⟨p, cp, rfl, HP⟩ := qqh (qah.of_owns hJ.1)
  obtain ⟨N, HNN⟩ : ∃ N, Hid (E.length = N) := ⟨_, rfl⟩
  rw [HNN.out] at HP hEl
  rw [HNN.out]
  have HJ2 := Lib.hid hJ.2
  have HOWN := Lib.hid hJ.1
  have HB1 := Lib.hid hb
  generalize qfy st.N = sq at *
  clear hJ hb hE s1 s2 hok HL0 HSC HGD HOL
  go_wp2
  go_loopw [31] (fun i wr => ∃ k : Nat, k ≤ N ∧ i = .int .i64 k ∧ Hid (Below w1.heap.size w1 wr)) (fun i _ => N - (intOf i).toNat)
  case atStart => exact ⟨0, Nat.zero_le _, rfl, Below.refl _ _⟩
  case round =>
   obtain ⟨k, hk, rfl, HB⟩ := hrel
   by_cases hlt : k < N
   ·obtain ⟨g, o, rfl, hg, hc⟩ := HP.out (by omega)
    have hkl : k < E.length := by rw [HNN.out]; exact hlt
    obtain ⟨e0, e1⟩ := qgn E k hkl
    have hfr := HGE.out E[k] (List.getElem_mem hkl)
    obtain ⟨px, cx, hxs⟩ := (qmg.ok (HJ2.out E[k] (List.getElem_mem hkl))).shape
    generalize E[k] = x at e0 e1 hfr hxs
    obtain ⟨xn, xv, xD⟩ := x
    dsimp only at hxs e0 e1
    subst hxs
    have c0 := (HB.out.cell (p := ⟨g, o + k * 2, none⟩) hg).trans (hc _ _ e0)
    have c1 := (HB.out.cell (p := ⟨g, o + (k * 2 + 1), none⟩) hg).trans (hc _ _ e1)
    rw [← Nat.add_assoc] at c1
    obtain ⟨hn20, hn28⟩ : xn < 80 ∧ (xn < 5 ∨ 37 ≤ xn) := hfr
    have hlt2 : (k : Int) < (N : Int) := by omega
    have hgl : g < wr.heap.size := Nat.lt_of_lt_of_le hg HB.out.size
    have hgn : ¬ g = wr.heap.size := by omega
    have HBA : Hid (Below w1.heap.size w1 (wr.alloc (.cells #[.int .i64 (xn : Int), .slice px 64 cx] 169))) := HB.out.alloc HB.out.size _
    have HSZ : Hid (∀ n, Calls Tryz.prog 41 #[.pointer (some a)] ((wr.alloc (.cells #[.int .i64 (xn : Int), .slice px 64 cx] 169)).drewN n) fun e w' => e = .returned (.int .i64 ((80 : Nat) : Int)) ∧ w' = (wr.alloc (.cells #[.int .i64 (xn : Int), .slice px 64 cx] 169)).drewN n) := fun n => (qfz ((HD.out.below (Below.step HB1.out HBA.out)).drewN n)).mono fun e w' h => ⟨h.1, h.2.symm⟩
    have d1 : decide ((80 : Int) ≤ (xn : Int)) = false := by rw [decide_eq_false_iff_not]; omega
    have d1' : decide (80 ≤ xn) = false := by rw [decide_eq_false_iff_not]; omega
    clear hc e0 e1
    by_cases h2 : xn < 5
    ·have d2 : decide ((5 : Int) ≤ (xn : Int)) = false := by rw [decide_eq_false_iff_not]; omega
     have d2' : decide (5 ≤ xn) = false := by rw [decide_eq_false_iff_not]; omega
     clear h2 hn28
     go_wp2
     go_quiet ((go_at_call 41; exact Calls.quiet_of_same (HSZ.out _)))
     go_wp2
     go_roundw
     case rel => exact ⟨k + 1, by omega, by go_num, qfk HBA.out _⟩
     case measure => simp [intOf]; omega
    ·have h8 : 37 ≤ xn := by omega
     have d2 : decide ((5 : Int) ≤ (xn : Int)) = true := by rw [decide_eq_true_iff]; omega
     have d2' : decide (5 ≤ xn) = true := by rw [decide_eq_true_iff]; omega
     have d3 : decide ((xn : Int) < 37) = false := by rw [decide_eq_false_iff_not]; omega
     have d3' : decide (xn < 37) = false := by rw [decide_eq_false_iff_not]; omega
     clear h2 hn28
     go_wp2
     go_quiet ((go_at_call 41; exact Calls.quiet_of_same (HSZ.out _)))
     go_wp2
     go_roundw
     case rel => exact ⟨k + 1, by omega, by go_num, qfk HBA.out _⟩
     case measure => simp [intOf]; omega
   ·have HST : Hid (Did (.pointer (some a)) (runE st (emit ((E.take 0).map jab))) 80 F w1 wr) :=
     ⟨F, HD.out.below (Below.step HB1.out HB.out), fun _ h => Or.inl h, qac.of_below HB.out⟩
    have hFb : ∀ i, F i → i < w.heap.size := HFL.out
    have HFB := Lib.hid hFb
    have bKn : decide (k < N) = false := by rw [decide_eq_false_iff_not]; exact hlt
    clear HB hFb
    go_wp2
    go_loopw [57] (fun i wq => ∃ j : Nat, j ≤ N ∧ i = .int .i64 j ∧ Hid (Did (.pointer (some a)) (runE st (emit ((E.take j).map jab))) 80 F w1 wq)) (fun i _ => N - (intOf i).toNat)
    case atStart => exact ⟨0, Nat.zero_le _, rfl, HST⟩
    case round =>
     obtain ⟨j, hj, rfl, HR⟩ := hrel
     by_cases hlt : j < N
     ·obtain ⟨g, o, rfl, hg, hc⟩ := HP.out (by omega)
      have hkl : j < E.length := by rw [HNN.out]; exact hlt
      obtain ⟨F', hd', hF', hk'⟩ := HR.out
      obtain ⟨e0, e1⟩ := qgn E j hkl
      have hgo : w.heap.size ≤ g := (HOWN.out.lt g rfl).1
      have hnF : ¬ F g := fun h => by have := HFB.out g h; omega
      have c0 := (hk'.cell hg hnF).trans (hc _ _ e0)
      have c1 := (hk'.cell hg hnF).trans (hc _ _ e1)
      rw [← Nat.add_assoc] at c1
      have hfr := HGE.out E[j] (List.getElem_mem hkl)
      have hnew := HJ2.out E[j] (List.getElem_mem hkl)
      have HTK : Hid (runE st (emit ((E.take (j + 1)).map jab)) = qcc (runE st (emit ((E.take j).map jab))) E[j].n E[j].D) := by
       show _ = _
       rw [← List.take_append_getElem hkl, List.map_append]
       exact quf _ _ _
      generalize E[j] = x at e0 e1 c0 c1 hfr hnew HTK
      obtain ⟨xn, xv, xD⟩ := x
      obtain ⟨gx, cx, cur, hxv, hgx1, hgx2, hhx, htx⟩ := ybdq hnew hk' HFB.out
      dsimp only at hxv c0 c1 HTK htx
      subst hxv
      have hn20 : xn < 80 := hfr.1
      have hD64 : xD.length = 64 := hnew.2.1
      have hgl : g < wr.heap.size := Nat.lt_of_lt_of_le hg hk'.size
      have hgn : ¬ g = wr.heap.size := by omega
      have hlt2 : (j : Int) < (N : Int) := by omega
      have hWj : (runE st (emit ((E.take j).map jab))).W.length < 1000000 := by
       have h1 := ybgq st (emit ((E.take j).map jab))
       rw [show (emit ((E.take j).map jab)).length = (E.take j).length by simp [emit]] at h1
       have h2 := List.length_take_le j E
       have h3 := HWW.out
       omega
      have hnF2 : ¬ F' gx := fun h => by
       rcases hF' gx h with h | h
       ·have := HFB.out gx h; omega
       ·omega
      have hgz : gx < (wr.alloc (.cells #[.int .i64 (xn : Int), .slice (some ⟨gx, 0, none⟩) 64 cx] 169)).heap.size := by
       have := qab hhx
       simp; omega
      have HDA := Lib.hid (hd'.below ((Below.refl _ _).alloc (Nat.le_refl _) (.cells #[.int .i64 (xn : Int), .slice (some ⟨gx, 0, none⟩) 64 cx] 169)))
      have HWR := Lib.hid (qhk HDA.out xn hn20 (.slice (some ⟨gx, 0, none⟩) 64 cx) xD hD64 (fun w' hk => qaw hD64 ((hk.block gx hgz hnF2).trans (qad hhx _)) htx) hWj)
      have HF' := Lib.hid hF'
      have HK' := Lib.hid hk'
      clear hc e0 e1 hd' hF' hk' hfr hnew hgx1 hgx2 hD64 hhx htx hnF2 hgz hWj HR
      go_wp2_with fail
      refine HWR.out.mono ?_
      rintro e wq ⟨rfl, hdid⟩
      have HNX : Hid (Did (.pointer (some a)) (runE st (emit ((E.take (j + 1)).map jab))) 80 F w1 wq) := by
       show Did _ _ _ _ _ _
       rw [HTK.out]
       exact Did.trans (HK'.out.step (qac.alloc _)) HF'.out hdid
      clear hdid
      go_wp2
      go_roundw
      case rel => exact ⟨j + 1, by omega, by go_num, HNX⟩
      case measure => simp [intOf]; omega
     ·have HT : Hid (E.take j = E) := List.take_of_length_le (by rw [HNN.out]; omega)
      rw [HT.out, ← HOE.out] at HR
      obtain ⟨F', hd', hF', hk'⟩ := HR.out
      have HLD : Hid (ybev a (qxk st) (seqO st.N) F wr.heap.size w (wr.alloc (.cells (logC a sq) 165))) := by
       show ybev _ _ _ _ _ _ _
       rw [HSQ.out]
       refine ⟨F', hd'.below ((Below.refl _ _).alloc (Nat.le_refl _) _), fun i hi => ?_, fun h => ?_, ((qac.of_below HB1.out).step hk').step (qac.alloc _), heap_alloc_new _ _⟩
       ·rcases hF' i hi with h | h
        ·exact Or.inl h
        ·exact Or.inr (Nat.le_trans HB1.out.size h)
       ·have := hd'.fin _ h; omega
      have hsz : w.heap.size ≤ wr.heap.size := Nat.le_trans HB1.out.size hk'.size
      clear hd' hF' hk' HR
      go_wp2
      go_ret2
      exact ⟨_, rfl, hsz, HLD.out⟩
end Go.Proofs.YtpoglnpjadmbpaaGreatDoor
namespace Go.Proofs.YtpoglnpjadmbpaaGreatDoor
open Go.RowKit Go.Maps
def mapS (S : List Nat) : DataW Value := S.foldl (fun D n => D.put (keyL n) (.held (.bool true))) (.map [])
theorem qse (S : List Nat) (n : Nat) : mapS (S ++ [n]) = (mapS S).put (keyL n) (.held (.bool true)) := by unfold mapS; rw [List.foldl_append]; rfl
theorem ybxy (S : List Nat) : ∀ k, k ≤ S.length → IsMap (mapS (S.take k)) ∧ ∀ n, (mapS (S.take k)).atKey (keyL n) (.held (.bool false)) = .held (.bool ((S.take k).contains n)) := by
 intro k
 induction k with
 | zero => intro _; exact ⟨isMap_empty, fun n => by rw [atKey_of_not_has (by simp [mapS, has])]; rfl⟩
 | succ k ih =>
  intro hk
  obtain ⟨h1, h2⟩ := ih (by omega)
  have e1 : S.take (k + 1) = S.take k ++ [S[k]] := (List.take_append_getElem (show k < S.length by omega)).symm
  rw [e1, qse]
  refine ⟨h1.put _ _, fun n => ?_⟩
  by_cases e : n = S[k]
  ·subst e
   rw [atKey_put_same h1 (qqi _)]
   have : (S.take k ++ [S[k]]).contains S[k] = true := by rw [List.contains_iff_mem]; exact List.mem_append_right _ (List.mem_singleton.2 rfl)
   rw [this]
  ·rw [atKey_put_other (fun h => e (qxd h)), h2]
   have this : (S.take k ++ [S[k]]).contains n = (S.take k).contains n := by
    rw [Bool.eq_iff_iff, List.contains_iff_mem, List.contains_iff_mem, List.mem_append, List.mem_singleton]
    exact ⟨fun h => h.resolve_right e, Or.inl⟩
   rw [this]
theorem ybno (S : List Nat) (n : Nat) : (mapS S).atKey (keyL n) (.held (.bool false)) = .held (.bool (S.contains n)) := by
 have := (ybxy S S.length (Nat.le_refl _)).2 n
 rwa [List.take_length] at this
def rJ : List Nat → List (Nat × Nat) → Int
 | _, [] => 0
 | S, x :: r => if 80 ≤ x.1 ∨ (5 ≤ x.1 ∧ x.1 < 37) ∨ x.2 ≠ 64 then 1 else if S.contains x.1 = true then 5 else rJ (S ++ [x.1]) r
def jnl (x : Jw) : Nat × Nat := (x.n, x.D.length)
def qst (E : List Jw) : Int := if 30 < E.length then 2 else rJ [] (E.map jnl)
theorem ybyr {E : List Jw} {k : Nat} (hk : k < E.length) (S : List Nat) : rJ S ((E.drop k).map jnl) = if 80 ≤ E[k].n ∨ (5 ≤ E[k].n ∧ E[k].n < 37) ∨ E[k].D.length ≠ 64 then 1 else if S.contains E[k].n = true then 5 else rJ (S ++ [E[k].n]) ((E.drop (k + 1)).map jnl) := by
 rw [List.drop_eq_getElem_cons hk, List.map_cons, rJ]
 rfl
def ybkk (x : Jw) : Prop := x.n < 256 ∧ x.D.length ≤ 1000 ∧ ∃ p c, x.v = .slice p x.D.length c
theorem ybtk : Tryz.prog.underlying 83 = some (.map 3 4) := by kernel_rfl
theorem ybyt {w : World} {a : Addr} {sq : Int} {gl : Nat} (hl : w.heap[gl]? = some (.cells (logC a sq) 165 (0, 0))) : Calls Tryz.prog 142 #[.pointer (some ⟨gl, 0, none⟩)] w fun e w' => e = .returned (.int .i64 30) ∧ w = w' := by
 have c2 : w.cell? ⟨gl, 2, none⟩ = some (.int .i64 32) := cell_of_row _ _ _ _ _ _ hl
 have hlt := qab hl
 clear hl
 go_enter Tryz.func142, Tryz.ntmps142
 go_wp2
 go_ret
 exact ⟨rfl, rfl⟩
set_option maxRecDepth 100000 in
theorem ybui {w : World} {a : Addr} {st : Dk} {F : Nat → Prop} {sq : Int} {gl : Nat} (h : qay w (.pointer (some a)) st 80 F) (hl : w.heap[gl]? = some (.cells (logC a sq) 165 (0, 0))) (v : Value) (E : List Jw) (hv : qah w v 2 E.length (qhh E)) (hE : ∀ x ∈ E, ybkk x) (hn : E.length ≤ 1000) :
  Calls Tryz.prog 104 #[.pointer (some ⟨gl, 0, none⟩), v] w fun e w' => e = .returned (.int .i64 (qst E)) ∧ Below w.heap.size w w' := by
 have HD := Lib.hid h
 have HL := Lib.hid hl
 have HRO := Lib.hid (ybyt hl)
 obtain ⟨p, cp, rfl, HP⟩ := qqh hv
 have HE := Lib.hid hE
 obtain ⟨N, HN⟩ : ∃ N, Hid (E.length = N) := ⟨_, rfl⟩
 rw [HN.out] at HP hn
 rw [HN.out]
 have hltl := qab hl
 clear h hl hv hE
 have HOM : Hid ((w.alloc (.map #[] 0)).ownsMap Tryz.prog 3 RV w.heap.size 0 (.map [])) := World.ownsMap_made w Tryz.prog 3 RV
 have hmm := @run_makeMap Tryz.prog
 go_enter Tryz.func104, Tryz.ntmps104
 go_wp2_with fail
 refine HRO.out.mono ?_
 rintro e w' ⟨rfl, rfl⟩
 by_cases h4 : 30 < N
 ·have d1 : decide ((30 : Int) < (N : Int)) = true := by rw [decide_eq_true_iff]; omega
  have d2 : decide (30 < N) = true := by rw [decide_eq_true_iff]; omega
  have HI : Hid (qst E = 2) := by show _ = _; unfold qst; rw [HN.out, if_pos h4]
  go_wp2
  go_ret
  rw [HI.out]
  exact ⟨rfl, Below.refl _ _⟩
 have d1 : decide ((30 : Int) < (N : Int)) = false := by rw [decide_eq_false_iff_not]; omega
 have d2 : decide (30 < N) = false := by rw [decide_eq_false_iff_not]; omega
 have HI : Hid (qst E = rJ [] (E.map jnl)) := by show _ = _; unfold qst; rw [HN.out, if_neg h4]
 go_wp2
 clear hmm
 go_loopw [16] (fun i wr => ∃ k : Nat, k ≤ N ∧ i = .int .i64 k ∧ Hid (wr.ownsMap Tryz.prog 3 RV w.heap.size k (mapS ((E.take k).map fun x => x.n))) ∧ Hid (rJ [] (E.map jnl) = rJ ((E.take k).map fun x => x.n) ((E.drop k).map jnl)) ∧ Hid (Below w.heap.size w wr)) (fun i _ => N - (intOf i).toNat)
 case atStart => exact ⟨0, Nat.zero_le _, rfl, HOM, rfl, (Below.refl _ _).alloc (Nat.le_refl _) _⟩
 case round =>
  obtain ⟨k, hk, rfl, HM, HRJ, HB⟩ := hrel
  by_cases hlt : k < N
  ·obtain ⟨g, o, rfl, hg, hc⟩ := HP.out (by omega)
   have hkl : k < E.length := by rw [HN.out]; exact hlt
   obtain ⟨e0, e1⟩ := qgn E k hkl
   have hsh := HE.out E[k] (List.getElem_mem hkl)
   have hst := ybyr hkl ((E.take k).map fun x => x.n)
   rw [← HRJ.out] at hst
   have htk : (E.take (k + 1)).map (fun x => x.n) = (E.take k).map (fun x => x.n) ++ [E[k].n] := by rw [← List.take_append_getElem hkl, List.map_append]; rfl
   generalize E[k] = x at e0 e1 hsh hst htk
   obtain ⟨xn, xv, xD⟩ := x
   obtain ⟨hx256, hx1000, px, cx, hxs⟩ := hsh
   dsimp only at hxs e0 e1 hst htk hx256 hx1000
   obtain ⟨xl, Hxl⟩ : ∃ l, Hid (xD.length = l) := ⟨_, rfl⟩
   rw [Hxl.out] at hxs hst hx1000
   subst hxs
   have c0 := (HB.out.cell (p := ⟨g, o + k * 2, none⟩) hg).trans (hc _ _ e0)
   have c1 := (HB.out.cell (p := ⟨g, o + (k * 2 + 1), none⟩) hg).trans (hc _ _ e1)
   rw [← Nat.add_assoc] at c1
   have hlt2 : (k : Int) < (N : Int) := by omega
   have hgl : g < wr.heap.size := Nat.lt_of_lt_of_le hg HB.out.size
   have hgn : ¬ g = wr.heap.size := by omega
   have hlr : gl < wr.heap.size := Nat.lt_of_lt_of_le hltl HB.out.size
   have hlrn : ¬ gl = wr.heap.size := by omega
   have hlw := qaa HB.out HL.out
   have l0 : wr.cell? ⟨gl, 0, none⟩ = some (.pointer (some a)) := cell_of_row _ _ _ _ _ _ hlw
   have l1 : wr.cell? ⟨gl, 1, none⟩ = some (.int .i64 5) := cell_of_row _ _ _ _ _ _ hlw
   have l2 : wr.cell? ⟨gl, 2, none⟩ = some (.int .i64 32) := cell_of_row _ _ _ _ _ _ hlw
   have HBA : Hid (Below w.heap.size w (wr.alloc (.cells #[.int .i64 (xn : Int), .slice px xl cx] 169))) := HB.out.alloc HB.out.size _
   have HSZ : Hid (∀ n, Calls Tryz.prog 41 #[.pointer (some a)] ((wr.alloc (.cells #[.int .i64 (xn : Int), .slice px xl cx] 169)).drewN n) fun e w' => e = .returned (.int .i64 ((80 : Nat) : Int)) ∧ w' = (wr.alloc (.cells #[.int .i64 (xn : Int), .slice px xl cx] 169)).drewN n) := fun n => (qfz ((HD.out.below HBA.out).drewN n)).mono fun e w' h => ⟨h.1, h.2.symm⟩
   have HST := Lib.hid hst
   have HTK := Lib.hid htk
   have b0 : decide ((xn : Int) < 0) = false := by rw [decide_eq_false_iff_not]; omega
   clear hc e0 e1 hst htk hlw
   by_cases h20 : 80 ≤ xn
   ·have q1 : decide ((80 : Int) ≤ (xn : Int)) = true := by rw [decide_eq_true_iff]; omega
    have q1' : decide (80 ≤ xn) = true := by rw [decide_eq_true_iff]; omega
    have HR1 : Hid (rJ [] (E.map jnl) = 1) := by show _ = _; rw [HST.out, if_pos (Or.inl h20)]
    clear h20
    go_wp2
    go_quiet ((go_at_call 41; exact Calls.quiet_of_same (HSZ.out _)))
    go_wp2
    go_ret
    rw [HI.out, HR1.out]
    exact ⟨rfl, qfk HBA.out _⟩
   have q1 : decide ((80 : Int) ≤ (xn : Int)) = false := by rw [decide_eq_false_iff_not]; omega
   have q1' : decide (80 ≤ xn) = false := by rw [decide_eq_false_iff_not]; omega
   by_cases h28 : 5 ≤ xn ∧ xn < 37
   ·have q2 : decide ((5 : Int) ≤ (xn : Int)) = true := by rw [decide_eq_true_iff]; omega
    have q2' : decide (5 ≤ xn) = true := by rw [decide_eq_true_iff]; omega
    have q3 : decide ((xn : Int) < 37) = true := by rw [decide_eq_true_iff]; omega
    have q3' : decide (xn < 37) = true := by rw [decide_eq_true_iff]; omega
    have HR1 : Hid (rJ [] (E.map jnl) = 1) := by show _ = _; rw [HST.out, if_pos (Or.inr (Or.inl h28))]
    clear h20 h28
    go_wp2
    go_quiet ((go_at_call 41; exact Calls.quiet_of_same (HSZ.out _)))
    go_wp2
    go_ret
    rw [HI.out, HR1.out]
    exact ⟨rfl, qfk HBA.out _⟩
   by_cases h2 : xn < 5
   ·have q2 : decide ((5 : Int) ≤ (xn : Int)) = false := by rw [decide_eq_false_iff_not]; omega
    have q2' : decide (5 ≤ xn) = false := by rw [decide_eq_false_iff_not]; omega
    clear h2
    by_cases h64 : xl = 64
    case neg =>
     have q4 : ((xl : Int) == 64) = false := by rw [beq_eq_false_iff_ne]; omega
     have q5 : ((xl : Int) != 64) = true := by simp [bne, q4]
     have HR1 : Hid (rJ [] (E.map jnl) = 1) := by show _ = _; rw [HST.out, if_pos (Or.inr (Or.inr h64))]
     clear h20 h28 h64
     go_wp2
     go_quiet ((go_at_call 41; exact Calls.quiet_of_same (HSZ.out _)))
     go_wp2
     go_ret
     rw [HI.out, HR1.out]
     exact ⟨rfl, qfk HBA.out _⟩
    subst h64
    have HST2 : Hid (rJ [] (E.map jnl) = if ((E.take k).map fun x => x.n).contains xn = true then 5 else rJ (((E.take k).map fun x => x.n) ++ [xn]) ((E.drop (k + 1)).map jnl)) := by
     show _ = _
     rw [HST.out, if_neg (by intro h; rcases h with h | h | h; exact h20 h; exact h28 h; exact h rfl)]
    clear h20 h28 HST
    obtain ⟨cb, Hcb⟩ : ∃ b, Hid (((E.take k).map fun x => x.n).contains xn = b) := ⟨_, rfl⟩
    rw [Hcb.out] at HST2
    have HKEY : Hid (keyOf Tryz.prog 3 (.int .i64 (xn : Int)) = some (keyL xn)) := keyOf_int_mk (by kernel_rfl) (ybqh xn hx256)
    go_wp2
    go_quiet ((go_at_call 41; exact Calls.quiet_of_same (HSZ.out _)))
    have HBW : Hid (Below w.heap.size w ((wr.alloc (.cells #[.int .i64 (xn : Int), .slice px 64 cx] 169)).drewN nq)) := qfk HBA.out nq
    have HMA : Hid (((wr.alloc (.cells #[.int .i64 (xn : Int), .slice px 64 cx] 169)).drewN nq).ownsMap Tryz.prog 3 RV w.heap.size k (mapS ((E.take k).map fun x => x.n))) := HM.out.alloc _
    have x0 : ((wr.alloc (.cells #[.int .i64 (xn : Int), .slice px 64 cx] 169)).drewN nq).cell? ⟨wr.heap.size, 0, none⟩ = some (.int .i64 (xn : Int)) := cell_of_row _ _ _ _ _ _ (heap_alloc_new wr _)
    have xz : wr.heap.size < ((wr.alloc (.cells #[.int .i64 (xn : Int), .slice px 64 cx] 169)).drewN nq).heap.size := by simp [World.drewN]
    obtain ⟨vb, psb, hrun, hvb⟩ := HMA.out.lookup (t := 83) (e := 4) qit ybtk (z := .bool false) (by kernel_rfl) (zd := .held (.bool false)) (zp := []) rfl HKEY.out
    rw [ybno, Hcb.out] at hvb
    have hvb2 : vb = .bool cb := by
     unfold RV at hvb
     simp at hvb
     exact hvb.1
    rw [hvb2] at hrun
    generalize (wr.alloc (.cells #[.int .i64 (xn : Int), .slice px 64 cx] 169)).drewN nq = w5 at *
    have hz5 : w.heap.size ≤ w5.heap.size := HBW.out.size
    clear hvb hvb2 c0 c1 l0 l1 l2
    cases cb with
    | true =>
     have HR1 : Hid (rJ [] (E.map jnl) = 5) := by show _ = _; rw [HST2.out, if_pos rfl]
     go_wp2
     go_ret
     rw [HI.out, HR1.out]
     exact ⟨rfl, HBW.out⟩
    | false =>
     have HR1 : Hid (rJ [] (E.map jnl) = rJ ((E.take (k + 1)).map fun x => x.n) ((E.drop (k + 1)).map jnl)) := by show _ = _; rw [HST2.out, if_neg (by simp), HTK.out]
     go_wp2_with (at_mapUpdate; refine wpList_mapUpdate_own _ rfl _ _ _ 83 rfl 3 4 qit ybtk RV w.heap.size k (mapS ((E.take k).map fun x => x.n)) rfl HMA.out (by unfold maxLen; omega) _ _ (keyL xn) rfl rfl HKEY.out _ [] rfl ?_; intro w6 hown hgrow)
     have HM6 : Hid (w6.ownsMap Tryz.prog 3 RV w.heap.size (k + 1) (mapS ((E.take (k + 1)).map fun x => x.n))) := by show World.ownsMap _ _ _ _ _ _ _; rw [HTK.out, qse]; exact hown
     have HB6 : Hid (Below w.heap.size w w6) := HBW.out.grown hgrow hz5 (by intro r hr; simp at hr; omega)
     clear hown hgrow
     go_wp2
     go_roundw
     case rel => exact ⟨k + 1, by omega, by go_num, HM6, HR1, HB6⟩
     case measure => simp [intOf]; omega
   ·have q2 : decide ((5 : Int) ≤ (xn : Int)) = true := by rw [decide_eq_true_iff]; omega
    have q2' : decide (5 ≤ xn) = true := by rw [decide_eq_true_iff]; omega
    have q3 : decide ((xn : Int) < 37) = false := by rw [decide_eq_false_iff_not]; omega
    have q3' : decide (xn < 37) = false := by rw [decide_eq_false_iff_not]; omega
    clear h2
    by_cases h64 : xl = 64
    case neg =>
     have q4 : ((xl : Int) == 64) = false := by rw [beq_eq_false_iff_ne]; omega
     have q5 : ((xl : Int) != 64) = true := by simp [bne, q4]
     have HR1 : Hid (rJ [] (E.map jnl) = 1) := by show _ = _; rw [HST.out, if_pos (Or.inr (Or.inr h64))]
     clear h20 h28 h64
     go_wp2
     go_quiet ((go_at_call 41; exact Calls.quiet_of_same (HSZ.out _)))
     go_wp2
     go_ret
     rw [HI.out, HR1.out]
     exact ⟨rfl, qfk HBA.out _⟩
    subst h64
    have HST2 : Hid (rJ [] (E.map jnl) = if ((E.take k).map fun x => x.n).contains xn = true then 5 else rJ (((E.take k).map fun x => x.n) ++ [xn]) ((E.drop (k + 1)).map jnl)) := by
     show _ = _
     rw [HST.out, if_neg (by intro h; rcases h with h | h | h; exact h20 h; exact h28 h; exact h rfl)]
    clear h20 h28 HST
    obtain ⟨cb, Hcb⟩ : ∃ b, Hid (((E.take k).map fun x => x.n).contains xn = b) := ⟨_, rfl⟩
    rw [Hcb.out] at HST2
    have HKEY : Hid (keyOf Tryz.prog 3 (.int .i64 (xn : Int)) = some (keyL xn)) := keyOf_int_mk (by kernel_rfl) (ybqh xn hx256)
    go_wp2
    go_quiet ((go_at_call 41; exact Calls.quiet_of_same (HSZ.out _)))
    have HBW : Hid (Below w.heap.size w ((wr.alloc (.cells #[.int .i64 (xn : Int), .slice px 64 cx] 169)).drewN nq)) := qfk HBA.out nq
    have HMA : Hid (((wr.alloc (.cells #[.int .i64 (xn : Int), .slice px 64 cx] 169)).drewN nq).ownsMap Tryz.prog 3 RV w.heap.size k (mapS ((E.take k).map fun x => x.n))) := HM.out.alloc _
    have x0 : ((wr.alloc (.cells #[.int .i64 (xn : Int), .slice px 64 cx] 169)).drewN nq).cell? ⟨wr.heap.size, 0, none⟩ = some (.int .i64 (xn : Int)) := cell_of_row _ _ _ _ _ _ (heap_alloc_new wr _)
    have xz : wr.heap.size < ((wr.alloc (.cells #[.int .i64 (xn : Int), .slice px 64 cx] 169)).drewN nq).heap.size := by simp [World.drewN]
    obtain ⟨vb, psb, hrun, hvb⟩ := HMA.out.lookup (t := 83) (e := 4) qit ybtk (z := .bool false) (by kernel_rfl) (zd := .held (.bool false)) (zp := []) rfl HKEY.out
    rw [ybno, Hcb.out] at hvb
    have hvb2 : vb = .bool cb := by
     unfold RV at hvb
     simp at hvb
     exact hvb.1
    rw [hvb2] at hrun
    generalize (wr.alloc (.cells #[.int .i64 (xn : Int), .slice px 64 cx] 169)).drewN nq = w5 at *
    have hz5 : w.heap.size ≤ w5.heap.size := HBW.out.size
    clear hvb hvb2 c0 c1 l0 l1 l2
    cases cb with
    | true =>
     have HR1 : Hid (rJ [] (E.map jnl) = 5) := by show _ = _; rw [HST2.out, if_pos rfl]
     go_wp2
     go_ret
     rw [HI.out, HR1.out]
     exact ⟨rfl, HBW.out⟩
    | false =>
     have HR1 : Hid (rJ [] (E.map jnl) = rJ ((E.take (k + 1)).map fun x => x.n) ((E.drop (k + 1)).map jnl)) := by show _ = _; rw [HST2.out, if_neg (by simp), HTK.out]
     go_wp2_with (at_mapUpdate; refine wpList_mapUpdate_own _ rfl _ _ _ 83 rfl 3 4 qit ybtk RV w.heap.size k (mapS ((E.take k).map fun x => x.n)) rfl HMA.out (by unfold maxLen; omega) _ _ (keyL xn) rfl rfl HKEY.out _ [] rfl ?_; intro w6 hown hgrow)
     have HM6 : Hid (w6.ownsMap Tryz.prog 3 RV w.heap.size (k + 1) (mapS ((E.take (k + 1)).map fun x => x.n))) := by show World.ownsMap _ _ _ _ _ _ _; rw [HTK.out, qse]; exact hown
     have HB6 : Hid (Below w.heap.size w w6) := HBW.out.grown hgrow hz5 (by intro r hr; simp at hr; omega)
     clear hown hgrow
     go_wp2
     go_roundw
     case rel => exact ⟨k + 1, by omega, by go_num, HM6, HR1, HB6⟩
     case measure => simp [intOf]; omega
  ·have HF : Hid (rJ [] (E.map jnl) = 0) := by
    show _ = _
    rw [HRJ.out, List.drop_of_length_le (by rw [HN.out]; omega)]
    rfl
   go_wp2
   go_ret
   rw [HI.out, HF.out]
   exact ⟨rfl, HB.out⟩
end Go.Proofs.YtpoglnpjadmbpaaGreatDoor
namespace Go.Proofs.YtpoglnpjadmbpaaGreatDoor
open Go.RowKit
def CS (w : World) (a : Addr) (gl : Nat) (F : Nat → Prop) (st : Dk) (sq : Int) (G : Nat → Prop) (W : World) : Prop :=
 ∃ F', qay W (.pointer (some a)) st 80 F' ∧ (∀ i, F' i → F i ∨ w.heap.size ≤ i) ∧ (∀ i, G i → i < W.heap.size ∧ w.heap.size ≤ i ∧ ¬ F' i) ∧ qac (fun i => F i ∨ i = gl) w W ∧ W.heap[gl]? = some (.cells (logC a sq) 165 (0, 0))
section
variable {w : World} {a : Addr} {gl : Nat} {F : Nat → Prop} {st st' : Dk} {sq : Int} {G : Nat → Prop} {W W' : World}
theorem CS.did (h : CS w a gl F st sq G W) (hgl : ¬ F gl ∧ gl < w.heap.size) {F' : Nat → Prop} (hF' : ∀ i, F' i → F i ∨ w.heap.size ≤ i) (hG : ∀ i, G i → ¬ F' i) (hd : Did (.pointer (some a)) st' 80 F' W W') : CS w a gl F st' sq G W' ∧ ∀ i, G i → W'.heap[i]? = W.heap[i]? := by
 obtain ⟨F0, h1, h2, h3, h4, h5⟩ := h
 obtain ⟨F2, d1, d2, d3⟩ := hd
 have hg2 : ∀ i, G i → i < W.heap.size ∧ w.heap.size ≤ i := fun i hi => ⟨(h3 i hi).1, (h3 i hi).2.1⟩
 refine ⟨⟨F2, d1, fun i hi => ?_, fun i hi => ⟨Nat.lt_of_lt_of_le (hg2 i hi).1 d3.size, (hg2 i hi).2, fun hc => ?_⟩, h4.trans d3 (fun i hi => ?_), ?_⟩, fun i hi => d3.block i (hg2 i hi).1 (hG i hi)⟩
 ·rcases d2 i hi with h | h
  ·exact hF' i h
  ·exact Or.inr (Nat.le_trans h4.size h)
 ·rcases d2 i hc with h | h
  ·exact hG i hi h
  ·have := (hg2 i hi).1; omega
 ·rcases hF' i hi with h | h
  ·exact Or.inl (Or.inl h)
  ·exact Or.inr h
 ·refine (d3.block gl (qab h5) (fun hc => ?_)).trans h5
  rcases hF' gl hc with h | h
  ·exact hgl.1 h
  ·omega
theorem CS.mem (h : CS w a gl F st sq G W) (hgl : ¬ F gl ∧ gl < w.heap.size) (hk : qac G W W') : CS w a gl F st sq (fun i => G i ∨ (W.heap.size ≤ i ∧ i < W'.heap.size)) W' := by
 obtain ⟨F0, h1, h2, h3, h4, h5⟩ := h
 refine ⟨F0, h1.keep hk (fun i hi hg => (h3 i hg).2.2 hi), h2, fun i hi => ?_, h4.trans hk (fun i hi => Or.inr (h3 i hi).2.1), (hk.block gl (qab h5) (fun hg => by have := (h3 gl hg).2.1; omega)).trans h5⟩
 rcases hi with hi | ⟨h6, h7⟩
 ·exact ⟨Nat.lt_of_lt_of_le (h3 i hi).1 hk.size, (h3 i hi).2.1, (h3 i hi).2.2⟩
 ·exact ⟨h7, Nat.le_trans h4.size h6, fun hc => by have := h1.fin i hc; omega⟩
theorem CS.below (h : CS w a gl F st sq G W) (hgl : ¬ F gl ∧ gl < w.heap.size) (hb : Below W.heap.size W W') : CS w a gl F st sq (fun i => G i ∨ (W.heap.size ≤ i ∧ i < W'.heap.size)) W' := h.mem hgl (qac.of_below hb)
theorem CS.mono {G' : Nat → Prop} (h : CS w a gl F st sq G W) (hG : ∀ i, G' i → G i) : CS w a gl F st sq G' W := by
 obtain ⟨F0, h1, h2, h3, h4, h5⟩ := h
 exact ⟨F0, h1, h2, fun i hi => h3 i (hG i hi), h4, h5⟩
theorem CS.drew (h : CS w a gl F st sq G W) : CS w a gl F st sq G W.drew := by
 obtain ⟨F0, h1, h2, h3, h4, h5⟩ := h
 exact ⟨F0, h1.drew, h2, h3, h4.drew, h5⟩
theorem CS.count (h : CS w a gl F st sq G W) (hgl : ¬ F gl ∧ gl < w.heap.size) (sq' : Int) : CS w a gl F st sq' G (W.setCell ⟨gl, 3, none⟩ (.int .u32 sq')) := by
 obtain ⟨F0, h1, h2, h3, h4, h5⟩ := h
 have hk : qac (fun i => i = gl) W (W.setCell ⟨gl, 3, none⟩ (.int .u32 sq')) := qac.setCell (F := fun i => i = gl) rfl _
 refine ⟨F0, h1.keep hk (fun i hi hg => ?_), h2, fun i hi => ⟨Nat.lt_of_lt_of_le (h3 i hi).1 hk.size, (h3 i hi).2⟩, h4.trans hk (fun i hi => Or.inl (Or.inr hi)), ?_⟩
 ·subst hg
  rcases h2 i hi with h | h
  ·exact hgl.1 h
  ·omega
 ·have := qbw (i := 3) h5 (.int .u32 sq')
  simpa [logC] using this
theorem CS.log (h : CS w a gl F st sq G W) : W.heap[gl]? = some (.cells (logC a sq) 165 (0, 0)) := by
 obtain ⟨F0, h1, h2, h3, h4, h5⟩ := h
 exact h5
theorem CS.cells (h : CS w a gl F st sq G W) : W.cell? ⟨gl, 0, none⟩ = some (.pointer (some a)) ∧ W.cell? ⟨gl, 1, none⟩ = some (.int .i64 5) ∧ W.cell? ⟨gl, 2, none⟩ = some (.int .i64 32) ∧ W.cell? ⟨gl, 3, none⟩ = some (.int .u32 sq) ∧ gl < W.heap.size ∧ W.frozen? ⟨gl, 3, none⟩ = false := by
 have h5 := h.log
 exact ⟨cell_of_row _ _ _ _ _ _ h5, cell_of_row _ _ _ _ _ _ h5, cell_of_row _ _ _ _ _ _ h5, cell_of_row _ _ _ _ _ _ h5, qab h5, frozen_of_row _ _ _ _ _ h5⟩
theorem CS.own (h : CS w a gl F st sq G W) {i : Nat} (hi : G i) : i < W.heap.size := by
 obtain ⟨F0, h1, h2, h3, h4, h5⟩ := h
 exact (h3 i hi).1
theorem CS.keeps (h : CS w a gl F st sq G W) : qac (fun i => F i ∨ i = gl) w W := by
 obtain ⟨F0, h1, h2, h3, h4, h5⟩ := h
 exact h4
theorem CS.flush (h : CS w a gl F st sq G W) (hgl : ¬ F gl ∧ gl < w.heap.size) : Calls Tryz.prog 78 #[.pointer (some a)] W fun e W' => e = .returned (.tuple #[]) ∧ CS w a gl F (doE st barR) sq G W' ∧ ∀ i, G i → W'.heap[i]? = W.heap[i]? := by
 have h0 := h
 obtain ⟨F0, h1, h2, h3, h4, h5⟩ := h
 exact (qws h1).mono fun e W' ⟨he, hd⟩ => ⟨he, h0.did hgl h2 (fun i hi => (h3 i hi).2.2) hd⟩
theorem CS.write (h : CS w a gl F st sq G W) (hgl : ¬ F gl ∧ gl < w.heap.size) (n : Nat) (hn : n < 80) (g c : Nat) (D : List Int) (hD : D.length = 64) (hg : G g) {cur : Array Value} (hh : W.heap[g]? = some (.cells cur 5 (0, 0))) (ht : cur.toList.take 64 = u8s D) (hW : st.W.length < 1000000) :
  Calls Tryz.prog 74 #[.pointer (some a), .int .i64 (n : Int), .slice (some ⟨g, 0, none⟩) 64 c] W fun e W' => e = .returned (.int .i64 0) ∧ CS w a gl F (doE st (n, D, false)) sq G W' ∧ ∀ i, G i → W'.heap[i]? = W.heap[i]? := by
 have h0 := h
 obtain ⟨F0, h1, h2, h3, h4, h5⟩ := h
 rw [qri]
 exact (qhk h1 n hn _ D hD (fun w' hk => qaw hD ((hk.block g (h3 g hg).1 (h3 g hg).2.2).trans hh) ht) hW).mono fun e W' ⟨he, hd⟩ => ⟨he, h0.did hgl h2 (fun i hi => (h3 i hi).2.2) hd⟩
theorem CS.write_arg (h : CS w a gl F st sq G W) (hgl : ¬ F gl ∧ gl < w.heap.size) (n : Nat) (hn : n < 80) {B : Nat} (hFB : ∀ i, F i → i < B) {x : Jw} (hx : qmg w B x) (hW : st.W.length < 1000000) (hgB : gl < B) :
  Calls Tryz.prog 74 #[.pointer (some a), .int .i64 (n : Int), x.v] W fun e W' => e = .returned (.int .i64 0) ∧ CS w a gl F (doE st (n, x.D, false)) sq G W' ∧ ∀ i, G i → W'.heap[i]? = W.heap[i]? := by
 have h0 := h
 obtain ⟨F0, h1, h2, h3, h4, h5⟩ := h
 obtain ⟨gx, cx, cur, hxv, hb1, hb2, hh, ht⟩ := ybdq hx h4 (fun i hi => by
  rcases hi with hi | hi
  ·exact hFB i hi
  ·omega)
 have hD : x.D.length = 64 := hx.2.1
 have hnF : ¬ F0 gx := fun hc => by
  rcases h2 gx hc with h | h
  ·have := hFB gx h; omega
  ·omega
 rw [qri, hxv]
 exact (qhk h1 n hn _ x.D hD (fun w' hk => qaw hD ((hk.block gx (qab hh) hnF).trans hh) ht) hW).mono fun e W' ⟨he, hd⟩ => ⟨he, h0.did hgl h2 (fun i hi => (h3 i hi).2.2) hd⟩
end
def TD (W : World) (G : Nat → Prop) (b : Nat) (v : Value) (L : List Rb) : Prop := ∃ E : List Rq, E.map rab = L ∧ W.ownsRow b 171 3 v E.length (qbg E) ∧ (∀ q, v.ownBlock = some q → G q) ∧ ∀ x ∈ E, x.b = false ∧ x.n < 256 ∧ x.D.length = 64 ∧ ∃ g cap cur, x.v = .slice (some ⟨g, 0, none⟩) 64 cap ∧ G g ∧ W.heap[g]? = some (.cells cur 5 (0, 0)) ∧ cur.toList.take 64 = u8s x.D
theorem TD.nil (W : World) (G : Nat → Prop) (b : Nat) : TD W G b (.slice none 0 0) [] := ⟨[], rfl, World.ownsRow_nil _ _ _ _, fun q hq => by simp [Value.ownBlock] at hq, fun x hx => by simp at hx⟩
theorem TD.keep {W W' : World} {G G' : Nat → Prop} {b : Nat} {v : Value} {L : List Rb} (h : TD W G b v L) (hk : ∀ i, G i → W'.heap[i]? = W.heap[i]?) (hG : ∀ i, G i → G' i) : TD W' G' b v L := by
 obtain ⟨E, h1, h2, h3, h4⟩ := h
 refine ⟨E, h1, qch h2 fun q hq => hk q (h3 q hq), fun q hq => hG q (h3 q hq), fun x hx => ?_⟩
 obtain ⟨e1, e2, e3, g, cap, cur, e4, e5, e6, e7⟩ := h4 x hx
 exact ⟨e1, e2, e3, g, cap, cur, e4, hG g e5, (hk g e5).trans e6, e7⟩
theorem TD.run {W : World} {G : Nat → Prop} {b : Nat} {v : Value} {L : List Rb} (h : TD W G b v L) : ∃ E : List Rq, E.map rab = L ∧ qgd W v E ∧ ∀ x ∈ E, RqOk W x := by
 obtain ⟨E, h1, h2, h3, h4⟩ := h
 refine ⟨E, h1, qgd.of_owns h2, fun x hx => ?_⟩
 obtain ⟨e1, e2, e3, g, cap, cur, e4, e5, e6, e7⟩ := h4 x hx
 refine Or.inr ⟨e1, e2, ?_, e3⟩
 rw [e4]
 exact qaw e3 e6 e7
end Go.Proofs.YtpoglnpjadmbpaaGreatDoor
namespace Go.Proofs.YtpoglnpjadmbpaaGreatDoor
open Go.RowKit
def zS : List Int := List.replicate 64 0
def qpu (sq : Int) (L : List Wr) : Nat → List Int
 | 0 => over ((zS.set 0 74).set 5 (L.length : Int)) 1 (qcm sq)
 | k + 1 => (qpu sq L k).set (6 + k) (((L[k]?.getD (0, [])).1 : Nat) : Int)
def qzw (sq : Int) (L : List Wr) : List Int := qpu sq L L.length
def ybbl (sq sm : Int) : List Int := over (over (zS.set 0 67) 1 (qcm sq)) 5 (qcm sm)
def qpr (L : List Wr) : Nat → List Rb
 | 0 => []
 | k + 1 => qpr L k ++ [(6 + k, (L[k]?.getD (0, [])).2, false)]
def opsA (L : List Wr) : List Rb := [barR, (5, zS, false), barR] ++ qpr L L.length
def opsB (sq : Int) (L : List Wr) : List Rb := opsA L ++ [(6 + L.length, zS, false), barR, (5, qzw sq L, false), (6 + L.length, ybbl sq (sumW L), false), barR]
def opsJ (sq : Int) (L : List Wr) : List Rb := opsB sq L ++ qft (emit L) 0
theorem ybwe : zS.length = 64 := by simp [zS]
theorem qnl {l D : List Int} {o : Nat} (h : o + D.length ≤ l.length) : (over l o D).length = l.length := by
 unfold over
 rw [List.length_append, List.length_append, List.length_take, List.length_drop]
 omega
theorem qnc (sq : Int) (L : List Wr) : ∀ k, (qpu sq L k).length = 64
 | 0 => by rw [qpu, qnl (by simp [zS, qcm])]; simp [zS]
 | k + 1 => by rw [qpu, List.length_set]; exact qnc sq L k
theorem ybbm (sq sm : Int) : (ybbl sq sm).length = 64 := by
 unfold ybbl
 rw [qnl (by rw [qnl (by simp [zS, qcm])]; simp [zS, qcm]), qnl (by simp [zS, qcm])]
 simp [zS]
theorem qyb (L : List Int) (i : Nat) (x : Int) : (u8s L).toArray.setIfInBounds i (.int .u8 x) = (u8s (L.set i x)).toArray := by
 unfold u8s
 rw [List.map_set]
 simp
structure ybqs (L : List Wr) : Prop where
 n : ∀ x ∈ L, (x.1 < 5 ∨ 37 ≤ x.1) ∧ x.1 < 80
 d : (L.map fun x => x.1).Nodup
 l : L.length ≤ 30
theorem ybyq (S : List Nat) (l : List (Nat × Nat)) (h1 : ∀ x ∈ l, (x.1 < 5 ∨ 37 ≤ x.1) ∧ x.1 < 80 ∧ x.2 = 64) (h2 : (S ++ l.map fun x => x.1).Nodup) : rJ S l = 0 := by
 induction l generalizing S with
 | nil => rfl
 | cons x l ih =>
  have hx := h1 x (by simp)
  rw [rJ, if_neg (by omega), if_neg]
  ·refine ih _ (fun y hy => h1 y (by simp [hy])) ?_
   rw [List.append_assoc]
   exact h2
  ·rw [List.contains_iff_mem]
   intro hc
   rw [List.nodup_append] at h2
   exact h2.2.2 x.1 hc x.1 (by simp) rfl
theorem ybjo {w : World} {B : Nat} {E : List Jw} (hg : ybqs (E.map jab)) (hE : ∀ x ∈ E, qmg w B x) : qst E = 0 := by
 have hl : E.length ≤ 30 := by have := hg.l; rwa [List.length_map] at this
 unfold qst
 rw [if_neg (by omega)]
 refine ybyq [] _ (fun y hy => ?_) ?_
 ·obtain ⟨x, hx, rfl⟩ := List.mem_map.1 hy
  have h1 := hg.n (jab x) (List.mem_map.2 ⟨x, hx, rfl⟩)
  have h2 : x.D.length = 64 := (hE x hx).2.1
  exact ⟨h1.1, h1.2, h2⟩
 ·rw [List.nil_append, List.map_map]
  have := hg.d
  rw [List.map_map] at this
  exact this
theorem ybnt {w : World} {B : Nat} {x : Jw} (h : qmg w B x) : ybkk x := by
 obtain ⟨h1, h2, g, cap, cur, h3, _⟩ := h
 exact ⟨h1, by omega, _, cap, by rw [h3, h2]⟩
theorem qyh (n : Int) (h0 : 0 ≤ n) (h1 : n < 4294967296) (w W : World) (hb : Below w.heap.size w W) (hs : W.heap.size = w.heap.size) : Calls Tryz.prog 105 #[.int .u32 n] W fun e w' => e = .returned (.slice (some ⟨w.heap.size, 0, none⟩) 4 4) ∧ Below w.heap.size w w' ∧ qae w' (.slice (some ⟨w.heap.size, 0, none⟩) 4 4) (qcm n) := by
 refine (ybvl n h0 h1 W).mono ?_
 rintro e w' ⟨rfl, rfl⟩
 rw [← hs]
 refine ⟨rfl, ?_, qaw (cur := (u8s (qcm n)).toArray) rfl (heap_alloc_new W _) (by simp [u8s, qcm])⟩
 rw [hs]
 exact hb.alloc (by omega) _
theorem CS.copied {w : World} {a : Addr} {gl : Nat} {F : Nat → Prop} {st : Dk} {sq : Int} {G : Nat → Prop} {W W' : World} (h : CS w a gl F st sq G W) (hgl : ¬ F gl ∧ gl < w.heap.size) (hb : Below W.heap.size W W') {g : Nat} (hg : G g) (cs : Array Value) : CS w a gl F st sq G (W'.setRow g cs) :=
 (h.mem hgl ((qac.of_below hb).step (qac.setRow hg cs))).mono fun _ hi => Or.inl hi
theorem TD.snoc {W W2 W4 : World} {G : Nat → Prop} {b gg g2 cap2 cap4 : Nat} {v : Value} {E : List Rq} {n : Nat} {D : List Int} {cur2 : Array Value} {o : Obj}
  (ho : W.ownsRow b 171 3 v E.length (qbg E)) (h3 : ∀ q, v.ownBlock = some q → G q)
  (h4 : ∀ x ∈ E, x.b = false ∧ x.n < 256 ∧ x.D.length = 64 ∧ ∃ g cap cur, x.v = .slice (some ⟨g, 0, none⟩) 64 cap ∧ G g ∧ W.heap[g]? = some (.cells cur 5 (0, 0)) ∧ cur.toList.take 64 = u8s x.D)
  (hb2 : Below W.heap.size W W2) (hg2 : W.heap.size ≤ g2) (hh2 : W2.heap[g2]? = some (.cells cur2 5 (0, 0))) (ht2 : cur2.toList.take 64 = u8s D) (hn : n < 256) (hD : D.length = 64)
  (hown : W4.ownsRow b 171 3 (.slice (some ⟨gg, 0, none⟩) (E.length + 1) cap4) (E.length + 1) (qbg E ++ [.int .i64 (n : Int), .slice (some ⟨g2, 0, none⟩) 64 cap2, .bool false]))
  (hgrow : (W2.alloc o).grownBy W4 v.ownBlock) (hat : v.ownBlock = some gg ∨ gg = W2.heap.size + 1) :
  TD W4 (fun i => G i ∨ (W.heap.size ≤ i ∧ i < W4.heap.size)) b (.slice (some ⟨gg, 0, none⟩) (E.length + 1) cap4) (E.map rab ++ [(n, D, false)]) ∧ qac G W W4 := by
 have hsz : (W2.alloc o).heap.size = W2.heap.size + 1 := by simp
 have hs4 := hgrow.size
 refine ⟨⟨E ++ [⟨n, .slice (some ⟨g2, 0, none⟩) 64 cap2, D, false⟩], by rw [List.map_append]; rfl, ?_, fun q hq => ?_, fun x hx => ?_⟩, ((qac.of_below hb2).step (qac.alloc o)).step (qac.grown hgrow h3)⟩
 ·rw [List.length_append, qgk]
  exact hown
 ·have h5 := (hown.lt q hq).2
  have h6 : gg = q := by simpa [Value.ownBlock] using hq
  subst h6
  rcases hat with h | h
  ·exact Or.inl (h3 _ h)
  ·exact Or.inr ⟨by have := hb2.size; omega, h5⟩
 ·rcases List.mem_append.1 hx with hx | hx
  ·obtain ⟨e1, e2, e3, g, cap, cur, e4, e5, e6, e7⟩ := h4 x hx
   refine ⟨e1, e2, e3, g, cap, cur, e4, Or.inl e5, ?_, e7⟩
   have hne : v.ownBlock ≠ some g := qdr ho e6 (by decide)
   have e8 := qad (qaa hb2 e6) o
   exact (hgrow.block g (qab e8) (Ne.symm hne)).trans e8
  ·rw [List.mem_singleton] at hx
   subst hx
   have e8 := qad hh2 o
   have hne : v.ownBlock ≠ some g2 := fun hc => by have := (ho.lt g2 hc).2; omega
   have e9 := (hgrow.block g2 (qab e8) (Ne.symm hne)).trans e8
   exact ⟨rfl, hn, hD, g2, cap2, cur2, rfl, Or.inr ⟨hg2, qab e9⟩, e9, ht2⟩
theorem qrg (L : List Wr) : ∀ k, (qpr L k).length = k
 | 0 => rfl
 | k + 1 => by rw [qpr, List.length_append, qrg L k]; rfl
theorem yblo {L : List Wr} {k : Nat} (hk : k < L.length) : emit (L.take (k + 1)) = emit (L.take k) ++ [(L[k].1, L[k].2, false)] := by
 unfold emit
 rw [← List.take_append_getElem hk, List.map_append]
 rfl
theorem ybhq {L : List Wr} {k : Nat} (hk : k < L.length) : qpr L (k + 1) = qpr L k ++ [(6 + k, L[k].2, false)] := by
 rw [qpr, List.getElem?_eq_getElem hk]
 rfl
theorem ybik {sq : Int} {L : List Wr} {k : Nat} (hk : k < L.length) : qpu sq L (k + 1) = (qpu sq L k).set (6 + k) ((L[k].1 : Nat) : Int) := by
 rw [qpu, List.getElem?_eq_getElem hk]
 rfl
theorem CS.arg {w : World} {a : Addr} {gl B : Nat} {F : Nat → Prop} {st : Dk} {sq : Int} {G : Nat → Prop} {W : World} (h : CS w a gl F st sq G W) (hFB : ∀ i, F i → i < B) (hgB : gl < B) {x : Jw} (hx : qmg w B x) : qae W x.v x.D := by
 obtain ⟨gx, cx, cur, hxv, hb1, hb2, hh, ht⟩ := ybdq hx h.keeps (fun i hi => by
  rcases hi with hi | hi
  ·exact hFB i hi
  ·omega)
 rw [hxv]
 exact qaw hx.2.1 hh ht
structure LJ (w : World) (a : Addr) (gl : Nat) (F : Nat → Prop) (st : Dk) (sq : Int) (L : List Wr) (gn gh : Nat) (Z : List Int) (k : Nat) (td : Value) (W : World) : Prop where
 ex : ∃ G GT : Nat → Prop, CS w a gl F (runE st (qpr L k)) sq G W ∧ (G gn ∧ G gh) ∧ (∀ i, GT i → G i ∧ i ≠ gn ∧ i ≠ gh) ∧ TD W GT w.heap.size td (emit (L.take k))
 hh : W.heap[gh]? = some (.cells (u8s (qpu sq L k)).toArray 5 (0, 0))
 hz : W.heap[gn]? = some (.cells (u8s Z).toArray 5 (0, 0))
theorem CS.jws {w : World} {a : Addr} {gl B : Nat} {F : Nat → Prop} {st : Dk} {sq : Int} {G : Nat → Prop} {W : World} (h : CS w a gl F st sq G W) (hFB : ∀ i, F i → i < B) (hgB : gl < B) {v : Value} {E : List Jw} (hJ : qfn w B B v E) : ybwg W v E := by
 have hk : ∀ i, B ≤ i → i < w.heap.size → W.heap[i]? = w.heap[i]? := fun i h1 h2 => h.keeps.block i h2 (fun hc => by
  rcases hc with hc | hc
  ·have := hFB i hc; omega
  ·omega)
 exact qfn.at (b := B) (B := B) ⟨qch hJ.1 fun q hq => hk q (hJ.1.lt q hq).1 (hJ.1.lt q hq).2, fun x hx => (hJ.2 x hx).keep fun i c h1 h2 => hk i h1 (qab h2)⟩
theorem CS.runs {w : World} {a : Addr} {gl : Nat} {F : Nat → Prop} {st : Dk} {sq : Int} {G GT : Nat → Prop} {W : World} (h : CS w a gl F st sq G W) (hgl : ¬ F gl ∧ gl < w.heap.size) {b : Nat} {v : Value} {R : List Rb} (hT : TD W GT b v R) (hn : ∀ x ∈ R, x.1 < 80) (hl : R.length ≤ 100) (hW : st.W.length < 900000) :
  Calls Tryz.prog 107 #[.pointer (some a), v] W fun e W' => e = .returned (.int .i64 0) ∧ CS w a gl F (runE st (qft R 0)) sq (fun _ => False) W' := by
 have h0 := h.mono (G' := fun _ => False) (fun _ hi => hi.elim)
 obtain ⟨F0, h1, h2, h3, h4, h5⟩ := h
 obtain ⟨E, hE, hv, hx⟩ := hT.run
 refine (ybyw h1 v E hv hx (fun x hx _ => ?_) (by omega) ?_ hW).mono fun e W' ⟨he, hd⟩ => ⟨he, ?_⟩
 ·exact hn (rab x) (by rw [← hE]; exact List.mem_map.2 ⟨x, hx, rfl⟩)
 ·rw [← hE, List.length_map] at hl; exact hl
 ·rw [hE] at hd
  exact (h0.did hgl h2 (fun i hi => hi.elim) hd).1
theorem qkn {w : World} {o : Oper} {a : Act} {K : Act → World → Prop} {Q : Exit → Act → World → Prop} {ops : Array Oper} {X : Prop} (dd : Option Nat) (hdd : o.dst = dd) (hgd : o.guard = none) (d s : Operand) (dT sT : TypeId) (ho : o.op = .call { callee := .builtin .copy, args := #[d, s], argTypes := #[dT, sT] }) (elem : TypeId) (hu : Tryz.prog.underlying dT = some (.slice elem)) (hsz : (Tryz.prog.info? elem).map (·.size) = some 1)
  (g off dLen dCap : Nat) (sv : Value) (hd : a.eval d = .slice (some ⟨g, off, none⟩) dLen dCap) (hs : a.eval s = sv) (cur D : List Int) (t : TypeId) (hg : w.heap[g]? = some (.cells (u8s cur).toArray t (0, 0)))
  (hb : qae w sv D) (h0 : 0 < D.length) (hle : D.length ≤ dLen) (hfit : off + D.length ≤ cur.length)
  (h : K (a.put dd (goInt D.length)) (w.setRow g (u8s (over cur off D)).toArray)) : if Region.wanted o (yielded ops a.tmps) = true then Oper.wp Tryz.prog o a w K Q else X :=
 qtf hgd d s dT sT ho elem hu hsz g off dLen dCap sv hd hs cur D t hg hb h0 hle hfit (by rw [hdd]; exact h)
set_option maxRecDepth 100000 in
theorem ybcq {w : World} {a : Addr} {gl B : Nat} {F : Nat → Prop} {st : Dk} {sq : Int} (h : CS w a gl F st sq (fun _ => False) w) (hgl : ¬ F gl ∧ gl < w.heap.size) (hFB : ∀ i, F i → i < B) (hgB : gl < B) (v : Value) (E : List Jw) (hJ : qfn w B B v E) (hg : ybqs (E.map jab)) (h0 : 0 < E.length) (hsq : 0 ≤ sq ∧ sq ≤ 1000) (hW : st.W.length < 800000) :
    Calls Tryz.prog 67 #[.pointer (some ⟨gl, 0, none⟩), v] w fun e w' => e = .returned (.int .i64 0) ∧ CS w a gl F (runE st (opsJ (sq + 1) (E.map jab))) (sq + 1) (fun _ => False) w' := by
  have HR : Hid (Calls Tryz.prog 104 #[.pointer (some ⟨gl, 0, none⟩), v] w fun e w' => e = .returned (.int .i64 0) ∧ Below w.heap.size w w') := by
    obtain ⟨F', h1, _⟩ := id h
    have h2 := ybui h1 h.log v E (qah.of_owns hJ.1) (fun x hx => ybnt (hJ.2 x hx)) (by have := hg.l; rw [List.length_map] at this; omega)
    rw [ybjo hg hJ.2] at h2
    exact h2
  have HC := Lib.hid h
  have HGL := Lib.hid hgl
  have HFB := Lib.hid hFB
  have HJ := Lib.hid hJ.2
  have HJ2 := Lib.hid hJ
  have HG := Lib.hid hg
  obtain ⟨p, cp, rfl, HP⟩ := qqh (qah.of_owns hJ.1)
  obtain ⟨N, HN⟩ : ∃ N, Hid (E.length = N) := ⟨_, rfl⟩
  have hPB : ∀ q, p = some q → B ≤ q.block := fun q hq => (hJ.1.lt q.block (by rw [hq]; rfl)).1
  have HPB := Lib.hid hPB
  have hN4 : E.length ≤ 30 := by have := hg.l; rwa [List.length_map] at this
  rw [HN.out] at HP h0 hN4
  rw [HN.out]
  rw [HN.out] at HR
  obtain ⟨L, HL⟩ : ∃ L, Hid (E.map jab = L) := ⟨_, rfl⟩
  have HLN : Hid (L.length = N) := by show _ = _; rw [← HL.out, List.length_map]; exact HN.out
  rw [HL.out] at HG
  have hgoal : Calls Tryz.prog 67 #[.pointer (some ⟨gl, 0, none⟩), .slice p N cp] w fun e w' => e = .returned (.int .i64 0) ∧ CS w a gl F (runE st (opsJ (sq + 1) L)) (sq + 1) (fun _ => False) w' := by
    have hN0 : ((N : Int) == 0) = false := by rw [beq_eq_false_iff_ne]; omega
    obtain ⟨hs0, hs1⟩ := hsq
    have HWW := Lib.hid hW
    obtain ⟨Z, HZ⟩ : ∃ Z, Hid (Z = zS) := ⟨_, rfl⟩
    have hmk : ∀ W : World, (Instr.makeSlice 38 (.int .i64 64) (.int .i64 64)).run Tryz.prog W = .ok (.slice (some ⟨W.heap.size, 0, none⟩) 64 64) (W.alloc (.cells (u8s Z).toArray 5)) := fun W => by
      rw [HZ.out]; exact qhl 64 64 rfl (by omega) W
    clear h hgl hFB hJ hg hPB hW
    go_enter Tryz.func67, Tryz.ntmps67
    go_wp2_with fail
    refine HR.out.mono ?_
    rintro e w1 ⟨rfl, hb1⟩
    have HC1 := Lib.hid ((HC.out.below HGL.out hb1).mono (G' := fun _ => False) (fun _ h => h.elim))
    clear hb1 HR
    obtain ⟨l0, l1, l2, l3, hlt, lz⟩ := HC1.out.cells
    go_wp2_with fail
    refine (HC1.out.flush HGL.out).mono ?_
    rintro e w2 ⟨rfl, hc2, _⟩
    have HC2 := Lib.hid hc2
    clear hc2 l0 l1 l2 l3 lz hlt HC1
    obtain ⟨l0, l1, l2, l3, hlt, lz⟩ := HC2.out.cells
    have hc3 := HC2.out.count HGL.out (sq + 1)
    have hc4 := (hc3.below HGL.out ((Below.refl _ _).alloc (Nat.le_refl _) (.cells (u8s Z).toArray 5))).mono (G' := fun i => i = (w2.setCell ⟨gl, 3, none⟩ (.int .u32 (sq + 1))).heap.size) (fun i hi => Or.inr ⟨by omega, by subst hi; simp⟩)
    have hz4 := heap_alloc_new (w2.setCell ⟨gl, 3, none⟩ (.int .u32 (sq + 1))) (.cells (u8s Z).toArray 5)
    rw [show (w2.setCell ⟨gl, 3, none⟩ (.int .u32 (sq + 1))).heap.size = w2.heap.size by simp [World.setCell]] at hc4 hz4
    have HC4 := Lib.hid hc4
    have HZ4 := Lib.hid hz4
    clear hc3 hc4 hz4
    go_wp2
    have HWL : Hid ((doE st barR).W.length ≤ 800001) := by have h1 := qwm st barR; have h2 := HWW.out; show _ ≤ _; omega
    obtain ⟨s1, Hs1⟩ : ∃ s, Hid (doE st barR = s) := ⟨_, rfl⟩
    rw [Hs1.out] at HC4 HWL
    clear HC2 l0 l1 l2 l3 hlt lz HC hmk
    generalize (w2.setCell ⟨gl, 3, none⟩ (.int .u32 (sq + 1))).alloc (.cells (u8s Z).toArray 5) = w4 at *
    generalize w2.heap.size = gn at *
    obtain ⟨l0, l1, l2, l3, hlt, lz⟩ := HC4.out.cells
    go_still_tail 9, (by kernel_rfl)
    go_wp2_with fail
    refine (HC4.out.drew.write HGL.out 5 (by omega) gn 64 zS ybwe rfl (cur := (u8s Z).toArray) HZ4.out (by rw [HZ.out]; simp [u8s, zS]) (by have := HWL.out; omega)).mono ?_
    rintro e w5 ⟨rfl, hc5, hk5⟩
    have HZ5 := Lib.hid ((hk5 gn rfl).trans HZ4.out)
    have HWL2 : Hid ((doE s1 (5, zS, false)).W.length ≤ 800002) := by have h1 := qwm s1 (5, zS, false); have h2 := HWL.out; show _ ≤ _; omega
    obtain ⟨s2, Hs2⟩ : ∃ s, Hid (doE s1 (5, zS, false) = s) := ⟨_, rfl⟩
    rw [Hs2.out] at hc5 HWL2
    have HC5 := Lib.hid hc5
    clear hc5 hk5 l0 l1 l2 l3 hlt lz HC4 HZ4 HWL
    obtain ⟨l0, l1, l2, l3, hlt, lz⟩ := HC5.out.cells
    go_wp2_with fail
    refine (HC5.out.flush HGL.out).mono ?_
    rintro e w6 ⟨rfl, hc6, hk6⟩
    have HZ6 := Lib.hid ((hk6 gn rfl).trans HZ5.out)
    have HWL3 : Hid ((doE s2 barR).W.length ≤ 800003) := by have h1 := qwm s2 barR; have h2 := HWL2.out; show _ ≤ _; omega
    obtain ⟨s3, Hs3⟩ : ∃ s, Hid (doE s2 barR = s) := ⟨_, rfl⟩
    rw [Hs3.out] at hc6 HWL3
    have HC6 := Lib.hid hc6
    clear hc6 hk6 l0 l1 l2 l3 hlt lz HC5 HZ5 HWL2
    obtain ⟨l0, l1, l2, l3, hlt, lz⟩ := HC6.out.cells
    have hmk : ∀ W : World, (Instr.makeSlice 38 (.int .i64 64) (.int .i64 64)).run Tryz.prog W = .ok (.slice (some ⟨W.heap.size, 0, none⟩) 64 64) (W.alloc (.cells (u8s Z).toArray 5)) := fun W => by
      rw [HZ.out]; exact qhl 64 64 rfl (by omega) W
    go_upto_region 12 with fail
    clear hmk
    have hH7 := heap_alloc_new w6 (.cells (u8s Z).toArray 5)
    have hc7 := (HC6.out.below HGL.out ((Below.refl _ _).alloc (Nat.le_refl _) (.cells (u8s Z).toArray 5))).mono (G' := fun i => i = gn ∨ i = w6.heap.size) (fun i hi => hi.imp id (fun h => ⟨by omega, by subst h; simp⟩))
    have hne : gn ≠ w6.heap.size := by have := HC6.out.own (i := gn) rfl; omega
    have HZ7 : Hid ((w6.alloc (.cells (u8s Z).toArray 5)).heap[gn]? = some (.cells (u8s Z).toArray 5 (0, 0))) := qad HZ6.out _
    clear l0 l1 l2 l3 hlt lz HC6 HZ6
    generalize w6.alloc (.cells (u8s Z).toArray 5) = w7 at *
    generalize w6.heap.size = gh at *
    have z0 : w7.cell? ⟨gh, 0, none⟩ = some (.int .u8 0) := by rw [cell_of_row _ _ _ _ _ _ hH7, HZ.out]; rfl
    have z5 : w7.cell? ⟨gh, 5, none⟩ = some (.int .u8 0) := by rw [cell_of_row _ _ _ _ _ _ hH7, HZ.out]; rfl
    have f0 : w7.frozen? ⟨gh, 0, none⟩ = false := frozen_of_row _ _ _ _ _ hH7
    have f5 : w7.frozen? ⟨gh, 5, none⟩ = false := frozen_of_row _ _ _ _ _ hH7
    have hgh : gh < w7.heap.size := qab hH7
    have HH8 : Hid (((w7.setCell ⟨gh, 0, none⟩ (.int .u8 74)).setCell ⟨gh, 5, none⟩ (.int .u8 (N : Int))).heap[gh]? = some (.cells (u8s ((Z.set 0 74).set 5 (N : Int))).toArray 5 (0, 0))) := by
      have h1 := qbw (i := 0) hH7 (.int .u8 74)
      rw [qyb] at h1
      have h2 := qbw (i := 5) h1 (.int .u8 (N : Int))
      rw [qyb] at h2
      exact h2
    have hk78 : qac (fun i => i = gn ∨ i = gh) w7 ((w7.setCell ⟨gh, 0, none⟩ (.int .u8 74)).setCell ⟨gh, 5, none⟩ (.int .u8 (N : Int))) := (qac.setCell (F := fun i => i = gn ∨ i = gh) (Or.inr rfl) _).step (qac.setCell (F := fun i => i = gn ∨ i = gh) (Or.inr rfl) _)
    have HC8 := Lib.hid ((hc7.mem HGL.out hk78).mono (G' := fun i => i = gn ∨ i = gh) (fun i hi => Or.inl hi))
    have HZ8 : Hid (((w7.setCell ⟨gh, 0, none⟩ (.int .u8 74)).setCell ⟨gh, 5, none⟩ (.int .u8 (N : Int))).heap[gn]? = some (.cells (u8s Z).toArray 5 (0, 0))) := (Below.heap_setCell _ _ _ _ hne).trans ((Below.heap_setCell _ _ _ _ hne).trans HZ7.out)
    clear hc7 hk78 hH7
    go_wp2
    obtain ⟨l0, l1, l2, l3, hlt, lz⟩ := HC8.out.cells
    generalize (w7.setCell ⟨gh, 0, none⟩ (.int .u8 74)).setCell ⟨gh, 5, none⟩ (.int .u8 (N : Int)) = w8 at *
    clear z0 z5 f0 f5 hgh HZ7
    have HWD := Lib.hid (qyh (sq + 1) (by omega) (by omega) w8 w8.drew ((Below.refl _ _).drew) rfl)
    refine wp_region_noPanic ?_
    go_region_held_law (fun w' => w'.cell? ⟨gl, 3, none⟩ = some (.int .u32 (sq + 1)))
      (first
        | (go_keep; done)
        | exact m1
        | exact m2)
      (first
        | (go_at_call 105; refine HWD.out.mono ?_; rintro e w9 ⟨rfl, hb9, hv9⟩
           have m1 : w9.cell? ⟨gl, 3, none⟩ = some (.int .u32 (sq + 1)) := (hb9.cell (p := ⟨gl, 3, none⟩) hlt).trans l3
           have HB9 := Lib.hid hb9
           have HV9 := Lib.hid hv9
           clear hb9 hv9)
        | (refine qkn (some 64) (by rfl) (by rfl) _ _ _ _ (by rfl) 5 u8sT qoe gh 1 63 63 _ (by rfl) (by rfl) ((Z.set 0 74).set 5 (N : Int)) (qcm (sq + 1)) 5 (qaa HB9.out HH8.out) HV9.out (by simp [qcm]) (by simp [qcm]) (by rw [HZ.out]; simp [qcm, zS]) ?_
           have hc10 := HC8.out.copied HGL.out HB9.out (g := gh) (Or.inr rfl) (u8s (over ((Z.set 0 74).set 5 (N : Int)) 1 (qcm (sq + 1)))).toArray
           have hh10 := setRow_heap w9 gh _ (u8s (over ((Z.set 0 74).set 5 (N : Int)) 1 (qcm (sq + 1)))).toArray _ _ (qaa HB9.out HH8.out)
           have hz10 := (setRow_other w9 gh gn (u8s (over ((Z.set 0 74).set 5 (N : Int)) 1 (qcm (sq + 1)))).toArray hne).trans (qaa HB9.out HZ8.out)
           generalize w9.setRow gh (u8s (over ((Z.set 0 74).set 5 (N : Int)) 1 (qcm (sq + 1)))).toArray = w10 at *
           have m2 : w10.cell? ⟨gl, 3, none⟩ = some (.int .u32 (sq + 1)) := hc10.cells.2.2.2.1
           have HC10 := Lib.hid hc10
           have HH10 := Lib.hid hh10
           have HZ10 := Lib.hid hz10
           clear hc10 hh10 hz10))
    refine NoPanic.normal ?_
    clear m1 m2 HV9 HB9 HC8 HH8 HZ8 HWD l0 l1 l2 l3 hlt lz
    go_wp2
    have HJ0 : Hid (LJ w a gl F s3 (sq + 1) L gn gh Z 0 (.slice none 0 0) w10) := ⟨⟨_, fun _ => False, HC10.out, ⟨Or.inl rfl, Or.inr rfl⟩, fun i hi => hi.elim, TD.nil _ _ _⟩, by rw [qpu, HLN.out, ← HZ.out]; exact HH10.out, HZ10.out⟩
    clear HC10 HH10 HZ10
    go_loopw [8, 67] (fun td i wr => ∃ k : Nat, k ≤ N ∧ i = .int .i64 k ∧ Hid (LJ w a gl F s3 (sq + 1) L gn gh Z k td wr)) (fun _ i _ => N - (intOf i).toNat)
    case atStart => exact ⟨0, Nat.zero_le _, rfl, HJ0⟩
    case round =>
      obtain ⟨k, hk, rfl, HLJ⟩ := hrel
      obtain ⟨G, GT, hC, hG, hGT, hT⟩ := HLJ.out.ex
      by_cases hlt : k < N
      · obtain ⟨g, o, rfl, hg, hc⟩ := HP.out (by omega)
        have hkl : k < E.length := by rw [HN.out]; exact hlt
        obtain ⟨e0, e1⟩ := qgn E k hkl
        have hx := HJ.out E[k] (List.getElem_mem hkl)
        have hkL : k < L.length := by rw [HLN.out]; exact hlt
        have hLk : L[k] = jab E[k] := by simp only [← HL.out, List.getElem_map]
        have hgx := HG.out.n L[k] (List.getElem_mem hkL)
        have hhs := ybik (sq := sq + 1) hkL
        have hds := ybhq hkL
        have hes := yblo hkL
        rw [hLk] at hgx hhs hds hes
        generalize E[k] = x at e0 e1 hx hgx hhs hds hes
        have HX := Lib.hid hx
        obtain ⟨xn, xv, xD⟩ := x
        obtain ⟨hx256, hxD, gx, cx, curx, hxv, _⟩ := hx
        dsimp only [jab] at hxv e0 e1 hgx hhs hds hes hx256 hxD
        subst hxv
        have hgB2 : B ≤ g := HPB.out _ rfl
        have hgF : ¬ (F g ∨ g = gl) := by
          rintro (h | h)
          · have := HFB.out g h; omega
          · omega
        have c0 := (hC.keeps.cell (i := o + k * 2) hg hgF).trans (hc _ _ e0)
        have c1 := (hC.keeps.cell (i := o + (k * 2 + 1)) hg hgF).trans (hc _ _ e1)
        rw [← Nat.add_assoc] at c1
        have hlt2 : (k : Int) < (N : Int) := by omega
        have hgl : g < wr.heap.size := Nat.lt_of_lt_of_le hg hC.keeps.size
        have hgn : ¬ g = wr.heap.size := by omega
        have hghl : gh < wr.heap.size := hC.own hG.2
        have hghn : ¬ gh = wr.heap.size := by omega
        have hgnn : ¬ gn = wr.heap.size := by have := hC.own hG.1; omega
        have i6 : IntKind.i64.wrap (6 + (k : Int)) = 6 + (k : Int) := IntWalk.i64_in _ (by omega)
        have i60 : 0 ≤ 6 + (k : Int) := by omega
        have i61 : 6 + (k : Int) < 64 := by omega
        have i62 : (6 + (k : Int)).toNat = 6 + k := by omega
        have ku : IntKind.u8.wrap (xn : Int) = (xn : Int) := IntWalk.u8_in _ (by omega)
        have hk6 : 6 + k < 64 := by omega
        have z6 : wr.cell? ⟨gh, 6 + k, none⟩ = (u8s (qpu (sq + 1) L k))[6 + k]? := by rw [cell_of_row _ _ _ _ _ _ HLJ.out.hh]; simp
        rw [qcl _ _ (by rw [qnc]; exact hk6)] at z6
        have f6 : wr.frozen? ⟨gh, 6 + k, none⟩ = false := frozen_of_row _ _ _ _ _ HLJ.out.hh
        have HC := Lib.hid hC
        have HGG := Lib.hid hG
        have HGT := Lib.hid hGT
        have HT := Lib.hid hT
        have HHS := Lib.hid hhs
        have HDS := Lib.hid hds
        have HES := Lib.hid hes
        have HGX := Lib.hid hgx
        clear hC hG hGT hT hhs hds hes hgx hc e0 e1 hLk
        go_wp2
        have hszA : (wr.setCell ⟨gh, 6 + k, none⟩ (.int .u8 (xn : Int))).heap.size = wr.heap.size := by simp [World.setCell]
        have hcA := ((((HC.out.mem HGL.out (qac.setCell (F := G) (p := ⟨gh, 6 + k, none⟩) HGG.out.2 (.int .u8 (xn : Int)))).mono (G' := G) fun i hi => Or.inl hi).below HGL.out ((Below.refl _ _).alloc (Nat.le_refl _) (.cells #[.int .i64 (xn : Int), .slice (some ⟨gx, 0, none⟩) 64 cx] 169)))).mono (G' := fun i => G i ∨ i = wr.heap.size) (fun i hi => hi.imp id (fun h => by subst h; rw [hszA]; exact ⟨Nat.le_refl _, by simp [hszA]⟩))
        have hhA := qad (qbw (i := 6 + k) HLJ.out.hh (.int .u8 (xn : Int))) (.cells #[.int .i64 (xn : Int), .slice (some ⟨gx, 0, none⟩) 64 cx] 169)
        rw [qyb, ← HHS.out] at hhA
        have hzA := qad ((Below.heap_setCell wr ⟨gh, 6 + k, none⟩ (.int .u8 (xn : Int)) gn hne).trans HLJ.out.hz) (.cells #[.int .i64 (xn : Int), .slice (some ⟨gx, 0, none⟩) 64 cx] 169)
        have hsA := heap_alloc_new (wr.setCell ⟨gh, 6 + k, none⟩ (.int .u8 (xn : Int))) (.cells #[.int .i64 (xn : Int), .slice (some ⟨gx, 0, none⟩) 64 cx] 169)
        rw [hszA] at hsA
        have htA := HT.out.keep (W' := (wr.setCell ⟨gh, 6 + k, none⟩ (.int .u8 (xn : Int))).alloc (.cells #[.int .i64 (xn : Int), .slice (some ⟨gx, 0, none⟩) 64 cx] 169)) (G' := GT) (fun i hi => (Below.heap_alloc _ _ i (by rw [hszA]; exact HC.out.own (HGT.out i hi).1)).trans (Below.heap_setCell wr _ _ i (HGT.out i hi).2.2)) (fun _ hi => hi)
        have HCA := Lib.hid hcA
        have HHA := Lib.hid hhA
        have HZA := Lib.hid hzA
        have HSA := Lib.hid hsA
        have HTA := Lib.hid htA
        have hgw : G wr.heap.size → False := fun h => by have := HC.out.own h; omega
        clear hcA hhA hzA hsA htA z6 f6 c0 c1 HC HT HLJ HHS i6 i60 i61 i62 ku hszA
        generalize (wr.setCell ⟨gh, 6 + k, none⟩ (.int .u8 (xn : Int))).alloc (.cells #[.int .i64 (xn : Int), .slice (some ⟨gx, 0, none⟩) 64 cx] 169) = wA at *
        generalize wr.heap.size = gw at *
        obtain ⟨l0, l1, l2, l3, hltl, lz⟩ := HCA.out.cells
        have c0 : wA.cell? ⟨gw, 0, none⟩ = some (.int .i64 (xn : Int)) := cell_of_row _ _ _ _ _ _ HSA.out
        have c1 : wA.cell? ⟨gw, 1, none⟩ = some (.slice (some ⟨gx, 0, none⟩) 64 cx) := cell_of_row _ _ _ _ _ _ HSA.out
        have hgwl : gw < wA.heap.size := qab HSA.out
        have i3 : IntKind.i64.wrap (6 + (k : Int)) = 6 + (k : Int) := IntWalk.i64_in _ (by omega)
        have hwr := HCA.out.drew.write_arg HGL.out (6 + k) (by omega) HFB.out HX.out (by have h1 := ybgq s3 (qpr L k); rw [qrg] at h1; have := HWL3.out; omega) hgB
        rw [show ((6 + k : Nat) : Int) = 6 + (k : Int) by omega] at hwr
        have HWR := Lib.hid hwr
        clear hwr
        go_still_tail 13, (by kernel_rfl)
        go_wp2_with fail
        refine HWR.out.mono ?_
        rintro e wB ⟨rfl, hcB, hkB⟩
        have hcBd := hcB.drew
        rw [← qsy, ← HDS.out] at hcBd
        have HCB := Lib.hid hcBd
        have hhB := (hkB gh (Or.inl HGG.out.2)).trans HHA.out
        have hzB := (hkB gn (Or.inl HGG.out.1)).trans HZA.out
        have hsB := (hkB gw (Or.inr rfl)).trans HSA.out
        have htB := HTA.out.keep (W' := wB.drew) (G' := GT) (fun i hi => hkB i (Or.inl (HGT.out i hi).1)) (fun _ hi => hi)
        have HHB := Lib.hid hhB
        have HZB := Lib.hid hzB
        have HTB := Lib.hid htB
        have x0 : wB.cell? ⟨gw, 0, none⟩ = some (.int .i64 (xn : Int)) := cell_of_row _ _ _ _ _ _ hsB
        have x1 : wB.cell? ⟨gw, 1, none⟩ = some (.slice (some ⟨gx, 0, none⟩) 64 cx) := cell_of_row _ _ _ _ _ _ hsB
        have hgwB : gw < wB.heap.size := qab hsB
        clear hcB hcBd hkB hhB hzB hsB htB HCA HHA HZA HSA HTA c0 c1 l0 l1 l2 l3 hltl lz i3 HWR hgwl HDS
        obtain ⟨ET, hET, ho, h3, h4⟩ := HTB.out
        have HET := Lib.hid hET
        have HO := Lib.hid ho
        have H3 := Lib.hid h3
        have H4 := Lib.hid h4
        have hETl : ET.length ≤ 30 := by
          have h1 : (ET.map rab).length = (emit (L.take k)).length := by rw [hET]
          rw [List.length_map] at h1
          unfold emit at h1
          rw [List.length_map, List.length_take] at h1
          omega
        have HBX := Lib.hid (HCB.out.arg HFB.out hgB HX.out)
        have hwz : w.heap.size ≤ wB.heap.size := HCB.out.keeps.size
        clear hET ho h3 h4 HTB
        have HCLN := Lib.hid (yblj _ xD wB.drew HBX.out hxD)
        obtain ⟨i0, hi0, hz0, hz1, hz2⟩ := info_parts qxp
        have HI := Lib.hid hi0
        have HZ0 := Lib.hid hz0
        have HZ1 := Lib.hid hz1
        have HZ2 := Lib.hid hz2
        clear hi0 hz0 hz1 hz2
        go_wp2_with fail
        refine wp_region_noPanic ?_
        go_region_held_law (fun w' => w'.cell? ⟨gw, 0, none⟩ = some (.int .i64 (xn : Int)) ∧ w'.cell? ⟨gw, 1, none⟩ = some (.slice (some ⟨gx, 0, none⟩) 64 cx))
          (first
            | exact ⟨m1, m2⟩
            | exact ⟨m3, m4⟩
            | (go_keep; done))
          (first
            | (go_at_call 98; refine HCLN.out.mono ?_; rintro e w2 ⟨v2, rfl, g2, cap2, cur2, rfl, hg2, hh2, ht2, hb2⟩
               have m1 : w2.cell? ⟨gw, 0, none⟩ = some (.int .i64 (xn : Int)) := (hb2.cell (p := ⟨gw, 0, none⟩) hgwB).trans x0
               have m2 : w2.cell? ⟨gw, 1, none⟩ = some (.slice (some ⟨gx, 0, none⟩) 64 cx) := (hb2.cell (p := ⟨gw, 1, none⟩) hgwB).trans x1
               have HO2 := Lib.hid (qap HO.out hb2)
               have HB2 := Lib.hid hb2
               have HG2 := Lib.hid hg2
               have HH2 := Lib.hid hh2
               have HT2 := Lib.hid ht2
               have hw2 : w.heap.size ≤ w2.heap.size := Nat.le_trans hwz hb2.size
               have hgw2 : gw < w2.heap.size := Nat.lt_of_lt_of_le hgwB hb2.size
               have hgwn : ¬ gw = w2.heap.size := by omega
               clear hg2 hh2 ht2 hb2)
            | (refine step_append_lies _ (by rfl) _ _ _ (by rfl) w.heap.size 171 i0 (.agg #[.int .i64 0, .slice none 0 0, .bool false]) 3 40 ybug HI.out HZ0.out HZ1.out HZ2.out rfl (by omega) _ ET.length (qbg ET) (by rfl) (HO2.out.alloc _)
                ⟨w2.heap.size, 0, none⟩ 1 1 [.int .i64 (xn : Int), .slice (some ⟨g2, 0, none⟩) 64 cap2, .bool false] (by rfl) (by rfl) (World.news_of_block (cs := #[.int .i64 (xn : Int), .slice (some ⟨g2, 0, none⟩) 64 cap2, .bool false]) (t := 171) (fr := (0, 0)) (heap_alloc_new w2 _)) (by simp [Value.oneCell'])
                (by omega) (by unfold maxLen; omega) (by omega) (by simp; omega) (w2.heap.size + 1) (by simp) ?_; intro gg cap4 w4 hown4 hgrow hat hlt4
               obtain ⟨ht4, hk4⟩ := TD.snoc (n := xn) (D := xD) HO.out H3.out H4.out HB2.out HG2.out HH2.out HT2.out hx256 hxD hown4 hgrow hat
               have m34 : ∀ i, w4.cell? ⟨gw, i, none⟩ = wB.cell? ⟨gw, i, none⟩ := fun i => hk4.cell hgwB (fun h => hgw (HGT.out gw h).1)
               have m3 := (m34 0).trans x0
               have m4 := (m34 1).trans x1
               have HT4 := Lib.hid ht4
               have HK4 := Lib.hid hk4
               clear ht4 hk4 m34 hown4 hgrow hat))
        all_goals
          refine NoPanic.normal ?_
          have hLJ : LJ w a gl F s3 (sq + 1) L gn gh Z (k + 1) (.slice (some ⟨gg, 0, none⟩) (ET.length + 1) cap4) w4 := by
            refine ⟨⟨_, _, HCB.out.mem HGL.out (HK4.out.mono (F1 := fun i => G i ∨ i = gw) (fun i _ hi => Or.inl (HGT.out i hi).1)), ⟨Or.inl (Or.inl HGG.out.1), Or.inl (Or.inl HGG.out.2)⟩, fun i hi => ?_, by rw [HES.out, ← HET.out]; exact HT4.out⟩, (HK4.out.block gh (qab HHB.out) (fun h => (HGT.out gh h).2.2 rfl)).trans HHB.out, (HK4.out.block gn (qab HZB.out) (fun h => (HGT.out gn h).2.1 rfl)).trans HZB.out⟩
            rcases hi with hi | hi
            · exact ⟨Or.inl (Or.inl (HGT.out i hi).1), (HGT.out i hi).2⟩
            · have e1 : gn < wB.heap.size := qab HZB.out
              have e2 : gh < wB.heap.size := qab HHB.out
              have e3 : wB.heap.size ≤ i := hi.1
              exact ⟨Or.inr hi, by omega, by omega⟩
          have HLJ2 := Lib.hid hLJ
          clear hLJ m1 m2 m3 m4 x0 x1 HO2 HB2 HG2 HH2 HT2 HT4 HK4 HO H3 H4 HET HCB HHB HZB
          go_wp2
          go_roundw
          case rel => exact ⟨k + 1, by omega, by go_num, HLJ2⟩
          case measure => simp [intOf]; omega
      · have hkN : N = k := by omega
        subst hkN
        obtain ⟨s4, Hs4⟩ : ∃ s, Hid (runE s3 (qpr L N) = s) := ⟨_, rfl⟩
        rw [List.take_of_length_le (by rw [HLN.out]; exact Nat.le_refl _)] at hT
        rw [Hs4.out] at hC
        have HWL4 : Hid (s4.W.length ≤ 800037) := by have h1 := ybgq s3 (qpr L N); rw [qrg, Hs4.out] at h1; have h2 := HWL3.out; show _ ≤ _; omega
        have hhW : qpu (sq + 1) L N = qzw (sq + 1) L := by unfold qzw; rw [HLN.out]
        have hh := HLJ.out.hh
        rw [hhW] at hh
        have HH := Lib.hid hh
        have HZr := Lib.hid HLJ.out.hz
        have HC := Lib.hid hC
        have HGG := Lib.hid hG
        have HGT := Lib.hid hGT
        have HT := Lib.hid hT
        clear hC hG hGT hT hh hhW HLJ
        obtain ⟨l0, l1, l2, l3, hltl, lz⟩ := HC.out.cells
        have i3 : IntKind.i64.wrap (6 + (N : Int)) = 6 + (N : Int) := IntWalk.i64_in _ (by omega)
        have hnl : ¬ (N : Int) < (N : Int) := by omega
        go_wp2
        have hwr := HC.out.drew.write HGL.out (6 + N) (by omega) gn 64 zS ybwe HGG.out.1 (cur := (u8s Z).toArray) HZr.out (by rw [HZ.out]; simp [u8s, zS]) (by have := HWL4.out; omega)
        rw [show ((6 + N : Nat) : Int) = 6 + (N : Int) by omega] at hwr
        have HWR := Lib.hid hwr
        clear hwr
        go_still_tail 13, (by kernel_rfl)
        go_wp2_with fail
        refine HWR.out.mono ?_
        rintro e wC ⟨rfl, hcC, hkC⟩
        obtain ⟨s5, Hs5⟩ : ∃ s, Hid (doE s4 (6 + N, zS, false) = s) := ⟨_, rfl⟩
        have HWL5 : Hid (s5.W.length ≤ 800038) := by have h1 := qwm s4 (6 + N, zS, false); rw [Hs5.out] at h1; have h2 := HWL4.out; show _ ≤ _; omega
        rw [Hs5.out] at hcC
        have HCC := Lib.hid hcC
        have HHC := Lib.hid ((hkC gh HGG.out.2).trans HH.out)
        have HTC := Lib.hid (HT.out.keep (W' := wC) (G' := GT) (fun i hi => hkC i (HGT.out i hi).1) (fun _ hi => hi))
        clear hcC hkC HC HH HT HZr HWR i3 l0 l1 l2 l3 hltl lz HWL4
        obtain ⟨l0, l1, l2, l3, hltl, lz⟩ := HCC.out.cells
        go_wp2_with fail
        refine (HCC.out.flush HGL.out).mono ?_
        rintro e wD ⟨rfl, hcD, hkD⟩
        obtain ⟨s6, Hs6⟩ : ∃ s, Hid (doE s5 barR = s) := ⟨_, rfl⟩
        have HWL6 : Hid (s6.W.length ≤ 800039) := by have h1 := qwm s5 barR; rw [Hs6.out] at h1; have h2 := HWL5.out; show _ ≤ _; omega
        rw [Hs6.out] at hcD
        have HCD := Lib.hid hcD
        have HHD := Lib.hid ((hkD gh HGG.out.2).trans HHC.out)
        have HTD := Lib.hid (HTC.out.keep (W' := wD) (G' := GT) (fun i hi => hkD i (HGT.out i hi).1) (fun _ hi => hi))
        clear hcD hkD HCC HHC HTC l0 l1 l2 l3 hltl lz HWL5
        have hmk : ∀ W : World, (Instr.makeSlice 38 (.int .i64 64) (.int .i64 64)).run Tryz.prog W = .ok (.slice (some ⟨W.heap.size, 0, none⟩) 64 64) (W.alloc (.cells (u8s Z).toArray 5)) := fun W => by
          rw [HZ.out]; exact qhl 64 64 rfl (by omega) W
        obtain ⟨l0, l1, l2, l3, hltl, lz⟩ := HCD.out.cells
        go_upto_region 25 with fail
        clear hmk
        have hT7 := heap_alloc_new wD (.cells (u8s Z).toArray 5)
        have hc7 := (HCD.out.below HGL.out ((Below.refl _ _).alloc (Nat.le_refl _) (.cells (u8s Z).toArray 5))).mono (G' := fun i => G i ∨ i = wD.heap.size) (fun i hi => hi.imp id (fun h => ⟨by omega, by subst h; simp⟩))
        have hgD : ∀ i, G i → i ≠ wD.heap.size := fun i hi => by have := HCD.out.own hi; omega
        have hh7 := qad HHD.out (.cells (u8s Z).toArray 5)
        have ht7 := HTD.out.keep (W' := wD.alloc (.cells (u8s Z).toArray 5)) (G' := GT) (fun i hi => Below.heap_alloc _ _ i (HCD.out.own (HGT.out i hi).1)) (fun _ hi => hi)
        have HGD := Lib.hid hgD
        clear l0 l1 l2 l3 hltl lz HCD HHD HTD hgD
        generalize wD.alloc (.cells (u8s Z).toArray 5) = wE at *
        generalize wD.heap.size = gt at *
        have z0 : wE.cell? ⟨gt, 0, none⟩ = some (.int .u8 0) := by rw [cell_of_row _ _ _ _ _ _ hT7, HZ.out]; rfl
        have f0 : wE.frozen? ⟨gt, 0, none⟩ = false := frozen_of_row _ _ _ _ _ hT7
        have hgtl : gt < wE.heap.size := qab hT7
        have hR8 := qbw (i := 0) hT7 (.int .u8 67)
        rw [qyb] at hR8
        have hk78 : qac (fun i => G i ∨ i = gt) wE (wE.setCell ⟨gt, 0, none⟩ (.int .u8 67)) := qac.setCell (F := fun i => G i ∨ i = gt) (Or.inr rfl) _
        have hc8 := (hc7.mem HGL.out hk78).mono (G' := fun i => G i ∨ i = gt) (fun i hi => Or.inl hi)
        have hh8 := (Below.heap_setCell wE ⟨gt, 0, none⟩ (.int .u8 67) gh (HGD.out gh HGG.out.2)).trans hh7
        have ht8 := ht7.keep (W' := wE.setCell ⟨gt, 0, none⟩ (.int .u8 67)) (G' := GT) (fun i hi => Below.heap_setCell wE _ _ i (HGD.out i (HGT.out i hi).1)) (fun _ hi => hi)
        have HR8 := Lib.hid hR8
        have HC8 := Lib.hid hc8
        have HH8 := Lib.hid hh8
        have HT8 := Lib.hid ht8
        clear hT7 hc7 hh7 ht7 hR8 hk78 hc8 hh8 ht8
        go_wp2
        obtain ⟨l0, l1, l2, l3, hltl, lz⟩ := HC8.out.cells
        generalize wE.setCell ⟨gt, 0, none⟩ (.int .u8 67) = wF at *
        clear z0 f0 hgtl
        have HWD := Lib.hid (qyh (sq + 1) (by omega) (by omega) wF wF.drew ((Below.refl _ _).drew) rfl)
        refine wp_region_noPanic ?_
        go_region_held_law (fun w' => w'.cell? ⟨gl, 3, none⟩ = some (.int .u32 (sq + 1)))
          (first
            | (go_keep; done)
            | exact m1
            | exact m2)
          (first
            | (go_at_call 105; refine HWD.out.mono ?_; rintro e w9 ⟨rfl, hb9, hv9⟩
               have m1 : w9.cell? ⟨gl, 3, none⟩ = some (.int .u32 (sq + 1)) := (hb9.cell (p := ⟨gl, 3, none⟩) hltl).trans l3
               have HB9 := Lib.hid hb9
               have HV9 := Lib.hid hv9
               clear hb9 hv9)
            | (refine qkn (some 132) (by rfl) (by rfl) _ _ _ _ (by rfl) 5 u8sT qoe gt 1 63 63 _ (by rfl) (by rfl) (Z.set 0 67) (qcm (sq + 1)) 5 (qaa HB9.out HR8.out) HV9.out (by simp [qcm]) (by simp [qcm]) (by rw [HZ.out]; simp [qcm, zS]) ?_
               have hc10 := HC8.out.copied HGL.out HB9.out (g := gt) (Or.inr rfl) (u8s (over (Z.set 0 67) 1 (qcm (sq + 1)))).toArray
               have hr10 := setRow_heap w9 gt _ (u8s (over (Z.set 0 67) 1 (qcm (sq + 1)))).toArray _ _ (qaa HB9.out HR8.out)
               have hh10 := (setRow_other w9 gt gh (u8s (over (Z.set 0 67) 1 (qcm (sq + 1)))).toArray (HGD.out gh HGG.out.2)).trans (qaa HB9.out HH8.out)
               have ht10 := HT8.out.keep (W' := w9.setRow gt (u8s (over (Z.set 0 67) 1 (qcm (sq + 1)))).toArray) (G' := GT) (fun i hi => (setRow_other w9 gt i _ (HGD.out i (HGT.out i hi).1)).trans (HB9.out.block i (HC8.out.own (Or.inl (HGT.out i hi).1)))) (fun _ hi => hi)
               generalize w9.setRow gt (u8s (over (Z.set 0 67) 1 (qcm (sq + 1)))).toArray = wG at *
               have m2 : wG.cell? ⟨gl, 3, none⟩ = some (.int .u32 (sq + 1)) := hc10.cells.2.2.2.1
               have HCG := Lib.hid hc10
               have HRG := Lib.hid hr10
               have HHG := Lib.hid hh10
               have HTG := Lib.hid ht10
               clear hc10 hr10 hh10 ht10))
        refine NoPanic.normal ?_
        simp only [Act.put, List.setIfInBounds_toArray, List.set_cons_zero, List.set_cons_succ]
        clear m1 m2 HV9 HB9 HC8 HR8 HH8 HT8 HWD l0 l1 l2 l3 hltl lz
        have hJG := HCG.out.drew.jws HFB.out hgB HJ2.out
        rw [HN.out] at hJG
        have hsm := ybgy _ E wG.drew hJG (by rw [HN.out]; omega)
        rw [HL.out] at hsm
        have HSM := Lib.hid (hsm.mono (R' := fun e w' => e = .returned (.int .u32 (sumW L)) ∧ Below wG.heap.size wG w') fun e w' h => ⟨h.1, (Below.refl wG.heap.size wG).drew.trans h.2⟩)
        clear hsm
        have HSI := Lib.hid (ybzb L)
        clear hJG
        obtain ⟨sm, HSMq⟩ : ∃ q, Hid (sumW L = q) := ⟨_, rfl⟩
        rw [HSMq.out] at HSM HSI
        go_wp2_with fail
        refine wp_region_noPanic ?_
        go_region_held_law (fun _ => True)
          (trivial)
          (first
            | (go_at_call 106; refine HSM.out.mono ?_; rintro e w11 ⟨rfl, hb11⟩
               have HB11 := Lib.hid hb11
               clear hb11)
            | (go_at_call 105; refine (qyh sm HSI.out.1 HSI.out.2 w11 w11 (Below.refl _ _) rfl).mono ?_; rintro e w12 ⟨rfl, hb12, hv12⟩
               have HB12 := Lib.hid (Below.step HB11.out hb12)
               have HV12 := Lib.hid hv12
               clear hb12 hv12)
            | (refine qkn (some 138) (by rfl) (by rfl) _ _ _ _ (by rfl) 5 u8sT qoe gt 5 59 59 _ (by rfl) (by rfl) (over (Z.set 0 67) 1 (qcm (sq + 1))) (qcm sm) 5 (qaa HB12.out HRG.out) HV12.out (by simp [qcm]) (by simp [qcm]) (by rw [HZ.out, qnl (by simp [zS, qcm])]; simp [qcm, zS]) ?_
               have hc10 := HCG.out.copied HGL.out HB12.out (g := gt) (Or.inr rfl) (u8s (over (over (Z.set 0 67) 1 (qcm (sq + 1))) 5 (qcm sm))).toArray
               have hr10 := setRow_heap w12 gt _ (u8s (over (over (Z.set 0 67) 1 (qcm (sq + 1))) 5 (qcm sm))).toArray _ _ (qaa HB12.out HRG.out)
               have hh10 := (setRow_other w12 gt gh (u8s (over (over (Z.set 0 67) 1 (qcm (sq + 1))) 5 (qcm sm))).toArray (HGD.out gh HGG.out.2)).trans (qaa HB12.out HHG.out)
               have ht10 := HTG.out.keep (W' := w12.setRow gt (u8s (over (over (Z.set 0 67) 1 (qcm (sq + 1))) 5 (qcm sm))).toArray) (G' := GT) (fun i hi => (setRow_other w12 gt i _ (HGD.out i (HGT.out i hi).1)).trans (HB12.out.block i (HCG.out.own (Or.inl (HGT.out i hi).1)))) (fun _ hi => hi)
               generalize w12.setRow gt (u8s (over (over (Z.set 0 67) 1 (qcm (sq + 1))) 5 (qcm sm))).toArray = wH at *
               have HCH := Lib.hid hc10
               have HRH := Lib.hid hr10
               have HHH := Lib.hid hh10
               have HTH := Lib.hid ht10
               clear hc10 hr10 hh10 ht10))
        refine NoPanic.normal ?_
        simp only [Act.put, List.setIfInBounds_toArray, List.set_cons_zero, List.set_cons_succ]
        clear HCG HRG HHG HTG HB11 HB12 HV12 HSM HSI
        obtain ⟨l0, l1, l2, l3, hltl, lz⟩ := HCH.out.cells
        have hwr := HCH.out.drew.write HGL.out 5 (by omega) gh 64 (qzw (sq + 1) L) (qnc _ _ _) (Or.inl HGG.out.2) HHH.out (by rw [List.take_of_length_le (by simp [qak, qzw, qnc])]) (by have := HWL6.out; omega)
        have HWR := Lib.hid hwr
        clear hwr
        go_wp2_with fail
        go_still_tail 9, (by kernel_rfl)
        go_wp2_with fail
        refine HWR.out.mono ?_
        rintro e wI ⟨rfl, hcI, hkI⟩
        obtain ⟨s7, Hs7⟩ : ∃ s, Hid (doE s6 (5, qzw (sq + 1) L, false) = s) := ⟨_, rfl⟩
        have HWL7 : Hid (s7.W.length ≤ 800040) := by have h1 := qwm s6 (5, qzw (sq + 1) L, false); rw [Hs7.out] at h1; have h2 := HWL6.out; show _ ≤ _; omega
        rw [Hs7.out] at hcI
        have HCI := Lib.hid hcI
        have HRI := Lib.hid ((hkI gt (Or.inr rfl)).trans HRH.out)
        have HTI := Lib.hid (HTH.out.keep (W' := wI) (G' := GT) (fun i hi => hkI i (Or.inl (HGT.out i hi).1)) (fun _ hi => hi))
        clear hcI hkI HCH HHH HRH HTH HWR l0 l1 l2 l3 hltl lz HWL6
        obtain ⟨l0, l1, l2, l3, hltl, lz⟩ := HCI.out.cells
        have i3 : IntKind.i64.wrap (6 + (N : Int)) = 6 + (N : Int) := IntWalk.i64_in _ (by omega)
        go_wp2_with fail
        have hwr := HCI.out.drew.write HGL.out (6 + N) (by omega) gt 64 (ybbl (sq + 1) sm) (ybbm _ _) (Or.inr rfl) HRI.out (by rw [HZ.out]; show (u8s (ybbl (sq + 1) sm)).take 64 = _; rw [List.take_of_length_le (by rw [qak, ybbm]; exact Nat.le_refl _)]) (by have := HWL7.out; omega)
        rw [show ((6 + N : Nat) : Int) = 6 + (N : Int) by omega] at hwr
        have HWR := Lib.hid hwr
        clear hwr
        go_still_tail 13, (by kernel_rfl)
        go_wp2_with fail
        refine HWR.out.mono ?_
        rintro e wJ ⟨rfl, hcJ, hkJ⟩
        obtain ⟨s8, Hs8⟩ : ∃ s, Hid (doE s7 (6 + N, ybbl (sq + 1) sm, false) = s) := ⟨_, rfl⟩
        have HWL8 : Hid (s8.W.length ≤ 800041) := by have h1 := qwm s7 (6 + N, ybbl (sq + 1) sm, false); rw [Hs8.out] at h1; have h2 := HWL7.out; show _ ≤ _; omega
        rw [Hs8.out] at hcJ
        have HCJ := Lib.hid hcJ
        have HTJ := Lib.hid (HTI.out.keep (W' := wJ) (G' := GT) (fun i hi => hkJ i (Or.inl (HGT.out i hi).1)) (fun _ hi => hi))
        clear hcJ hkJ HCI HRI HTI HWR l0 l1 l2 l3 hltl lz HWL7 i3
        obtain ⟨l0, l1, l2, l3, hltl, lz⟩ := HCJ.out.cells
        go_wp2_with fail
        refine (HCJ.out.flush HGL.out).mono ?_
        rintro e wK ⟨rfl, hcK, hkK⟩
        obtain ⟨s9, Hs9⟩ : ∃ s, Hid (doE s8 barR = s) := ⟨_, rfl⟩
        have HWL9 : Hid (s9.W.length ≤ 800042) := by have h1 := qwm s8 barR; rw [Hs9.out] at h1; have h2 := HWL8.out; show _ ≤ _; omega
        rw [Hs9.out] at hcK
        have HCK := Lib.hid hcK
        have HTK := Lib.hid (HTJ.out.keep (W' := wK) (G' := GT) (fun i hi => hkK i (Or.inl (HGT.out i hi).1)) (fun _ hi => hi))
        clear hcK hkK HCJ HTJ l0 l1 l2 l3 hltl lz HWL8
        obtain ⟨l0, l1, l2, l3, hltl, lz⟩ := HCK.out.cells
        have HRU := Lib.hid (HCK.out.runs HGL.out HTK.out (fun x hx => by
          obtain ⟨y, hy, rfl⟩ := List.mem_map.1 hx
          exact (HG.out.n y hy).2) (by show (emit L).length ≤ 100; unfold emit; rw [List.length_map, HLN.out]; omega) (by have := HWL9.out; omega))
        have HEQ : Hid (runE s9 (qft (emit L) 0) = runE st (opsJ (sq + 1) L)) := by
          show _ = _
          unfold opsJ opsB opsA
          rw [qns, qns, qns]
          show _ = runE (doE (doE (doE (doE (doE (runE (doE (doE (doE st barR) (5, zS, false)) barR) (qpr L L.length)) (6 + L.length, zS, false)) barR) (5, qzw (sq + 1) L, false)) (6 + L.length, ybbl (sq + 1) (sumW L), false)) barR) _
          rw [HLN.out, HSMq.out, Hs1.out, Hs2.out, Hs3.out, Hs4.out, Hs5.out, Hs6.out, Hs7.out, Hs8.out, Hs9.out]
        rw [HEQ.out] at HRU
        go_wp2_with fail
        refine HRU.out.mono ?_
        rintro e wL ⟨rfl, hcL⟩
        have HCL := Lib.hid hcL
        clear hcL HCK HTK HRU l0 l1 l2 l3 hltl lz
        go_wp2
        go_ret
        exact ⟨rfl, HCL.out⟩
  rw [← HL.out] at hgoal
  exact hgoal
end Go.Proofs.YtpoglnpjadmbpaaGreatDoor
