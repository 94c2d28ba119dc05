/- right: what is wrong with writes, walked. -/
import Derived.Test.YtdcplaonafmbjaaJOpen
import Derived.Test.YtdcplaonafmbjaaLiftMap
import Derived.Maps.Own
import Derived.Maps.OwnOps
namespace Go.Proofs.Ytdcplaonafmbjaa
open Go.RowKit Go.Maps

def mapS (S : List Nat) : DataW Value := S.foldl (fun D n => D.put (keyL n) (.held (.bool true))) (.map [])
theorem mapS_snoc (S : List Nat) (n : Nat) : mapS (S ++ [n]) = (mapS S).put (keyL n) (.held (.bool true)) := by unfold mapS; rw [List.foldl_append]; rfl
theorem mapS_is (S : List Nat) : ∀ k, k ≤ S.length → IsMap (mapS (S.take k)) ∧ ∀ n, (mapS (S.take k)).atKey (keyL n) (.held (.bool false)) = .held (.bool ((S.take k).contains n)) := by
  intro k
  induction k with
  | zero => intro _; exact ⟨isMap_empty, fun n => by rw [atKey_of_not_has (by simp [mapS, has])]; rfl⟩
  | succ k ih =>
    intro hk
    obtain ⟨h1, h2⟩ := ih (by omega)
    have e1 : S.take (k + 1) = S.take k ++ [S[k]] := (List.take_append_getElem (show k < S.length by omega)).symm
    rw [e1, mapS_snoc]
    refine ⟨h1.put _ _, fun n => ?_⟩
    by_cases e : n = S[k]
    · subst e
      rw [atKey_put_same h1 (keyL_key _)]
      have : (S.take k ++ [S[k]]).contains S[k] = true := by rw [List.contains_iff_mem]; exact List.mem_append_right _ (List.mem_singleton.2 rfl)
      rw [this]
    · rw [atKey_put_other (fun h => e (keyL_inj h)), h2]
      have this : (S.take k ++ [S[k]]).contains n = (S.take k).contains n := by
        rw [Bool.eq_iff_iff, List.contains_iff_mem, List.contains_iff_mem, List.mem_append, List.mem_singleton]
        exact ⟨fun h => h.resolve_right e, Or.inl⟩
      rw [this]
theorem mapS_at (S : List Nat) (n : Nat) : (mapS S).atKey (keyL n) (.held (.bool false)) = .held (.bool (S.contains n)) := by
  have := (mapS_is S S.length (Nat.le_refl _)).2 n
  rwa [List.take_length] at this
def rJ : List Nat → List (Nat × Nat) → Int
  | _, [] => 0
  | S, x :: r => if 20 ≤ x.1 ∨ (2 ≤ x.1 ∧ x.1 < 8) ∨ x.2 ≠ 64 then 1 else if S.contains x.1 = true then 5 else rJ (S ++ [x.1]) r
def jnl (x : Jw) : Nat × Nat := (x.n, x.D.length)
def rightR (E : List Jw) : Int := if 4 < E.length then 2 else rJ [] (E.map jnl)
theorem rJ_step {E : List Jw} {k : Nat} (hk : k < E.length) (S : List Nat) : rJ S ((E.drop k).map jnl) = if 20 ≤ E[k].n ∨ (2 ≤ E[k].n ∧ E[k].n < 8) ∨ E[k].D.length ≠ 64 then 1 else if S.contains E[k].n = true then 5 else rJ (S ++ [E[k].n]) ((E.drop (k + 1)).map jnl) := by
  rw [List.drop_eq_getElem_cons hk, List.map_cons, rJ]
  rfl
def JwShape (x : Jw) : Prop := x.n < 256 ∧ x.D.length ≤ 1000 ∧ ∃ p c, x.v = .slice p x.D.length c
theorem mapIB : Try.prog.underlying 105 = some (.map 3 4) := by kernel_rfl

theorem room_at {w : World} {a : Addr} {sq : Int} {gl : Nat} (hl : w.heap[gl]? = some (.cells (logC a sq) 74 (0, 0))) : Calls Try.prog 34 #[.pointer (some ⟨gl, 0, none⟩)] w fun e w' => e = .returned (.int .i64 4) ∧ w = w' := by
  have c2 : w.cell? ⟨gl, 2, none⟩ = some (.int .i64 6) := cell_of_row _ _ _ _ _ _ hl
  have hlt := heap_lt hl
  clear hl
  go_enter Try.func34, Try.ntmps34
  go_wp2
  go_ret
  exact ⟨rfl, rfl⟩
theorem seq_at {w : World} {a : Addr} {sq : Int} {gl : Nat} (hl : w.heap[gl]? = some (.cells (logC a sq) 74 (0, 0))) : Calls Try.prog 16 #[.pointer (some ⟨gl, 0, none⟩)] w fun e w' => e = .returned (.int .u32 sq) ∧ w = w' := by
  have c3 : w.cell? ⟨gl, 3, none⟩ = some (.int .u32 sq) := cell_of_row _ _ _ _ _ _ hl
  have hlt := heap_lt hl
  clear hl
  go_enter Try.func16, Try.ntmps16
  go_wp2
  go_ret
  exact ⟨rfl, rfl⟩

set_option maxRecDepth 100000 in
set_option maxHeartbeats 8000000 in
theorem right_at {w : World} {a : Addr} {st : Dk} {F : Nat → Prop} {sq : Int} {gl : Nat} (h : DiskAt w (.pointer (some a)) st 20 F) (hl : w.heap[gl]? = some (.cells (logC a sq) 74 (0, 0))) (v : Value) (E : List Jw) (hv : RowAt w v 2 E.length (jcells E)) (hE : ∀ x ∈ E, JwShape x) (hn : E.length ≤ 1000) :
    Calls Try.prog 42 #[.pointer (some ⟨gl, 0, none⟩), v] w fun e w' => e = .returned (.int .i64 (rightR E)) ∧ Below w.heap.size w w' := by
  have HD := Lib.hid h
  have HL := Lib.hid hl
  have HRO := Lib.hid (room_at hl)
  obtain ⟨p, cp, rfl, HP⟩ := jws_open hv
  have HE := Lib.hid hE
  obtain ⟨N, HN⟩ : ∃ N, Hid (E.length = N) := ⟨_, rfl⟩
  rw [HN.out] at HP hn
  rw [HN.out]
  have hltl := heap_lt hl
  clear h hl hv hE
  have HOM : Hid ((w.alloc (.map #[] 0)).ownsMap Try.prog 3 RV w.heap.size 0 (.map [])) := World.ownsMap_made w Try.prog 3 RV
  have hmm := @run_makeMap Try.prog
  go_enter Try.func42, Try.ntmps42
  go_wp2_with fail
  refine HRO.out.mono ?_
  rintro e w' ⟨rfl, rfl⟩
  by_cases h4 : 4 < N
  · have d1 : decide ((4 : Int) < (N : Int)) = true := by rw [decide_eq_true_iff]; omega
    have d2 : decide (4 < N) = true := by rw [decide_eq_true_iff]; omega
    have HI : Hid (rightR E = 2) := by show _ = _; unfold rightR; rw [HN.out, if_pos h4]
    go_wp2
    go_ret
    rw [HI.out]
    exact ⟨rfl, Below.refl _ _⟩
  have d1 : decide ((4 : Int) < (N : Int)) = false := by rw [decide_eq_false_iff_not]; omega
  have d2 : decide (4 < N) = false := by rw [decide_eq_false_iff_not]; omega
  have HI : Hid (rightR E = rJ [] (E.map jnl)) := by show _ = _; unfold rightR; rw [HN.out, if_neg h4]
  go_wp2
  clear hmm
  go_loopw [16] (fun i wr => ∃ k : Nat, k ≤ N ∧ i = .int .i64 k ∧ Hid (wr.ownsMap Try.prog 3 RV w.heap.size k (mapS ((E.take k).map fun x => x.n))) ∧ Hid (rJ [] (E.map jnl) = rJ ((E.take k).map fun x => x.n) ((E.drop k).map jnl)) ∧ Hid (Below w.heap.size w wr)) (fun i _ => N - (intOf i).toNat)
  case atStart => exact ⟨0, Nat.zero_le _, rfl, HOM, rfl, (Below.refl _ _).alloc (Nat.le_refl _) _⟩
  case round =>
    obtain ⟨k, hk, rfl, HM, HRJ, HB⟩ := hrel
    by_cases hlt : k < N
    · obtain ⟨g, o, rfl, hg, hc⟩ := HP.out (by omega)
      have hkl : k < E.length := by rw [HN.out]; exact hlt
      obtain ⟨e0, e1⟩ := jcells_get E k hkl
      have hsh := HE.out E[k] (List.getElem_mem hkl)
      have hst := rJ_step hkl ((E.take k).map fun x => x.n)
      rw [← HRJ.out] at hst
      have htk : (E.take (k + 1)).map (fun x => x.n) = (E.take k).map (fun x => x.n) ++ [E[k].n] := by rw [← List.take_append_getElem hkl, List.map_append]; rfl
      generalize E[k] = x at e0 e1 hsh hst htk
      obtain ⟨xn, xv, xD⟩ := x
      obtain ⟨hx256, hx1000, px, cx, hxs⟩ := hsh
      dsimp only at hxs e0 e1 hst htk hx256 hx1000
      obtain ⟨xl, Hxl⟩ : ∃ l, Hid (xD.length = l) := ⟨_, rfl⟩
      rw [Hxl.out] at hxs hst hx1000
      subst hxs
      have c0 := (HB.out.cell (p := ⟨g, o + k * 2, none⟩) hg).trans (hc _ _ e0)
      have c1 := (HB.out.cell (p := ⟨g, o + (k * 2 + 1), none⟩) hg).trans (hc _ _ e1)
      rw [← Nat.add_assoc] at c1
      have hlt2 : (k : Int) < (N : Int) := by omega
      have hgl : g < wr.heap.size := Nat.lt_of_lt_of_le hg HB.out.size
      have hgn : ¬ g = wr.heap.size := by omega
      have hlr : gl < wr.heap.size := Nat.lt_of_lt_of_le hltl HB.out.size
      have hlrn : ¬ gl = wr.heap.size := by omega
      have hlw := heap_below HB.out HL.out
      have l0 : wr.cell? ⟨gl, 0, none⟩ = some (.pointer (some a)) := cell_of_row _ _ _ _ _ _ hlw
      have l1 : wr.cell? ⟨gl, 1, none⟩ = some (.int .i64 2) := cell_of_row _ _ _ _ _ _ hlw
      have l2 : wr.cell? ⟨gl, 2, none⟩ = some (.int .i64 6) := cell_of_row _ _ _ _ _ _ hlw
      have HBA : Hid (Below w.heap.size w (wr.alloc (.cells #[.int .i64 (xn : Int), .slice px xl cx] 44))) := HB.out.alloc HB.out.size _
      have HSZ : Hid (∀ n, Calls Try.prog 38 #[.pointer (some a)] ((wr.alloc (.cells #[.int .i64 (xn : Int), .slice px xl cx] 44)).drewN n) fun e w' => e = .returned (.int .i64 ((20 : Nat) : Int)) ∧ w' = (wr.alloc (.cells #[.int .i64 (xn : Int), .slice px xl cx] 44)).drewN n) := fun n => (size_at ((HD.out.below HBA.out).drewN n)).mono fun e w' h => ⟨h.1, h.2.symm⟩
      have HST := Lib.hid hst
      have HTK := Lib.hid htk
      have b0 : decide ((xn : Int) < 0) = false := by rw [decide_eq_false_iff_not]; omega
      clear hc e0 e1 hst htk hlw
      by_cases h20 : 20 ≤ xn
      · have q1 : decide ((20 : Int) ≤ (xn : Int)) = true := by rw [decide_eq_true_iff]; omega
        have q1' : decide (20 ≤ xn) = true := by rw [decide_eq_true_iff]; omega
        have HR1 : Hid (rJ [] (E.map jnl) = 1) := by show _ = _; rw [HST.out, if_pos (Or.inl h20)]
        clear h20
        go_wp2
        go_quiet ((go_at_call 38; exact Calls.quiet_of_same (HSZ.out _)))
        go_wp2
        go_ret
        rw [HI.out, HR1.out]
        exact ⟨rfl, below_dr HBA.out _⟩
      have q1 : decide ((20 : Int) ≤ (xn : Int)) = false := by rw [decide_eq_false_iff_not]; omega
      have q1' : decide (20 ≤ xn) = false := by rw [decide_eq_false_iff_not]; omega
      by_cases h28 : 2 ≤ xn ∧ xn < 8
      · have q2 : decide ((2 : Int) ≤ (xn : Int)) = true := by rw [decide_eq_true_iff]; omega
        have q2' : decide (2 ≤ xn) = true := by rw [decide_eq_true_iff]; omega
        have q3 : decide ((xn : Int) < 8) = true := by rw [decide_eq_true_iff]; omega
        have q3' : decide (xn < 8) = true := by rw [decide_eq_true_iff]; omega
        have HR1 : Hid (rJ [] (E.map jnl) = 1) := by show _ = _; rw [HST.out, if_pos (Or.inr (Or.inl h28))]
        clear h20 h28
        go_wp2
        go_quiet ((go_at_call 38; exact Calls.quiet_of_same (HSZ.out _)))
        go_wp2
        go_ret
        rw [HI.out, HR1.out]
        exact ⟨rfl, below_dr HBA.out _⟩
      by_cases h2 : xn < 2
      · have q2 : decide ((2 : Int) ≤ (xn : Int)) = false := by rw [decide_eq_false_iff_not]; omega
        have q2' : decide (2 ≤ xn) = false := by rw [decide_eq_false_iff_not]; omega
        clear h2
        by_cases h64 : xl = 64
        case neg =>
          have q4 : ((xl : Int) == 64) = false := by rw [beq_eq_false_iff_ne]; omega
          have q5 : ((xl : Int) != 64) = true := by simp [bne, q4]
          have HR1 : Hid (rJ [] (E.map jnl) = 1) := by show _ = _; rw [HST.out, if_pos (Or.inr (Or.inr h64))]
          clear h20 h28 h64
          go_wp2
          go_quiet ((go_at_call 38; exact Calls.quiet_of_same (HSZ.out _)))
          go_wp2
          go_ret
          rw [HI.out, HR1.out]
          exact ⟨rfl, below_dr HBA.out _⟩
        subst h64
        have HST2 : Hid (rJ [] (E.map jnl) = if ((E.take k).map fun x => x.n).contains xn = true then 5 else rJ (((E.take k).map fun x => x.n) ++ [xn]) ((E.drop (k + 1)).map jnl)) := by
          show _ = _
          rw [HST.out, if_neg (by intro h; rcases h with h | h | h; exact h20 h; exact h28 h; exact h rfl)]
        clear h20 h28 HST
        obtain ⟨cb, Hcb⟩ : ∃ b, Hid (((E.take k).map fun x => x.n).contains xn = b) := ⟨_, rfl⟩
        rw [Hcb.out] at HST2
        have HKEY : Hid (keyOf Try.prog 3 (.int .i64 (xn : Int)) = some (keyL xn)) := keyOf_int_mk (by kernel_rfl) (wf_nat xn hx256)
        go_wp2
        go_quiet ((go_at_call 38; exact Calls.quiet_of_same (HSZ.out _)))
        have HBW : Hid (Below w.heap.size w ((wr.alloc (.cells #[.int .i64 (xn : Int), .slice px 64 cx] 44)).drewN nq)) := below_dr HBA.out nq
        have HMA : Hid (((wr.alloc (.cells #[.int .i64 (xn : Int), .slice px 64 cx] 44)).drewN nq).ownsMap Try.prog 3 RV w.heap.size k (mapS ((E.take k).map fun x => x.n))) := HM.out.alloc _
        have x0 : ((wr.alloc (.cells #[.int .i64 (xn : Int), .slice px 64 cx] 44)).drewN nq).cell? ⟨wr.heap.size, 0, none⟩ = some (.int .i64 (xn : Int)) := cell_of_row _ _ _ _ _ _ (heap_alloc_new wr _)
        have xz : wr.heap.size < ((wr.alloc (.cells #[.int .i64 (xn : Int), .slice px 64 cx] 44)).drewN nq).heap.size := by simp [World.drewN]
        obtain ⟨vb, psb, hrun, hvb⟩ := HMA.out.lookup (t := 105) (e := 4) intKeyed mapIB (z := .bool false) (by kernel_rfl) (zd := .held (.bool false)) (zp := []) rfl HKEY.out
        rw [mapS_at, Hcb.out] at hvb
        have hvb2 : vb = .bool cb := by
          unfold RV at hvb
          simp at hvb
          exact hvb.1
        rw [hvb2] at hrun
        generalize (wr.alloc (.cells #[.int .i64 (xn : Int), .slice px 64 cx] 44)).drewN nq = w5 at *
        have hz5 : w.heap.size ≤ w5.heap.size := HBW.out.size
        clear hvb hvb2 c0 c1 l0 l1 l2
        cases cb with
        | true =>
          have HR1 : Hid (rJ [] (E.map jnl) = 5) := by show _ = _; rw [HST2.out, if_pos rfl]
          go_wp2
          go_ret
          rw [HI.out, HR1.out]
          exact ⟨rfl, HBW.out⟩
        | false =>
          have HR1 : Hid (rJ [] (E.map jnl) = rJ ((E.take (k + 1)).map fun x => x.n) ((E.drop (k + 1)).map jnl)) := by show _ = _; rw [HST2.out, if_neg (by simp), HTK.out]
          go_wp2_with (at_mapUpdate; refine wpList_mapUpdate_own _ rfl _ _ _ 105 rfl 3 4 intKeyed mapIB RV w.heap.size k (mapS ((E.take k).map fun x => x.n)) rfl HMA.out (by unfold maxLen; omega) _ _ (keyL xn) rfl rfl HKEY.out _ [] rfl ?_; intro w6 hown hgrow)
          have HM6 : Hid (w6.ownsMap Try.prog 3 RV w.heap.size (k + 1) (mapS ((E.take (k + 1)).map fun x => x.n))) := by show World.ownsMap _ _ _ _ _ _ _; rw [HTK.out, mapS_snoc]; exact hown
          have HB6 : Hid (Below w.heap.size w w6) := HBW.out.grown hgrow hz5 (by intro r hr; simp at hr; omega)
          clear hown hgrow
          go_wp2
          go_roundw
          case rel => exact ⟨k + 1, by omega, by go_num, HM6, HR1, HB6⟩
          case measure => simp [intOf]; omega
      · have q2 : decide ((2 : Int) ≤ (xn : Int)) = true := by rw [decide_eq_true_iff]; omega
        have q2' : decide (2 ≤ xn) = true := by rw [decide_eq_true_iff]; omega
        have q3 : decide ((xn : Int) < 8) = false := by rw [decide_eq_false_iff_not]; omega
        have q3' : decide (xn < 8) = false := by rw [decide_eq_false_iff_not]; omega
        clear h2
        by_cases h64 : xl = 64
        case neg =>
          have q4 : ((xl : Int) == 64) = false := by rw [beq_eq_false_iff_ne]; omega
          have q5 : ((xl : Int) != 64) = true := by simp [bne, q4]
          have HR1 : Hid (rJ [] (E.map jnl) = 1) := by show _ = _; rw [HST.out, if_pos (Or.inr (Or.inr h64))]
          clear h20 h28 h64
          go_wp2
          go_quiet ((go_at_call 38; exact Calls.quiet_of_same (HSZ.out _)))
          go_wp2
          go_ret
          rw [HI.out, HR1.out]
          exact ⟨rfl, below_dr HBA.out _⟩
        subst h64
        have HST2 : Hid (rJ [] (E.map jnl) = if ((E.take k).map fun x => x.n).contains xn = true then 5 else rJ (((E.take k).map fun x => x.n) ++ [xn]) ((E.drop (k + 1)).map jnl)) := by
          show _ = _
          rw [HST.out, if_neg (by intro h; rcases h with h | h | h; exact h20 h; exact h28 h; exact h rfl)]
        clear h20 h28 HST
        obtain ⟨cb, Hcb⟩ : ∃ b, Hid (((E.take k).map fun x => x.n).contains xn = b) := ⟨_, rfl⟩
        rw [Hcb.out] at HST2
        have HKEY : Hid (keyOf Try.prog 3 (.int .i64 (xn : Int)) = some (keyL xn)) := keyOf_int_mk (by kernel_rfl) (wf_nat xn hx256)
        go_wp2
        go_quiet ((go_at_call 38; exact Calls.quiet_of_same (HSZ.out _)))
        have HBW : Hid (Below w.heap.size w ((wr.alloc (.cells #[.int .i64 (xn : Int), .slice px 64 cx] 44)).drewN nq)) := below_dr HBA.out nq
        have HMA : Hid (((wr.alloc (.cells #[.int .i64 (xn : Int), .slice px 64 cx] 44)).drewN nq).ownsMap Try.prog 3 RV w.heap.size k (mapS ((E.take k).map fun x => x.n))) := HM.out.alloc _
        have x0 : ((wr.alloc (.cells #[.int .i64 (xn : Int), .slice px 64 cx] 44)).drewN nq).cell? ⟨wr.heap.size, 0, none⟩ = some (.int .i64 (xn : Int)) := cell_of_row _ _ _ _ _ _ (heap_alloc_new wr _)
        have xz : wr.heap.size < ((wr.alloc (.cells #[.int .i64 (xn : Int), .slice px 64 cx] 44)).drewN nq).heap.size := by simp [World.drewN]
        obtain ⟨vb, psb, hrun, hvb⟩ := HMA.out.lookup (t := 105) (e := 4) intKeyed mapIB (z := .bool false) (by kernel_rfl) (zd := .held (.bool false)) (zp := []) rfl HKEY.out
        rw [mapS_at, Hcb.out] at hvb
        have hvb2 : vb = .bool cb := by
          unfold RV at hvb
          simp at hvb
          exact hvb.1
        rw [hvb2] at hrun
        generalize (wr.alloc (.cells #[.int .i64 (xn : Int), .slice px 64 cx] 44)).drewN nq = w5 at *
        have hz5 : w.heap.size ≤ w5.heap.size := HBW.out.size
        clear hvb hvb2 c0 c1 l0 l1 l2
        cases cb with
        | true =>
          have HR1 : Hid (rJ [] (E.map jnl) = 5) := by show _ = _; rw [HST2.out, if_pos rfl]
          go_wp2
          go_ret
          rw [HI.out, HR1.out]
          exact ⟨rfl, HBW.out⟩
        | false =>
          have HR1 : Hid (rJ [] (E.map jnl) = rJ ((E.take (k + 1)).map fun x => x.n) ((E.drop (k + 1)).map jnl)) := by show _ = _; rw [HST2.out, if_neg (by simp), HTK.out]
          go_wp2_with (at_mapUpdate; refine wpList_mapUpdate_own _ rfl _ _ _ 105 rfl 3 4 intKeyed mapIB RV w.heap.size k (mapS ((E.take k).map fun x => x.n)) rfl HMA.out (by unfold maxLen; omega) _ _ (keyL xn) rfl rfl HKEY.out _ [] rfl ?_; intro w6 hown hgrow)
          have HM6 : Hid (w6.ownsMap Try.prog 3 RV w.heap.size (k + 1) (mapS ((E.take (k + 1)).map fun x => x.n))) := by show World.ownsMap _ _ _ _ _ _ _; rw [HTK.out, mapS_snoc]; exact hown
          have HB6 : Hid (Below w.heap.size w w6) := HBW.out.grown hgrow hz5 (by intro r hr; simp at hr; omega)
          clear hown hgrow
          go_wp2
          go_roundw
          case rel => exact ⟨k + 1, by omega, by go_num, HM6, HR1, HB6⟩
          case measure => simp [intOf]; omega
    · have HF : Hid (rJ [] (E.map jnl) = 0) := by
        show _ = _
        rw [HRJ.out, List.drop_of_length_le (by rw [HN.out]; omega)]
        rfl
      go_wp2
      go_ret
      rw [HI.out, HF.out]
      exact ⟨rfl, HB.out⟩

end Go.Proofs.Ytdcplaonafmbjaa
