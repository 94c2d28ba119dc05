/- What a crash leaves of commits, plainly: states, and what is recovered. -/
import Derived.Test.YtdcplaonafmbjaaJOps
import Derived.Test.YtdcplaonafmbjaaJState
namespace Go.Proofs.Ytdcplaonafmbjaa
open Go.RowKit

def LB (L : List Wr) : Prop := ∀ x ∈ L, x.2.length = 64 ∧ ByteL x.2
def dat (N : List Int) : List Int := N.drop 640
def recD (N : List Int) : List Int := dat (foldN N (openL N))

theorem sec_dat (N : List Int) (m : Nat) : sec (dat N) m = sec N (m + 10) := by
  unfold sec dat
  rw [List.drop_drop, show 640 + 64 * m = 64 * (m + 10) by omega]
theorem dat_len {N : List Int} (h : N.length = 64 * 20) : (dat N).length = 64 * 10 := by unfold dat; rw [List.length_drop, h]
theorem dat_eq {N N' : List Int} (h : N.length = 64 * 20) (h' : N'.length = 64 * 20) (he : ∀ m, 10 ≤ m → m < 20 → sec N m = sec N' m) : dat N = dat N' :=
  sec_ext (dat_len h) (dat_len h') fun m hm => by rw [sec_dat, sec_dat]; exact he _ (by omega) (by omega)
theorem dat_put {N : List Int} {n : Nat} {D : List Int} (h : N.length = 64 * 20) (hn : 10 ≤ n) (hn2 : n < 20) (hD : D.length = 64) : dat (putS N n D) = putS (dat N) (n - 10) D := by
  refine sec_ext (dat_len (putS_len h hn2 hD)) (putS_len (dat_len h) (by omega) hD) fun m hm => ?_
  rw [sec_dat]
  by_cases e : m + 10 = n
  · rw [e, sec_put_same h hn2 hD, show m = n - 10 by omega, sec_put_same (dat_len h) (by omega) hD]
  · rw [sec_put_other h hn2 (by omega) hD e, sec_put_other (dat_len h) (by omega) hm hD (by omega), sec_dat]
theorem dat_fold {L : List Wr} : ∀ {N : List Int}, N.length = 64 * 20 → (∀ x ∈ L, 10 ≤ x.1 ∧ x.1 < 20) → LB L → dat (foldN N L) = aftF (dat N) L := by
  induction L with
  | nil => intro N _ _ _; rfl
  | cons x L ih =>
    intro N hN h1 h2
    have hx := h1 x (by simp)
    have hb := h2 x (by simp)
    have := ih (putS_len hN hx.2 hb.1) (fun y hy => h1 y (by simp [hy])) (fun y hy => h2 y (by simp [hy]))
    rw [dat_put hN hx.1 hx.2 hb.1] at this
    exact this
theorem bytes_of_secs {C : List Int} (h : C.length = 64 * 20) (hs : ∀ m, m < 20 → ByteL (sec C m)) : ByteL C := by
  intro x hx
  obtain ⟨j, hj, rfl⟩ := List.getElem_of_mem hx
  refine hs (j / 64) (by omega) _ ?_
  rw [List.mem_iff_getElem?]
  refine ⟨j % 64, ?_⟩
  unfold sec
  rw [List.getElem?_take, if_pos (Nat.mod_lt _ (by omega)), List.getElem?_drop, show 64 * (j / 64) + j % 64 = j by omega, List.getElem?_eq_getElem hj]
theorem sec_all_eq {C C' : List Int} (h : C.length = 64 * 20) (h' : C'.length = 64 * 20) (hs : ∀ m, m < 20 → sec C m = sec C' m) : C = C' := sec_ext h h' hs

/-- A disk of 20 sectors with power: what is read is what lasts or what waits. -/
structure DkW (st : Dk) : Prop where
  fu : st.fu = -1
  s : st.S.length = 64 * 20
  n : st.N.length = 64 * 20
  w : ∀ x ∈ st.W, x.1 < 20 ∧ x.2.length = 64 ∧ ByteL x.2
  bs : ByteL st.S
  bn : ByteL st.N
  mix : ∀ m, m < 20 → sec st.N m = sec st.S m ∨ (m, sec st.N m) ∈ st.W
/-- What may be there behind a crash. -/
structure Mix (st : Dk) (C : List Int) : Prop where
  len : C.length = 64 * 20
  b : ByteL C
  mix : ∀ m, m < 20 → sec C m = sec st.S m ∨ (m, sec C m) ∈ st.W
theorem DkW.on {st : Dk} (h : DkW st) : On st 20 := ⟨h.fu, h.n⟩
theorem DkW.self {st : Dk} (h : DkW st) : Mix st st.N := ⟨h.n, h.bn, h.mix⟩
theorem doE_bar {st : Dk} (h : DkW st) : doE st barR = { S := st.N, N := st.N, W := [], fu := -1 } := by
  unfold doE barR; rw [if_pos rfl]; exact flush_on h.on
theorem doE_wr {st : Dk} (h : DkW st) (n : Nat) (D : List Int) : doE st (n, D, false) = { S := st.S, N := putS st.N n D, W := st.W ++ [(n, D)], fu := -1 } := by
  unfold doE; rw [if_neg (by simp)]; exact write_on h.on n D
theorem ByteL.put {N D : List Int} (h : ByteL N) (hD : ByteL D) (n : Nat) : ByteL (putS N n D) := by
  intro x hx
  unfold putS at hx
  rcases List.mem_append.1 hx with hx | hx
  · exact h x (List.mem_of_mem_take hx)
  · rcases List.mem_append.1 hx with hx | hx
    · exact hD x hx
    · exact h x (List.mem_of_mem_drop hx)
theorem DkW.bar {st : Dk} (h : DkW st) : DkW (doE st barR) := by
  rw [doE_bar h]
  exact ⟨rfl, h.n, h.n, fun x hx => by simp at hx, h.bn, h.bn, fun m _ => Or.inl rfl⟩
theorem DkW.wr {st : Dk} (h : DkW st) {n : Nat} {D : List Int} (hn : n < 20) (hD : D.length = 64) (hb : ByteL D) : DkW (doE st (n, D, false)) := by
  rw [doE_wr h]
  refine ⟨rfl, h.s, putS_len h.n hn hD, fun x hx => ?_, h.bs, h.bn.put hb n, fun m hm => ?_⟩
  · rcases List.mem_append.1 hx with hx | hx
    · exact h.w x hx
    · rw [List.mem_singleton] at hx; subst hx; exact ⟨hn, hD, hb⟩
  · by_cases e : m = n
    · subst e
      refine Or.inr ?_
      show (m, sec (putS st.N m D) m) ∈ st.W ++ [(m, D)]
      rw [sec_put_same h.n hn hD]
      simp
    · show sec (putS st.N n D) m = _ ∨ (m, sec (putS st.N n D) m) ∈ st.W ++ [(n, D)]
      rw [sec_put_other h.n hn hm hD e]
      rcases h.mix m hm with h1 | h1
      · exact Or.inl h1
      · exact Or.inr (List.mem_append_left _ h1)
theorem crash_secs : ∀ (W : List (Nat × List Int)) (S : List Int) (K : List Bool), S.length = 64 * 20 → (∀ x ∈ W, x.1 < 20 ∧ x.2.length = 64) → (crashS S W K).length = 64 * 20 ∧ ∀ m, m < 20 → sec (crashS S W K) m = sec S m ∨ (m, sec (crashS S W K) m) ∈ W
  | [], S, K, hS, _ => by simp [crashS, hS]
  | (n, D) :: W, S, [], hS, _ => by simp [crashS, hS]
  | (n, D) :: W, S, b :: K, hS, hW => by
    have hn := hW (n, D) (by simp)
    simp only at hn
    have hl : (if b then putS S n D else S).length = 64 * 20 := by split; exact putS_len hS hn.1 hn.2; exact hS
    have ih := crash_secs W (if b then putS S n D else S) K hl (fun x hx => hW x (by simp [hx]))
    unfold crashS
    refine ⟨ih.1, fun m hm => ?_⟩
    rcases ih.2 m hm with h | h
    · rw [h]
      by_cases hb : b = true
      · rw [if_pos hb]
        by_cases e : m = n
        · subst e; rw [sec_put_same hS hn.1 hn.2]; exact Or.inr (by simp)
        · rw [sec_put_other hS hn.1 hm hn.2 e]; exact Or.inl rfl
      · rw [if_neg hb]; exact Or.inl rfl
    · exact Or.inr (List.mem_cons_of_mem _ h)
theorem DkW.crash {st : Dk} (h : DkW st) (K : List Bool) : Mix st (crashS st.S st.W K) := by
  have hc := crash_secs st.W st.S K h.s fun x hx => ⟨(h.w x hx).1, (h.w x hx).2.1⟩
  refine ⟨hc.1, bytes_of_secs hc.1 fun m hm => ?_, hc.2⟩
  rcases hc.2 m hm with e | e
  · rw [e]; exact h.bs.sec m
  · exact (h.w _ e).2.2
theorem fresh_dkw : DkW (freshE 20) := by
  have hb : ByteL (List.replicate (64 * 20) 0) := fun x hx => by rw [List.mem_replicate] at hx; omega
  exact ⟨rfl, List.length_replicate, List.length_replicate, fun x hx => by exact absurd hx List.not_mem_nil, hb, hb, fun m _ => Or.inl rfl⟩

/-- What is recovered is good, whatever is there behind a crash. -/
def Good (A : List Int → Prop) (st : Dk) : Prop := ∀ C, Mix st C → GoodL (openL C) ∧ A (recD C)
theorem Good.mono {A B : List Int → Prop} {st : Dk} (h : Good A st) (hA : ∀ X, A X → B X) : Good B st := fun C hC => ⟨(h C hC).1, hA _ (h C hC).2⟩
def Path (A : List Int → Prop) : Dk → List Rb → Prop
  | st, [] => Good A st
  | st, x :: l => Good A st ∧ Path A (doE st x) l
theorem Path.mono {A B : List Int → Prop} (hA : ∀ X, A X → B X) : ∀ {l : List Rb} {st : Dk}, Path A st l → Path B st l
  | [], _, h => Good.mono h hA
  | _ :: _, _, h => ⟨h.1.mono hA, Path.mono hA h.2⟩
theorem Path.app {A : List Int → Prop} {b : List Rb} : ∀ {a : List Rb} {st : Dk}, Path A st a → Path A (runE st a) b → Path A st (a ++ b)
  | [], _, _, h => h
  | _ :: _, _, h, h2 => ⟨h.1, Path.app h.2 h2⟩
theorem Path.good {A : List Int → Prop} : ∀ {l : List Rb} {st : Dk}, Path A st l → ∀ j, Good A (runE st (l.take j))
  | [], _, h, j => by rw [List.take_nil]; exact h
  | _ :: _, _, h, 0 => h.1
  | _ :: _, _, h, j + 1 => Path.good h.2 j

/-- The journal's region: what stands there. -/
structure Told (N : List Int) (sq : Int) (L : List Wr) : Prop where
  hd : sec N 2 = headW sq L
  mid : ∀ (i : Nat) (hi : i < L.length), sec N (3 + i) = L[i].2
  tl : sec N (3 + L.length) = tailW sq (sumW L)
theorem hB_set_ne (D : List Int) (i j : Nat) (x : Int) (h : i ≠ j) : hB (D.set i x) j = hB D j := by
  unfold hB; rw [List.getD_eq_getElem?_getD, List.getD_eq_getElem?_getD, List.getElem?_set_ne h]
theorem hB_set_eq (D : List Int) (i : Nat) (x : Int) (h : i < D.length) : hB (D.set i x) i = x := by
  unfold hB; rw [List.getD_eq_getElem?_getD, List.getElem?_set_self h]; rfl
theorem head_low (sq : Int) (L : List Wr) (j : Nat) (hj : j < 6) : ∀ k, hB (headK sq L k) j = hB (headK sq L 0) j
  | 0 => rfl
  | k + 1 => by
    show hB ((headK sq L k).set (6 + k) _) j = _
    rw [hB_set_ne _ _ _ _ (by omega)]; exact head_low sq L j hj k
theorem head_num (sq : Int) (L : List Wr) (hl : L.length ≤ 4) (i : Nat) (hi : i < L.length) : ∀ k, i < k → k ≤ L.length → hB (headK sq L k) (6 + i) = ((L[i].1 : Nat) : Int)
  | 0, h, _ => by omega
  | k + 1, h, h2 => by
    rw [headK]
    by_cases e : i = k
    · subst e
      rw [hB_set_eq _ _ _ (by rw [headK_len]; omega), List.getElem?_eq_getElem hi]; rfl
    · rw [hB_set_ne _ _ _ _ (by omega)]
      exact head_num sq L hl i hi k (by omega) (by omega)
theorem head_zero (sq : Int) (L : List Wr) : hB (headK sq L 0) 0 = 74 ∧ hB (headK sq L 0) 5 = (L.length : Int) ∧ hB (headK sq L 0) 1 = sq % 256 ∧ hB (headK sq L 0) 2 = sq / 256 % 256 ∧ hB (headK sq L 0) 3 = sq / 65536 % 256 ∧ hB (headK sq L 0) 4 = sq / 16777216 := ⟨rfl, rfl, rfl, rfl, rfl, rfl⟩
theorem tail_bytes (sq sm : Int) : hB (tailW sq sm) 0 = 67 ∧ (hB (tailW sq sm) 1 = sq % 256 ∧ hB (tailW sq sm) 2 = sq / 256 % 256 ∧ hB (tailW sq sm) 3 = sq / 65536 % 256 ∧ hB (tailW sq sm) 4 = sq / 16777216) ∧ hB (tailW sq sm) 5 = sm % 256 ∧ hB (tailW sq sm) 6 = sm / 256 % 256 ∧ hB (tailW sq sm) 7 = sm / 65536 % 256 ∧ hB (tailW sq sm) 8 = sm / 16777216 := ⟨rfl, ⟨rfl, rfl, rfl, rfl⟩, rfl, rfl, rfl, rfl⟩
theorem open_nohead {N : List Int} (h : sec N 2 = zS) : openL N = [] ∧ scanH N = false := by
  have h0 : scanH N = false := by
    unfold scanH
    rw [h, show hB zS 0 = 0 from rfl]; rfl
  refine ⟨?_, h0⟩
  unfold openL okO
  rw [h0]; rfl
theorem scan_head {N : List Int} {sq : Int} {L : List Wr} (h : sec N 2 = headW sq L) (h0 : 0 < L.length) (hl : L.length ≤ 4) (hs : 0 ≤ sq ∧ sq < 4294967296) : scanH N = true ∧ scanN N = L.length ∧ scanSeq N = sq := by
  obtain ⟨e0, e5, e1, e2, e3, e4⟩ := head_zero sq L
  have low : ∀ j, j < 6 → hB (sec N 2) j = hB (headK sq L 0) j := fun j hj => by rw [h]; exact head_low sq L j hj _
  have hn : scanN N = L.length := by unfold scanN; rw [low 5 (by omega), e5]; exact Int.toNat_natCast _
  refine ⟨?_, hn, ?_⟩
  · unfold scanH
    rw [hn, low 0 (by omega), e0, decide_eq_true (show 1 ≤ L.length by omega), decide_eq_true hl]
    rfl
  · unfold scanSeq
    rw [low 1 (by omega), low 2 (by omega), low 3 (by omega), low 4 (by omega), e1, e2, e3, e4]
    exact rd_word sq hs.1 hs.2
theorem open_half {N : List Int} {sq : Int} {L : List Wr} (h : sec N 2 = headW sq L) (h0 : 0 < L.length) (hl : L.length ≤ 4) (hs : 0 ≤ sq ∧ sq < 4294967296) (ht : sec N (3 + L.length) = zS) : openL N = [] := by
  obtain ⟨_, hn, _⟩ := scan_head h h0 hl hs
  have h1 : scanT N = false := by
    unfold scanT
    rw [hn, ht, show hB zS 0 = 0 from rfl]; rfl
  unfold openL okO
  rw [h1, Bool.and_false]; rfl
theorem open_told {N : List Int} {sq : Int} {L : List Wr} (h : Told N sq L) (h0 : 0 < L.length) (hg : GoodL L) (hs : 0 ≤ sq ∧ sq < 4294967296) : openL N = L ∧ scanH N = true ∧ scanT N = true ∧ scanSeq N = sq ∧ scanK N (scanN N) = L := by
  obtain ⟨hH, hn, hq⟩ := scan_head h.hd h0 hg.l hs
  have hK : scanK N L.length = L := by
    refine List.ext_getElem (scanK_len _ _) fun i h1 h2 => ?_
    have e : (scanK N L.length)[i] = ((hB (sec N 2) (6 + i)).toNat, sec N (3 + i)) := by
      simp only [scanK, List.getElem_map, List.getElem_range]
    rw [e]
    refine Prod.ext ?_ ?_
    · show (hB (sec N 2) (6 + i)).toNat = L[i].1
      rw [h.hd]
      unfold headW
      rw [head_num sq L hg.l i h2 _ h2 (Nat.le_refl _)]
      exact Int.toNat_natCast _
    · exact h.mid i h2
  have hT : scanT N = true := by
    obtain ⟨e0, ⟨e1, e2, e3, e4⟩, e5, e6, e7, e8⟩ := tail_bytes sq (sumW L)
    have hsm := sumW_in L
    unfold scanT
    rw [hn, h.tl, e0, e1, e2, e3, e4, e5, e6, e7, e8, hK, rd_word sq hs.1 hs.2, rd_word _ hsm.1 hsm.2, hq]
    simp
  refine ⟨?_, hH, hT, hq, by rw [hn]; exact hK⟩
  unfold openL okO
  rw [hH, hT, hn, hK]; rfl
theorem openL_congr {N N' : List Int} (h : ∀ m, m < 10 → sec N m = sec N' m) : openL N = openL N' := by
  have e2 := h 2 (by omega)
  have hH : scanH N = scanH N' := by unfold scanH scanN; rw [e2]
  have hn : scanN N = scanN N' := by unfold scanN; rw [e2]
  unfold openL okO
  cases hx : scanH N' with
  | false => rw [hH, hx]; rfl
  | true =>
    have h4 : scanN N' ≤ 4 := by
      unfold scanH at hx
      simp only [Bool.and_eq_true, decide_eq_true_eq] at hx
      exact hx.2
    have hK : scanK N (scanN N) = scanK N' (scanN N') := by
      rw [hn]
      unfold scanK
      refine List.map_congr_left fun i hi => ?_
      rw [List.mem_range] at hi
      rw [e2, h (3 + i) (by omega)]
    have hT : scanT N = scanT N' := by
      unfold scanT scanSeq
      rw [hK, hn, e2, h (3 + scanN N') (by omega)]
    rw [hH, hx, hT, hK]
theorem rec_none {C : List Int} (h : openL C = []) : recD C = dat C := by unfold recD; rw [h]; rfl
theorem good_wr {L : List Wr} (hg : GoodL L) (hb : LB L) : ∀ x ∈ L, WrOk 20 x := fun x hx => ⟨(hg.n x hx).2, (hb x hx).1⟩
theorem rec_same {C C' : List Int} {L : List Wr} (h : C.length = 64 * 20) (h' : C'.length = 64 * 20) (hg : GoodL L) (hb : LB L) (he : ∀ m, 10 ≤ m → m < 20 → lastD L m = none → sec C m = sec C' m) : dat (foldN C L) = dat (foldN C' L) := by
  have hw := good_wr hg hb
  refine dat_eq (foldN_len L h hw) (foldN_len L h' hw) fun m h1 h2 => ?_
  rw [foldN_sec h hw m h2, foldN_sec h' hw m h2]
  cases hl : lastD L m with
  | none => exact he m h1 h2 hl
  | some D => rfl
theorem lastD_none_of {W : List (Nat × List Int)} {L : List Wr} (hW : ∀ x ∈ W, x ∈ L) {m : Nat} (h : lastD L m = none) (D : List Int) : (m, D) ∉ W := fun hc => (lastD_none L m).1 h _ (hW _ hc) rfl

end Go.Proofs.Ytdcplaonafmbjaa
