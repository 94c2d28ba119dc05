/- part: the requests between two barriers as the head goes over them. -/
import Derived.Test.YtdcplaonafmbjaaLiftMap
import Derived.Test.YtdcplaonafmbjaaHeldStep
import Derived.Carry
namespace Go.Proofs.Ytdcplaonafmbjaa
open Go.RowKit Go.Maps

theorem reqsT : Try.prog.underlying 78 = some (.slice 81) := by kernel_rfl
theorem reqInfo : (Try.prog.info? 81).map (fun i => (i.zero, i.size, i.bytes)) = some (some (.agg #[.int .i64 0, .slice none 0 0, .bool false]), 3, 40) := by kernel_rfl
theorem reqMapT : Try.prog.underlying 123 = some (.map 3 42) := by kernel_rfl
theorem intKeyed : Keyed Try.prog 3 := int_keyed (q := .i64) (by kernel_rfl)

theorem wf_nat (n : Nat) (h : n < 256) : (Lit.int .i64 (n : Int)).wf = true := by
  simp [Lit.wf, IntKind.min, IntKind.max, IntKind.signed, IntKind.bits]; omega

/-- What SortFunc makes of part's list. -/
def SortSaid : Prop := ∀ (gh h base : Nat) (v : Value) (O : List Rk) (W : World), h < 256 → W.ownsRow base 81 3 v O.length (O.flatMap encK) → W.heap[gh]? = some (.cells #[.int .i64 (h : Int)] 3 (0, 0)) → O.length ≤ 1000000 →
  Calls Try.prog 74 #[v, .func (.func 75) #[] #[.pointer (some ⟨gh, 0, none⟩)]] W fun e w' => e = .returned (.tuple #[]) ∧
    ∃ O' : List Rk, O'.Perm O ∧ O'.Pairwise (fun a b => farN h (a.1 % 256) ≤ farN h (b.1 % 256)) ∧ w'.ownsRow base 81 3 v O'.length (O'.flatMap encK) ∧ W.grownBy w' v.ownBlock

def toRq (R : List Wr) (x : Rk) : Rq := ⟨x.1, .slice (some ⟨x.2.1, 0, none⟩) 64 x.2.2, (lastD R x.1).getD [], false⟩
theorem toRq_cells {R : List Wr} {O : List Rk} (h : ∀ x ∈ O, x.1 < 256) : rcells (O.map (toRq R)) = O.flatMap encK := by
  induction O with
  | nil => rfl
  | cons x O ih =>
    rw [List.map_cons, rcells_cons, List.flatMap_cons, ih fun y hy => h y (by simp [hy])]
    congr 1
    show [_, _, _] = [_, _, _]
    rw [Nat.mod_eq_of_lt (h x (by simp))]
    rfl
theorem toRq_emit {R : List Wr} {O : List Rk} : (O.map (toRq R)).map rab = emit (O.map fun x => (x.1, (lastD R x.1).getD [])) := by
  unfold emit
  rw [List.map_map, List.map_map]
  rfl
theorem part_fin {R : List Wr} {h base : Nat} {w : World} {left : Lit → Bool} {O O' : List Rk} (hh : h < 256) (_hR : ∀ n D, lastD R n = some D → n < 256) (ho : OutOk R base w left O) (hl : ∀ kl, left kl = false) (hp : O'.Perm O) (hs : O'.Pairwise fun a b => farN h (a.1 % 256) ≤ farN h (b.1 % 256)) :
    (O'.map fun x => (x.1, (lastD R x.1).getD [])) = partF R h := by
  have hlt : ∀ x ∈ O', x.1 < 256 := fun x hx => (ho.el x (hp.mem_iff.1 hx)).1
  have hnd : (O'.map fun x => x.1).Nodup := (hp.map fun x => x.1).nodup_iff.2 ho.nd
  refine part_uniq hh ?_ fun x => ?_
  · rw [List.pairwise_map]
    rw [List.Nodup, List.pairwise_map] at hnd
    have hboth := List.Pairwise.and hs hnd
    refine hboth.imp_of_mem ?_
    intro a b ha hb hab
    have h1 := hlt a ha
    have h2 := hlt b hb
    have h3 := hab.1
    rw [Nat.mod_eq_of_lt h1, Nat.mod_eq_of_lt h2] at h3
    show farN h a.1 < farN h b.1
    rcases Nat.lt_or_eq_of_le h3 with h4 | h4
    · exact h4
    · exact absurd (far_inj hh h1 h2 h4) hab.2
  · constructor
    · intro hx
      obtain ⟨y, hy, rfl⟩ := List.mem_map.1 hx
      obtain ⟨h1, D, cur, h2, _⟩ := ho.el y (hp.mem_iff.1 hy)
      exact ⟨h1, by rw [h2]; rfl⟩
    · rintro ⟨h1, h2⟩
      rcases ho.all x.1 x.2 h2 with h3 | h3
      · rw [hl] at h3; cases h3
      · have h4 := (hp.map fun x => x.1).mem_iff.2 h3
        obtain ⟨y, hy, hy2⟩ := List.mem_map.1 h4
        refine List.mem_map.2 ⟨y, hy, ?_⟩
        rw [hy2, h2]
        rfl
theorem last_lt {E : List Rq} (h : ∀ x ∈ E, x.n < 256) : ∀ n D, lastD (wrs E) n = some D → n < 256 := by
  intro n D hn
  obtain ⟨x, hx, e⟩ := List.mem_map.1 (lastD_mem _ n D hn)
  have := h x hx
  have e2 : x.n = n := by injection e
  omega

theorem own_ne_map {w : World} {base : Nat} {e : TypeId} {size n : Nat} {v : Value} {xs : List Value} {b : Nat} {es : Array MapEntry} {c : Nat} (h : w.ownsRow base e size v n xs) (hb : w.heap[b]? = some (.map es c)) : v.ownBlock ≠ some b := by
  rcases h.2 with ⟨rfl, _⟩ | ⟨g', cap, cur, rfl, _, hh, _⟩
  · simp [Value.ownBlock]
  · intro he
    have : g' = b := by simpa [Value.ownBlock] using he
    subst this
    rw [hb] at hh; cases hh
theorem own_ne_iter {w : World} {base : Nat} {e : TypeId} {size n : Nat} {v : Value} {xs : List Value} {b : Nat} {m : Option Nat} {s : Nat} {sn : Array Nat} {c : Nat} (h : w.ownsRow base e size v n xs) (hb : w.heap[b]? = some (.mapIter m s sn c)) : v.ownBlock ≠ some b := by
  rcases h.2 with ⟨rfl, _⟩ | ⟨g', cap, cur, rfl, _, hh, _⟩
  · simp [Value.ownBlock]
  · intro he
    have : g' = b := by simpa [Value.ownBlock] using he
    subst this
    rw [hb] at hh; cases hh
theorem ranges_ne {w : World} {base : Nat} {e : TypeId} {size n : Nat} {v : Value} {xs : List Value} {b r m cnt : Nat} {D : DataW Value} {left : Lit → Bool} (h : w.ownsRow base e size v n xs) (hr : w.ranges Try.prog 3 RV b r m D left cnt) : some b ≠ v.ownBlock ∧ some r ≠ v.ownBlock := by
  obtain ⟨es, clock, since, seen, c0, hb, _, _, _, hr, _⟩ := hr
  exact ⟨fun e => own_ne_map h hb e.symm, fun e => own_ne_iter h hr e.symm⟩
theorem ranges_block {w : World} {b r m cnt : Nat} {D : DataW Value} {left : Lit → Bool} (hr : w.ranges Try.prog 3 RV b r m D left cnt) : ∃ o, w.heap[r]? = some o ∧ ∀ c t f, o ≠ .cells c t f := by
  obtain ⟨es, clock, since, seen, c0, hb, _, _, _, hr, _⟩ := hr
  exact ⟨_, hr, fun c t f h => by cases h⟩
theorem outOk_len {R : List Wr} {base : Nat} {w : World} {left : Lit → Bool} {O : List Rk} (h : OutOk R base w left O) : O.length ≤ 256 := by
  have := nodup_sub_len (B := List.range 256) h.nd fun n hn => by
    obtain ⟨x, hx, rfl⟩ := List.mem_map.1 hn
    exact List.mem_range.2 (h.el x hx).1
  simpa using this
theorem encK_append (O : List Rk) (x : Rk) : (O ++ [x]).flatMap encK = O.flatMap encK ++ encK x := by simp
theorem inv_key : ∀ (key : Value) (kl : Lit), keyOf Try.prog 3 key = some kl → ∃ x : Int, key = .int .i64 x := fun key kl h => by
  obtain ⟨x, hx, _⟩ := Maps.keyOf_int_inv (q := .i64) (by kernel_rfl) h
  exact ⟨x, hx⟩

theorem grown_of_below {a b : World} (h : Below a.heap.size a b) : a.grownBy b none := ⟨h.os, h.tape, h.output, h.size, fun i hi _ => h.block i hi⟩

theorem below_dN5 {B : Nat} {a w : World} (h : Below B a w) (n : Nat) : Below B a (w.drewN n) := ⟨h.os, h.tape, h.output, h.size, h.block⟩

def PartRes (R : List Wr) (h : Nat) (w : World) (e : Ending) (w' : World) : Prop :=
  ∃ v', e = .returned (.tuple #[v', .int .i64 (headF R h : Int)]) ∧ RqsOwn w' w.heap.size v' (emit (partF R h)) ∧ Below w.heap.size w w'

set_option maxRecDepth 100000 in
set_option maxHeartbeats 4000000 in
theorem part_raw (hsort : SortSaid) (v : Value) (E : List Rq) (h : Nat) (hh : h < 256) (w : World) (hv : RowAt w v 3 E.length (rcells E)) (hE : ∀ x ∈ E, x.b = false ∧ x.n < 256 ∧ BytesAt w x.v x.D ∧ x.D.length = 64) (hl : E.length ≤ 1000) :
    Calls Try.prog 71 #[v, .int .i64 (h : Int)] w (PartRes (wrs E) h w) := by
  have HSORT : Hid SortSaid := hsort
  clear hsort
  obtain ⟨N, HN⟩ : ∃ N, Hid (E.length = N) := ⟨_, rfl⟩
  obtain ⟨p, cp, rfl, HP⟩ : ∃ p cp, v = .slice p N cp ∧ Hid (0 < N → ∃ g o, p = some ⟨g, o, none⟩ ∧ ∀ (j : Nat) (x : Value), (rcells E)[j]? = some x → w.cell? ⟨g, o + j, none⟩ = some x) := by
    rw [← HN.out]
    obtain ⟨_, ⟨h0, a0, c0, rfl⟩ | ⟨g, o, cap, rfl, hc⟩⟩ := hv
    · exact ⟨a0, c0, by rw [h0], fun h => by omega⟩
    · exact ⟨_, cap, rfl, fun _ => ⟨g, o, rfl, hc⟩⟩
  rw [HN.out] at hl
  have HE := Lib.hid hE
  clear hv hE
  obtain ⟨i0, hi0, hz0, hz1, hz2⟩ := info_parts reqInfo
  have HI := Lib.hid hi0
  have HZ0 := Lib.hid hz0
  have HZ1 := Lib.hid hz1
  have HZ2 := Lib.hid hz2
  clear hi0 hz0 hz1 hz2
  have HNW := Lib.hid (heap_alloc_new w (.cells #[.int .i64 (h : Int)] 3))
  have HOM : Hid (((w.alloc (.cells #[.int .i64 (h : Int)] 3)).alloc (.map #[] 0)).ownsMap Try.prog 3 RV (w.heap.size + 1) 0 (.map [])) := by
    have := World.ownsMap_made (w.alloc (.cells #[.int .i64 (h : Int)] 3)) Try.prog 3 RV
    rw [show (w.alloc (.cells #[.int .i64 (h : Int)] 3)).heap.size = w.heap.size + 1 by simp] at this
    exact this
  have hmm := @run_makeMap Try.prog
  go_enter Try.func71, Try.ntmps71
  go_wp2
  clear hmm
  go_loopw [8, 15] (fun _ i wr => ∃ k : Nat, k ≤ N ∧ i = .int .i64 k ∧ Hid (wr.ownsMap Try.prog 3 RV (w.heap.size + 1) k (mapD (E.take k))) ∧ Hid (wr.heap[w.heap.size]? = some (.cells #[.int .i64 (h : Int)] 3 (0, 0))) ∧ Below w.heap.size w wr) (fun _ i _ => N - (intOf i).toNat)
  case atStart =>
    refine ⟨0, Nat.zero_le _, rfl, HOM, heap_alloc_keep HNW.out _, ((Below.refl _ _).alloc (Nat.le_refl _) _).alloc (by simp) _⟩
  case round =>
    obtain ⟨k, hk, rfl, HM, HH, HB⟩ := hrel
    by_cases hlt : k < N
    · obtain ⟨g, o, rfl, hc⟩ := HP.out (by omega)
      have hkl : k < E.length := by rw [HN.out]; exact hlt
      obtain ⟨e0, e1, e2⟩ := rcells_get E k hkl
      obtain ⟨x, Hx⟩ : ∃ x, Hid (E[k] = x) := ⟨E[k], rfl⟩
      rw [Hx.out] at e0 e1 e2
      obtain ⟨hxb, hxn, hxv, hxl⟩ := HE.out x (by rw [← Hx.out]; exact List.getElem_mem hkl)
      obtain ⟨gx, ox, cx, hxs⟩ : ∃ gx ox cx, x.v = .slice (some ⟨gx, ox, none⟩) 64 cx := by
        obtain ⟨_, ⟨h0, _⟩ | ⟨g, o, cap, h1, _⟩⟩ := hxv
        · omega
        · exact ⟨g, o, cap, by rw [h1, hxl]⟩
      rw [hxs] at e1
      rw [hxb] at e2
      have keep : ∀ {x : Addr} {y : Value}, w.cell? x = some y → wr.cell? x = some y := fun h => (HB.cell (block_lt_of_cell h)).trans h
      have c0 := keep (hc _ _ e0)
      have c1 := keep (hc _ _ e1)
      have c2 := keep (hc _ _ e2)
      rw [← Nat.add_assoc] at c1 c2
      obtain ⟨xn, Hxn⟩ : ∃ q, Hid (x.n = q) := ⟨_, rfl⟩
      rw [Hxn.out] at c0 hxn
      have HT : Hid (mapD (E.take (k + 1)) = (mapD (E.take k)).put (keyL xn) (.held (.slice (some ⟨gx, ox, none⟩) 64 cx))) := by
        show _ = _
        rw [← List.take_append_getElem hkl, mapD_snoc, Hx.out, Hxn.out, hxs]
      have hlt2 : (k : Int) < (N : Int) := by omega
      have hgl : g < wr.heap.size := block_lt_of_cell c0
      have hgn : ¬ g = wr.heap.size := by omega
      have hmx := HM.out.lt
      have hwz : w.heap.size < wr.heap.size := by omega
      have HMA : Hid ((wr.alloc (.cells #[.int .i64 (xn : Int), .slice (some ⟨gx, ox, none⟩) 64 cx, .bool false] 81)).ownsMap Try.prog 3 RV (w.heap.size + 1) k (mapD (E.take k))) := HM.out.alloc _
      have HBA : Hid (Below w.heap.size w (wr.alloc (.cells #[.int .i64 (xn : Int), .slice (some ⟨gx, ox, none⟩) 64 cx, .bool false] 81))) := HB.alloc HB.size _
      have HHA : Hid ((wr.alloc (.cells #[.int .i64 (xn : Int), .slice (some ⟨gx, ox, none⟩) 64 cx, .bool false] 81)).heap[w.heap.size]? = some (.cells #[.int .i64 (h : Int)] 3 (0, 0))) := heap_alloc_keep HH.out _
      have HKEY : Hid (keyOf Try.prog 3 (.int .i64 (xn : Int)) = some (keyL xn)) := keyOf_int_mk (by kernel_rfl) (wf_nat xn hxn)
      clear hc e0 e1 e2 keep hxs hxv hxl hmx hxb
      go_wp2_with (at_mapUpdate; refine wpList_mapUpdate_own _ rfl _ _ _ 123 rfl 3 42 intKeyed reqMapT RV (w.heap.size + 1) k (mapD (E.take k)) rfl HMA.out (by unfold maxLen; omega) _ _ (keyL xn) rfl rfl HKEY.out _ [] rfl ?_; intro w1 hown1 hgrow1)
      have HM1 : Hid (w1.ownsMap Try.prog 3 RV (w.heap.size + 1) (k + 1) (mapD (E.take (k + 1)))) := by show World.ownsMap _ _ _ _ _ _ _; rw [HT.out]; exact hown1
      have HB1 : Hid (Below w.heap.size w w1) := HBA.out.grown hgrow1 HBA.out.size (by intro r hr; simp at hr; omega)
      have HH1 : Hid (w1.heap[w.heap.size]? = some (.cells #[.int .i64 (h : Int)] 3 (0, 0))) := (hgrow1.block _ (heap_lt HHA.out) (by simp)).trans HHA.out
      clear hown1 hgrow1 c0 c1 c2
      go_wp2
      go_roundw
      case rel => exact ⟨k + 1, by omega, by go_num, HM1, HH1, HB1.out⟩
      case measure => simp [intOf]; omega
    · have HT : Hid (E.take k = E) := List.take_of_length_le (by rw [HN.out]; omega)
      rw [HT.out] at HM
      obtain ⟨r, Hr⟩ : ∃ r, Hid (wr.heap.size = r) := ⟨_, rfl⟩
      have hrw : w.heap.size < r := by rw [← Hr.out]; exact heap_lt HH.out
      go_wp2_with (at_range; refine wpList_range_own _ rfl _ 123 rfl 3 42 intKeyed reqMapT RV (w.heap.size + 1) k (mapD E) rfl HM.out ?_; intro w0 hrg0 hg0 hs0)
      rw [Hr.out] at hrg0 hs0 ⊢
      have HR0 := Lib.hid hrg0
      have HB0 : Hid (Below w.heap.size w w0) := HB.grown hg0 HB.size (by simp)
      have HH0 : Hid (w0.heap[w.heap.size]? = some (.cells #[.int .i64 (h : Int)] 3 (0, 0))) := (hg0.block _ (heap_lt HH.out) (by simp)).trans HH.out
      have HMO := Lib.hid (mapOk_all E)
      have HR256 := Lib.hid (last_lt fun x hx => (HE.out x hx).2.1)
      clear hrg0 hg0 hs0 HB hlt hk
      go_frame
      go_loopw [9] (fun v ws => ∃ (left : Lit → Bool) (cnt : Nat) (O : List Rk), Hid (ws.ranges Try.prog 3 RV (w.heap.size + 1) r k (mapD E) left cnt) ∧ Hid (ws.ownsRow (w.heap.size + 1) 81 3 v O.length (O.flatMap encK)) ∧ Hid (OutOk (wrs E) (w.heap.size + 1) ws left O) ∧ Hid (ws.heap[w.heap.size]? = some (.cells #[.int .i64 (h : Int)] 3 (0, 0))) ∧ Hid (Below w.heap.size w ws)) (fun _ ws => ws.rangeLeft (w.heap.size + 1) r)
      case atStart =>
        exact ⟨_, _, [], HR0, World.ownsRow_nil _ _ _ _, OutOk.start _ _ _ _ (fun n D hn => by rw [HMO.out.there n, hn]; rfl), HH0, HB0⟩
      case round =>
        obtain ⟨left, cnt, O, HR, HO, HOK, HHs, HBs⟩ := hrel
        go_wp2_with (at_next; refine wpList_next_ranges (α := Int) (β := Value) _ rfl _ rfl 3 intKeyed RV (fun x => .int .i64 x) (fun c => c) inv_key (fun v y _ => ⟨v, rfl⟩) (w.heap.size + 1) r k (mapD E) left cnt rfl HR.out ?_ ?_)
        · intro _ hl0
          have HL0 := Lib.hid hl0
          clear hl0
          have hO256 := outOk_len HOK.out
          have HS5 := Lib.hid (HSORT.out w.heap.size h (w.heap.size + 1) u9 O _ hh HO.out HHs.out (by omega))
          go_wp2_with fail
          refine HS5.out.mono ?_
          rintro e w5 ⟨rfl, O', hp, hs, ho5, hg5⟩
          have hne : u9.ownBlock ≠ some w.heap.size := own_ne HO.out HHs.out (by decide)
          have HH5 : Hid (w5.heap[w.heap.size]? = some (.cells #[.int .i64 (h : Int)] 3 (0, 0))) := (hg5.block _ (heap_lt HHs.out) (fun e => hne e.symm)).trans HHs.out
          have hok5 : OutOk (wrs E) (w.heap.size + 1) w5 left O := HOK.out.keep fun i c _ hi => hg5.block i (heap_lt hi) (fun e => own_ne HO.out hi (by decide) e.symm)
          have hfin := part_fin hh HR256.out HOK.out HL0.out hp hs
          have hlt5 : ∀ x ∈ O', x.1 < 256 := fun x hx => (hok5.el x (hp.mem_iff.1 hx)).1
          have hown : RqsOwn w5 (w.heap.size + 1) u9 (emit (partF (wrs E) h)) := by
            refine ⟨O'.map (toRq (wrs E)), by rw [toRq_emit, hfin], by rw [toRq_cells hlt5, List.length_map]; exact ho5, fun x hx => ?_⟩
            obtain ⟨y, hy, rfl⟩ := List.mem_map.1 hx
            obtain ⟨h1, D, cur, h2, h3, h4, h5, h6⟩ := hok5.el y (hp.mem_iff.1 hy)
            have e : (toRq (wrs E) y).D = D := by show (lastD (wrs E) y.1).getD [] = D; rw [h2]; rfl
            exact Or.inr ⟨rfl, h1, by rw [e]; exact h3, y.2.1, y.2.2, cur, rfl, h4, h5, by rw [e]; exact h6⟩
          have HOWN := Lib.hid hown
          have HB5 : Hid (Below w.heap.size w w5) := HBs.out.grown hg5 HBs.out.size (by intro q hq; have := (HO.out.lt q hq).1; omega)
          obtain ⟨q5, cp5, hv5, hq5⟩ := owns_slice ho5
          have hlen5 : O'.length ≤ 256 := by rw [hp.length_eq]; exact hO256
          have HFIN := Lib.hid hfin
          have HLT5 := Lib.hid hlt5
          obtain ⟨M, HM5⟩ : ∃ M, Hid (O'.length = M) := ⟨_, rfl⟩
          rw [HM5.out] at hv5 hlen5 hq5
          have HQ5 := Lib.hid hq5
          have hz5 := heap_lt HH5.out
          clear hp hs ho5 hg5 hne hok5 hfin hlt5 hown hq5
          by_cases hM0 : M = 0
          · have HHD : Hid (headF (wrs E) h = h) := by
              show _ = _
              unfold headF
              rw [← HFIN.out]
              have : O' = [] := List.length_eq_zero_iff.1 (by rw [HM5.out]; exact hM0)
              rw [this]
              rfl
            subst hM0
            have k0 := cell_of_row w5 _ 0 _ _ _ HH5.out
            subst hv5
            go_wp2
            go_quiet (fail)
            go_wp2
            go_ret2
            unfold PartRes
            rw [HHD.out]
            refine ⟨_, rfl, (HOWN.out.below (below_dN5 (Below.refl _ _) _)).mono (by omega), below_dN5 HB5.out _⟩
          · obtain ⟨g5, rfl, _, hc5⟩ := HQ5.out (by omega)
            have hml : M - 1 < O'.length := by rw [HM5.out]; omega
            obtain ⟨x, Hx⟩ : ∃ x, Hid (O'[M - 1] = x) := ⟨O'[M - 1], rfl⟩
            have hx256 : x.1 < 256 := HLT5.out x (by rw [← Hx.out]; exact List.getElem_mem hml)
            have hcx : w5.cell? ⟨g5, (M - 1) * 3, none⟩ = some (.int .i64 (x.1 : Int)) := hc5 _ _ (by
              rw [← toRq_cells (R := wrs E) HLT5.out]
              have := (rcells_get (O'.map (toRq (wrs E))) (M - 1) (by rw [List.length_map]; exact hml)).1
              rw [this, List.getElem_map, Hx.out]
              rfl)
            have HHD : Hid (headF (wrs E) h = x.1) := by
              show _ = _
              unfold headF
              rw [← HFIN.out, List.getLast?_map, List.getLast?_eq_getElem?, HM5.out, List.getElem?_eq_getElem hml, Hx.out]
              rfl
            obtain ⟨xn, Hxn⟩ : ∃ q, Hid (x.1 = q) := ⟨_, rfl⟩
            rw [Hxn.out] at hcx hx256 HHD
            have k0 := cell_of_row w5 _ 0 _ _ _ HH5.out
            have z0 : w5.frozen? ⟨w.heap.size, 0, none⟩ = false := by simp [World.frozen?, HH5.out]
            have HST : Hid (RqsOwn (w5.setCell ⟨w.heap.size, 0, none⟩ (.int .i64 (xn : Int))) (w.heap.size + 1) (.slice (some ⟨g5, 0, none⟩) M cp5) (emit (partF (wrs E) h))) := by
              have h1 := HOWN.out
              rw [hv5] at h1
              exact h1.keeps (F := fun i => i = w.heap.size) (Keeps.setCell (by rfl) _) (fun i hi _ e => by omega)
            have HBS : Hid (Below w.heap.size w (w5.setCell ⟨w.heap.size, 0, none⟩ (.int .i64 (xn : Int)))) := HB5.out.setCell (Nat.le_refl _) _
            subst hv5
            have p1 : IntKind.i64.wrap ((M : Int) - 1) = (M : Int) - 1 := IntWalk.i64_in _ (by omega)
            have p2 : ((M : Int) - 1).toNat = M - 1 := by omega
            have p3 : 0 ≤ (M : Int) - 1 := by omega
            have p4 : (M : Int) - 1 < (M : Int) := by omega
            have p5 : 1 ≤ (M : Int) := by omega
            clear hc5 hM0
            go_wp2
            go_quiet (fail)
            go_wp2
            go_ret2
            unfold PartRes
            rw [HHD.out]
            refine ⟨_, rfl, (HST.out.below (below_dN5 (Below.refl _ _) _)).mono (by omega), below_dN5 HBS.out _⟩
        · intro x c kl y ps w1 cnt1 hkey hlk hRv hat hrg1 hlt1 hg1 hs1 hen
          obtain ⟨x', hx', rfl, _⟩ := Maps.keyOf_int_inv (q := .i64) (by kernel_rfl) hkey
          have hxx : x' = x := by injection hx' with _ h; exact h.symm
          subst hxx
          have hy : y = .held c := by unfold RV at hRv; injection hRv with h; injection h with h _; exact h.symm
          subst hy
          obtain ⟨rq, hrq, hkl, hat2, hlast⟩ := HMO.out.back _ (has_true_of_atKey hat)
          have hxn : x' = (rq.n : Int) := by unfold keyL at hkl; injection hkl with _ h
          have hcv : c = rq.v := by
            have h1 := hat .nil
            rw [hat2 .nil] at h1
            injection h1 with h1
            exact h1.symm
          subst hxn hcv
          obtain ⟨_, hxn, hxv, hxl⟩ := HE.out rq hrq
          obtain ⟨gx, ox, cx, hxs⟩ : ∃ gx ox cx, rq.v = .slice (some ⟨gx, ox, none⟩) 64 cx := by
            obtain ⟨_, ⟨h0, _⟩ | ⟨g, o, cap, h1, _⟩⟩ := hxv
            · omega
            · exact ⟨g, o, cap, by rw [h1, hxl]⟩
          have HR1 := Lib.hid hrg1
          obtain ⟨ob, hob, hobn⟩ := ranges_block HR.out
          have HB1 : Hid (Below w.heap.size w w1) := HBs.out.grown hg1 HBs.out.size (by intro q hq; simp at hq; omega)
          have HO1 : Hid (w1.ownsRow (w.heap.size + 1) 81 3 u9 O.length (O.flatMap encK)) := owns_keep HO.out fun b hb => hg1.block b (HO.out.lt b hb).2 (by
            rw [← hb]
            exact fun e => (ranges_ne HO.out HR.out).2 e.symm)
          have HOK1 : Hid (OutOk (wrs E) (w.heap.size + 1) w1 left O) := HOK.out.keep fun i c _ hi => hg1.block i (heap_lt hi) (by
            intro e
            injection e with e
            subst e
            rw [hob] at hi
            injection hi with hi
            exact hobn _ _ _ hi)
          have HH1 : Hid (w1.heap[w.heap.size]? = some (.cells #[.int .i64 (h : Int)] 3 (0, 0))) := (hg1.block _ (heap_lt HHs.out) (by intro e; injection e with e; omega)).trans HHs.out
          have HCL := Lib.hid (clone64c rq.v rq.D w1 (RowAt.below hxv HB1.out) hxl)
          have hO256 := outOk_len HOK.out
          have HLK := Lib.hid hlk
          have HLAST := Lib.hid hlast
          have HXL := Lib.hid hxl
          have HLT := Lib.hid hlt1
          rw [hxs] at hen HCL
          obtain ⟨xn, Hxn⟩ : ∃ q, Hid (rq.n = q) := ⟨_, rfl⟩
          rw [Hxn.out] at hen hxn
          obtain ⟨ON, HON⟩ : ∃ q, Hid (O.length = q) := ⟨_, rfl⟩
          rw [HON.out] at HO1 hO256
          clear hkey hlk hRv hat hrg1 hlt1 hg1 hs1 hkl hat2 hlast hxv hxl hxs hob hobn hrq
          go_wp2_with (first
            | (go_at_call 45; refine HCL.out.mono ?_; rintro e w2 ⟨v2, rfl, g2, cap2, cur2, rfl, hg2, hh2, ht2, hb2⟩
               have HO2 : Hid (∀ o, (w2.alloc o).ownsRow (w.heap.size + 1) 81 3 u9 ON (O.flatMap encK)) := fun o => (owns_below HO1.out hb2).alloc o
               have HB2 : Hid (Below w.heap.size w w2) := HB1.out.trans (hb2.mono HB1.out.size)
               have hz2 : w.heap.size < w2.heap.size := Nat.lt_of_lt_of_le (heap_lt HH1.out) hb2.size
               have HH2 : Hid (w2.heap[w.heap.size]? = some (.cells #[.int .i64 (h : Int)] 3 (0, 0))) := heap_below hb2 HH1.out
               have HBL := Lib.hid hb2
               have HG2 := Lib.hid (And.intro hg2 (And.intro hh2 ht2))
               clear hb2 hg2 hh2 ht2)
            | (at_builtin; refine wpList_append_own _ rfl _ _ 78 rfl (w.heap.size + 1) 81 i0 (.agg #[.int .i64 0, .slice none 0 0, .bool false]) 3 40 reqsT HI.out HZ0.out HZ1.out HZ2.out rfl (by decide) _ _ _ rfl (HO2.out _) ⟨w2.heap.size, 0, none⟩ 1 1 [.int .i64 (xn : Int), .slice (some ⟨g2, 0, none⟩) 64 cap2, .bool false] rfl rfl (fun j u hu => new_cells _ #[.int .i64 (xn : Int), .slice (some ⟨g2, 0, none⟩) 64 cap2, .bool false] _ j u hu) (fun u hu => by simp at hu; rcases hu with rfl | rfl | rfl <;> rfl) (by unfold maxLen; omega) (by omega) (by simp; omega) ?_; intro v3 w3 hown3 hgrow3 _))
          have HG := HG2.out
          have HNEW : Hid (w3.ownsRow (w.heap.size + 1) 81 3 v3 (O ++ [(xn, g2, cap2)]).length ((O ++ [(xn, g2, cap2)]).flatMap encK)) := by
            show World.ownsRow _ _ _ _ _ _ _
            rw [encK_append, List.length_append, HON.out]
            have e : encK (xn, g2, cap2) = [.int .i64 (xn : Int), .slice (some ⟨g2, 0, none⟩) 64 cap2, .bool false] := by
              show [_, _, _] = _
              rw [Nat.mod_eq_of_lt hxn]
            rw [e]
            exact hown3
          have hneb := ranges_ne (HO2.out (.cells #[.int .i64 (xn : Int), .slice (some ⟨g2, 0, none⟩) 64 cap2, .bool false] 81)) ((HR1.out.kept (grown_of_below HBL.out) (by simp) (by simp)).alloc (.cells #[.int .i64 (xn : Int), .slice (some ⟨g2, 0, none⟩) 64 cap2, .bool false] 81))
          have HR3 : Hid (w3.ranges Try.prog 3 RV (w.heap.size + 1) r k (mapD E) (fun z => left z && !z.sameKey (keyL xn)) cnt1) := by
            have := ((HR1.out.kept (grown_of_below HBL.out) (by simp) (by simp)).alloc (.cells #[.int .i64 (xn : Int), .slice (some ⟨g2, 0, none⟩) 64 cap2, .bool false] 81)).kept hgrow3 hneb.1 hneb.2
            rw [← Hxn.out]
            exact this
          have hnt : ∀ i c, (w2.alloc (.cells #[.int .i64 (xn : Int), .slice (some ⟨g2, 0, none⟩) 64 cap2, .bool false] 81)).heap[i]? = some (.cells c 5 (0, 0)) → some i ≠ u9.ownBlock := fun i c hi e => own_ne (HO2.out _) hi (by decide) e.symm
          have HOK3 : Hid (OutOk (wrs E) (w.heap.size + 1) w3 (fun z => left z && !z.sameKey (keyL xn)) (O ++ [(xn, g2, cap2)])) := by
            have h1 : OutOk (wrs E) (w.heap.size + 1) w3 left O := HOK1.out.keep fun i c _ hi => by
              have h2 := heap_below HBL.out hi
              have h3 := heap_alloc_keep h2 (.cells #[.int .i64 (xn : Int), .slice (some ⟨g2, 0, none⟩) 64 cap2, .bool false] 81)
              exact (hgrow3.block i (heap_lt h3) (hnt i c h3)).trans (h3.trans hi.symm)
            have h4 := heap_alloc_keep HG.2.1 (.cells #[.int .i64 (xn : Int), .slice (some ⟨g2, 0, none⟩) 64 cap2, .bool false] 81)
            have hl1 := heap_lt HH1.out
            exact h1.step xn g2 cap2 rq.D cur2 (by rw [← Hxn.out]; exact HLK.out) hxn (by rw [← Hxn.out]; exact HLAST.out) HXL.out ⟨by have := HG.1.1; omega, HG.1.2⟩ ((hgrow3.block g2 (heap_lt h4) (hnt g2 cur2 h4)).trans h4) HG.2.2
          have HH3 : Hid (w3.heap[w.heap.size]? = some (.cells #[.int .i64 (h : Int)] 3 (0, 0))) := by
            have h4 := heap_alloc_keep HH2.out (.cells #[.int .i64 (xn : Int), .slice (some ⟨g2, 0, none⟩) 64 cap2, .bool false] 81)
            exact (hgrow3.block _ (heap_lt h4) (fun e => own_ne (HO2.out _) h4 (by decide) e.symm)).trans h4
          have HB3 : Hid (Below w.heap.size w w3) := (HB2.out.alloc HB2.out.size _).grown hgrow3 (by simp; omega) (by intro q hq; have := ((HO2.out (.cells #[.int .i64 (xn : Int), .slice (some ⟨g2, 0, none⟩) 64 cap2, .bool false] 81)).lt q hq).1; omega)
          clear hown3 hgrow3 hneb hnt hen HG
          go_wp2
          go_roundw
          case rel => exact ⟨_, cnt1, _, HR3, HNEW, HOK3, HH3, HB3⟩
          case measure => rw [HR3.out.left_eq, HR.out.left_eq]; exact HLT.out

end Go.Proofs.Ytdcplaonafmbjaa
