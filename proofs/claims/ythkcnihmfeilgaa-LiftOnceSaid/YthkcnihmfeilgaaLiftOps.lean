/- Way, and the requests of a law. -/
import Derived.Test.YthkcnihmfeilgaaLiftSort
import Derived.Test.YthkcnihmfeilgaaLiftOrder
namespace Go.Proofs.Ythkcnihmfeilgaa
open Go.RowKit

theorem order_any (v : Value) (E : List Rq) (h : Nat) (hh : h < 256) (w : World) (hv : RqRow w v E) (hE : ∀ x ∈ E, RqOk w x) (hl : E.length ≤ 100) :
    Calls Try.prog 22 #[v, .int .i64 (h : Int)] w (OrderRes (E.map rab) h w) := order_raw sort_said v E h hh w hv hE hl

/-- How far the head goes. -/
def wayF : Nat → List Rb → Nat
  | _, [] => 0
  | h, (n, _, b) :: l => if b then wayF h l else farN h n + wayF n l
/-- Where the head is then. -/
def headL : Nat → List Rb → Nat
  | h, [] => h
  | h, (n, _, b) :: l => if b then headL h l else headL n l
theorem headL_snoc (h : Nat) (l : List Rb) (x : Rb) : headL h (l ++ [x]) = if x.2.2 then headL h l else x.1 := by
  induction l generalizing h with
  | nil => obtain ⟨n, D, b⟩ := x; cases b <;> rfl
  | cons y l ih =>
    obtain ⟨n, D, b⟩ := y
    show (if b then headL h (l ++ [x]) else headL n (l ++ [x])) = if x.2.2 then (if b then headL h l else headL n l) else x.1
    cases b
    · rw [if_neg (by simp), ih]; rfl
    · rw [if_pos rfl, ih]; rfl
theorem wayF_snoc (h : Nat) (l : List Rb) (x : Rb) : wayF h (l ++ [x]) = wayF h l + if x.2.2 then 0 else farN (headL h l) x.1 := by
  induction l generalizing h with
  | nil => obtain ⟨n, D, b⟩ := x; cases b <;> simp [wayF, headL]
  | cons y l ih =>
    obtain ⟨n, D, b⟩ := y
    cases b
    · show farN h n + wayF n (l ++ [x]) = farN h n + wayF n l + _
      rw [ih]
      show _ = _ + if x.2.2 then 0 else farN (headL n l) x.1
      omega
    · show wayF h (l ++ [x]) = wayF h l + _
      rw [ih]; rfl
theorem headL_lt (h : Nat) (hh : h < 256) (l : List Rb) (hl : ∀ x ∈ l, x.1 < 256) : headL h l < 256 := by
  induction l generalizing h with
  | nil => exact hh
  | cons y l ih =>
    obtain ⟨n, D, b⟩ := y
    cases b
    · exact ih n (hl (n, D, false) (by simp)) fun x hx => hl x (by simp [hx])
    · exact ih h hh fun x hx => hl x (by simp [hx])
theorem wayF_le (h : Nat) (l : List Rb) : wayF h l ≤ 256 * l.length := by
  induction l generalizing h with
  | nil => simp [wayF]
  | cons y l ih =>
    obtain ⟨n, D, b⟩ := y
    have h1 := ih n
    have h2 := ih h
    have h3 := farN_lt h n
    cases b
    · show farN h n + wayF n l ≤ _
      rw [List.length_cons]; omega
    · show wayF h l ≤ _
      rw [List.length_cons]; omega

set_option maxRecDepth 100000 in
set_option maxHeartbeats 4000000 in
theorem way_any (v : Value) (E : List Rq) (h : Nat) (hh : h < 256) (w : World) (hv : RqRow w v E) (hE : ∀ x ∈ E, RqOk w x) (hl : E.length ≤ 100) :
    Calls Try.prog 29 #[v, .int .i64 (h : Int)] w fun e w' => e = .returned (.tuple #[.int .i64 (wayF h (E.map rab) : Int), .int .i64 0]) ∧ Below w.heap.size w w' := by
  have HR := Lib.hid (fun W (hW : Below w.heap.size w W) => right_ok v E W (RowAt.below hv.row hW) (fun x hx => (hE x hx).below hW) hl)
  obtain ⟨p, cp, rfl, HP⟩ := rqs_open hv.row
  obtain ⟨N, HN⟩ : ∃ N, Hid (E.length = N) := ⟨_, rfl⟩
  have HE := Lib.hid hE
  rw [HN.out] at hl HP HR
  rw [HN.out]
  have b1 : decide ((h : Int) < 0) = false := by rw [decide_eq_false_iff_not]; omega
  have b2 : decide ((256 : Int) ≤ (h : Int)) = false := by rw [decide_eq_false_iff_not]; omega
  have b3 : ¬ (256 : Int) ≤ (h : Int) := by omega
  have b4 : ¬ 256 ≤ h := by omega
  clear hv hE
  go_enter Try.func29, Try.ntmps29
  go_wp2_with fail
  refine (HR.out _ (Below.refl _ _)).mono ?_
  rintro e w1 ⟨rfl, hb1⟩
  have HB1 := Lib.hid hb1
  have HF := Lib.hid (fun (a b : Nat) (ha : a < 256) (hb : b < 256) w => far_any (a : Int) (b : Int) w (by omega) (by omega) (by omega) (by omega))
  simp only [Int.toNat_natCast] at HF
  clear hb1 b1 b2 b3 b4
  go_wp2
  go_loopw [1, 7, 23] (fun hd n i wr => ∃ (k h' q : Nat), k ≤ N ∧ i = .int .i64 k ∧ hd = .int .i64 (h' : Int) ∧ h' < 256 ∧ n = .int .i64 (q : Int) ∧ q ≤ 256 * k ∧ Hid (headL h ((E.take k).map rab) = h') ∧ Hid (wayF h ((E.take k).map rab) = q) ∧ Below w.heap.size w wr) (fun _ _ i _ => N - (intOf i).toNat)
  case atStart => exact ⟨0, h, 0, Nat.zero_le _, rfl, rfl, hh, rfl, by omega, rfl, rfl, HB1.out⟩
  case round =>
    obtain ⟨k, h', q, hk, rfl, rfl, hh', rfl, hq, HH, HW, HB⟩ := hrel
    by_cases hlt : k < N
    · obtain ⟨g, o, rfl, hg, hc⟩ := HP.out (by omega)
      have hkl : k < E.length := by rw [HN.out]; exact hlt
      obtain ⟨e0, e1, e2⟩ := rcells_get E k hkl
      obtain ⟨px, lx, cx, hxs, _, hxn⟩ := (HE.out E[k] (List.getElem_mem hkl)).shape
      rw [hxs] at e1
      have c0 := (HB.cell (p := ⟨g, o + k * 3, none⟩) hg).trans (hc _ _ e0)
      have c1 := (HB.cell (p := ⟨g, o + (k * 3 + 1), none⟩) hg).trans (hc _ _ e1)
      have c2 := (HB.cell (p := ⟨g, o + (k * 3 + 2), none⟩) hg).trans (hc _ _ e2)
      rw [← Nat.add_assoc] at c1 c2
      obtain ⟨xn, Hxn⟩ : ∃ q, Hid (E[k].n = q) := ⟨E[k].n, rfl⟩
      obtain ⟨xb, Hxb⟩ : ∃ q, Hid (E[k].b = q) := ⟨E[k].b, rfl⟩
      rw [Hxn.out] at c0 hxn
      rw [Hxb.out] at c2
      have HT : Hid (headL h ((E.take (k + 1)).map rab) = (if xb then h' else xn) ∧ wayF h ((E.take (k + 1)).map rab) = q + if xb then 0 else farN h' xn) := by
        rw [← List.take_append_getElem hkl, List.map_append]
        show headL h (_ ++ [rab E[k]]) = _ ∧ wayF h (_ ++ [rab E[k]]) = _
        rw [headL_snoc, wayF_snoc, HH.out, HW.out]
        show (if E[k].b then h' else E[k].n) = _ ∧ (q + if E[k].b then 0 else farN h' E[k].n) = _
        rw [Hxb.out, Hxn.out]
        exact ⟨rfl, rfl⟩
      have hfl := farN_lt h' xn
      have hlt2 : (k : Int) < (N : Int) := by omega
      have hgl : g < wr.heap.size := Nat.lt_of_lt_of_le hg HB.size
      have hgn : ¬ g = wr.heap.size := by omega
      have HBA : Hid (Below w.heap.size w (wr.alloc (.cells #[.int .i64 (xn : Int), .slice px lx cx, .bool xb] 50))) := HB.alloc HB.size _
      clear hc e0 e1 e2 hxs
      cases xb with
      | true =>
        have HT1 : Hid (headL h ((E.take (k + 1)).map rab) = h') := HT.out.1
        have HT2 : Hid (wayF h ((E.take (k + 1)).map rab) = q) := HT.out.2
        go_wp2
        go_roundw
        case rel => exact ⟨k + 1, h', q, by omega, by go_num, rfl, hh', rfl, by omega, HT1, HT2, HBA.out⟩
        case measure => simp [intOf]; omega
      | false =>
        have HT1 : Hid (headL h ((E.take (k + 1)).map rab) = xn) := HT.out.1
        have HT2 : Hid (wayF h ((E.take (k + 1)).map rab) = q + farN h' xn) := HT.out.2
        have HFC := Lib.hid (fun W => HF.out h' xn hh' hxn W)
        obtain ⟨f, Hf⟩ : ∃ f, Hid (farN h' xn = f) := ⟨_, rfl⟩
        rw [Hf.out] at HFC HT2 hfl
        go_wp2_with fail
        refine (HFC.out _).mono ?_
        rintro e w' ⟨rfl, rfl⟩
        go_wp2
        go_roundw
        case rel => exact ⟨k + 1, xn, q + f, by omega, by go_num, rfl, hxn, by go_num, by omega, HT1, HT2, HBA.out⟩
        case measure => simp [intOf]; omega
    · have HT : Hid (wayF h (E.map rab) = q) := by
        have h1 := HW.out
        rw [List.take_of_length_le (by rw [HN.out]; omega)] at h1
        exact h1
      go_wp2
      go_ret2
      rw [HT.out]
      exact ⟨rfl, HB⟩

/-- The requests of a law's list. -/
def askF (x : Int × ByteArray) : Rb := if pkN x.1 17 = 16 then barR else (pkN x.1 17, secS x.2, false)
def asksF (l : List (Int × ByteArray)) : List Rb := l.map askF
def AsksRes (l : List (Int × ByteArray)) (w : World) (e : Ending) (w' : World) : Prop := ∃ v', e = .returned v' ∧ RqsOwn w' w.heap.size v' (asksF l) ∧ Below w.heap.size w w'
theorem rqsOwn_new {w : World} {base g cap : Nat} {cur : Array Value} {D : List Int} (n : Nat) (hn : n < 256) (hD : D.length = 64) (hg : base ≤ g ∧ 64 ≤ cap) (hh : w.heap[g]? = some (.cells cur 5 (0, 0))) (ht : cur.toList.take 64 = u8s D) (h : base ≤ w.heap.size) :
    RqsOwn (w.alloc (.cells #[.int .i64 (n : Int), .slice (some ⟨g, 0, none⟩) 64 cap, .bool false] 50)) base (.slice (some ⟨w.heap.size, 0, none⟩) 1 1) [(n, D, false)] :=
  ⟨[⟨n, .slice (some ⟨g, 0, none⟩) 64 cap, D, false⟩], rfl, ⟨rfl, Or.inr ⟨w.heap.size, 1, _, rfl, h, heap_alloc_new w _, Nat.le_refl _, by unfold maxLen; omega, rfl, rfl⟩⟩, fun x hx => by
    simp at hx
    subst hx
    exact Or.inr ⟨rfl, hn, hD, g, cap, cur, rfl, hg, heap_alloc_keep hh _, ht⟩⟩

set_option maxRecDepth 100000 in
set_option maxHeartbeats 4000000 in
theorem asks_any (v : Value) (l : List (Int × ByteArray)) (w : World) (h : PutsAt w v l) (hl : l.length ≤ 1000) :
    Calls Try.prog 23 #[v] w (AsksRes l w) := by
  obtain ⟨N, HN⟩ : ∃ N, Hid (N = l.length) := ⟨_, rfl⟩
  obtain ⟨p, cp, hv, hp⟩ := puts_open h N HN.out
  subst hv
  have HP := Lib.hid hp
  rw [← HN.out] at hl
  clear h hp
  go_enter Try.func23, Try.ntmps23
  go_wp2
  go_loopw [3, 9] (fun o i wr => ∃ k : Nat, k ≤ N ∧ i = .int .i64 k ∧ Hid (RqsOwn wr w.heap.size o (asksF (l.take k))) ∧ Below w.heap.size w wr) (fun _ i _ => N - (intOf i).toNat)
  case atStart => exact ⟨0, Nat.zero_le _, rfl, ⟨[], rfl, World.ownsRow_nil _ _ _ _, fun x hx => by simp at hx⟩, Below.refl _ _⟩
  case round =>
    obtain ⟨k, hk, rfl, HO, HB⟩ := hrel
    by_cases hlt : k < N
    · obtain ⟨g, o, rfl, hg, hc⟩ := HP.out (by omega)
      have hkl : k < l.length := by rw [← HN.out]; exact hlt
      have hck := hc k hkl
      obtain ⟨x, Hx⟩ : ∃ x, Hid (l[k].1 = x) := ⟨l[k].1, rfl⟩
      obtain ⟨s, Hs⟩ : ∃ s, Hid (l[k].2 = s) := ⟨l[k].2, rfl⟩
      rw [Hx.out, Hs.out] at hck
      have c1 := (HB.cell (p := ⟨g, o + k * 2, none⟩) hg).trans hck.1
      have c2 := (HB.cell (p := ⟨g, o + (k * 2 + 1), none⟩) hg).trans hck.2
      rw [← Nat.add_assoc] at c2
      have hlt2 : (k : Int) < (N : Int) := by omega
      have hgl : g < wr.heap.size := Nat.lt_of_lt_of_le hg HB.size
      have hgn : ¬ g = wr.heap.size := by omega
      obtain ⟨q, HQ⟩ : ∃ q, Hid (pkN x 17 = q) := ⟨_, rfl⟩
      have hq17 : q < 17 := by rw [← HQ.out]; exact pkN_lt x 17 (by omega) (by omega)
      have HPK : Hid (∀ W : World, Calls Try.prog 14 #[.int .i64 x, .int .i64 17] W fun e w' => e = .returned (.int .i64 (q : Int)) ∧ W = w') := fun W => by
        have := pickN x 17 W (by omega) (by omega)
        rw [HQ.out] at this
        exact this
      have HT : Hid (asksF (l.take (k + 1)) = asksF (l.take k) ++ [if q = 16 then barR else (q, secS s, false)]) := by
        show _ = _
        rw [← List.take_append_getElem hkl]
        unfold asksF
        rw [List.map_append]
        show _ ++ [askF l[k]] = _
        unfold askF
        rw [Hx.out, Hs.out, HQ.out]
      have hol : (asksF (l.take k)).length ≤ 1000 := by
        unfold asksF
        rw [List.length_map, List.length_take]; omega
      have HBA : Hid (Below w.heap.size w (wr.alloc (.cells #[.int .i64 x, .string s] 55))) := HB.alloc HB.size _
      have HOA : Hid (RqsOwn (wr.alloc (.cells #[.int .i64 x, .string s] 55)) w.heap.size u3 (asksF (l.take k))) := HO.out.below ((Below.refl _ _).alloc (Nat.le_refl _) _)
      have hzA := HBA.out.size
      clear hc hck
      by_cases h16 : q = 16
      · subst h16
        have HT2 : Hid (asksF (l.take (k + 1)) = asksF (l.take k) ++ [barR]) := HT.out
        generalize hwA : wr.alloc (.cells #[.int .i64 x, .string s] 55) = wA at *
        have HWA := Lib.hid hwA
        clear hwA
        go_wp2_with fail
        rw [HWA.out]
        refine (HPK.out _).mono ?_
        rintro e w' ⟨rfl, rfl⟩
        go_wp2_with (at_builtin; refine wpList_append_rqs rfl _ _ rfl _ _ w.heap.size w.heap.size _ _ rfl rfl (HOA.out.below ((Below.refl _ _).alloc (Nat.le_refl _) _)) (rqsOwn_bar wA w.heap.size hzA) (Nat.le_refl _) (by simp; omega) (by simp; omega) ?_; intro v5 w5 hown5 hgrow5)
        have HO5 : Hid (RqsOwn w5 w.heap.size v5 (asksF (l.take (k + 1)))) := by show RqsOwn _ _ _ _; rw [HT2.out]; exact hown5
        have HB5 : Hid (Below w.heap.size w w5) := (HBA.out.alloc hzA _).grown hgrow5 (by simp; omega) (fun q hq => by
          obtain ⟨_, _, h1, _⟩ := HOA.out
          exact (h1.lt q hq).1)
        clear hown5 hgrow5
        go_wp2
        go_roundw
        case rel => exact ⟨k + 1, by omega, by go_num, HO5, HB5.out⟩
        case measure => simp [intOf]; omega
      · have HT2 : Hid (asksF (l.take (k + 1)) = asksF (l.take k) ++ [(q, secS s, false)]) := by
          show _ = _
          rw [HT.out, if_neg h16]
        have hqi : ((q : Int) == 16) = false := by rw [beq_eq_false_iff_ne]; omega
        go_wp2_with fail
        refine (HPK.out _).mono ?_
        rintro e w' ⟨rfl, rfl⟩
        go_wp2_with fail
        refine (sector_any s _).mono ?_
        rintro e w4 ⟨v4, rfl, g4, cap4, cur4, rfl, hg4, hh4, ht4, hb4⟩
        have HO4 := Lib.hid (HOA.out.below hb4)
        have HB4 : Hid (Below w.heap.size w w4) := Below.step HBA.out hb4
        have hz4 := HB4.out.size
        have HG4 : Hid (RqsOwn (w4.alloc (.cells #[.int .i64 (q : Int), .slice (some ⟨g4, 0, none⟩) 64 cap4, .bool false] 50)) w.heap.size (.slice (some ⟨w4.heap.size, 0, none⟩) 1 1) [(q, secS s, false)]) := by
          rw [secS_len] at ht4
          exact rqsOwn_new q (by omega) (secS_len s) ⟨Nat.le_trans hzA hg4.1, by rw [← secS_len s]; exact hg4.2⟩ hh4 ht4 hz4
        rw [secS_len]
        clear hb4 hg4 hh4 ht4
        go_wp2_with (at_builtin; refine wpList_append_rqs rfl _ _ rfl _ _ w.heap.size w.heap.size _ _ rfl rfl (HO4.out.below ((Below.refl _ _).alloc (Nat.le_refl _) _)) HG4.out (Nat.le_refl _) (by simp; omega) (by simp; omega) ?_; intro v5 w5 hown5 hgrow5)
        have HO5 : Hid (RqsOwn w5 w.heap.size v5 (asksF (l.take (k + 1)))) := by show RqsOwn _ _ _ _; rw [HT2.out]; exact hown5
        have HB5 : Hid (Below w.heap.size w w5) := (HB4.out.alloc hz4 _).grown hgrow5 (by simp; omega) (fun q hq => by
          obtain ⟨_, _, h1, _⟩ := HO4.out
          exact (h1.lt q hq).1)
        clear hown5 hgrow5
        go_wp2
        go_roundw
        case rel => exact ⟨k + 1, by omega, by go_num, HO5, HB5.out⟩
        case measure => simp [intOf]; omega
    · have HE : Hid (l.take k = l) := List.take_of_length_le (by rw [← HN.out]; omega)
      rw [HE.out] at HO
      go_wp2
      go_ret
      exact ⟨_, rfl, HO.out, HB⟩

end Go.Proofs.Ythkcnihmfeilgaa
