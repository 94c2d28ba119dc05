/- Take: what lives stands as what it was, too. -/
import Derived.Test.YtnmfbhiooccgfaaSnap3
namespace Go.Proofs.Ytnmfbhiooccgfaa
open Go.RowKit

def zeroF : Fo := ⟨fun _ _ => 0, fun _ => emp⟩
theorem forZ : ∀ w, (zeroValue 42).run Try.prog w = .ok (.agg (encF zeroF)) w := (zero_of_info (P := Try.prog) (t := 42) (v := .agg (encF zeroF)) (n := 192) (by kernel_rfl)).1
theorem forB : Try.prog.built 42 [] = some (encF zeroF) := by kernel_rfl

/-- The tree 0 stands as the tree k, too. -/
def putT (f : Fo) (k : Nat) : Fo := ⟨fun a => if a = k then f.nd 0 else f.nd a, fun a => if a = k then f.hs 0 else f.hs a⟩

section
variable {P : Program}
theorem wpList_buildTo' {ops : Array Oper} {rest : List Oper} {o : Oper} {a : Act} {w : World} {Q : Exit → Act → World → Prop} (hg : o.guard = none) (t : TypeId) (parts : Array (Nat × Operand)) (ho : o.op = .build t parts)
    (cells : Array Value) (hf : P.built t (parts.map fun (i, x) => (i, a.eval x)).toList = some cells)
    (h : wpList P ops Q rest (a.put o.dst (.agg cells)) w) : wpList P ops Q (o :: rest) a w := by
  refine wpList_build hg t parts ho (by rw [hf]; rfl) ?_
  rw [hf]
  exact h
theorem results_three {fn : Func} {p q r : Tmp} {ty : TypeId} (h : fn.results = #[.cell p ty, .tmp q, .tmp r]) (tmps : Array Value) (w : World) (g : Nat) (t : TypeId) (cs : Array Value) (fr : Nat × Nat) (d : TypeDesc) (v1 v2 : Value)
    (hp : tmps.getD p undef = .pointer (some ⟨g, 0, none⟩)) (h1 : tmps.getD q undef = v1) (h2 : tmps.getD r undef = v2) (hg : w.heap[g]? = some (.cells cs t fr))
    (hu : P.underlying ty = some d) (hd : (match d with | .struct _ | .array _ _ => true | _ => false) = true) (hi : (P.info? ty).map (·.size) = some cs.size) :
    (results fn tmps).run P w = .ok (.tuple #[.agg cs, v1, v2]) w := by
  have hp' : tmps[p]?.getD undef = .pointer (some ⟨g, 0, none⟩) := by simpa using hp
  have h1' : tmps[q]?.getD undef = v1 := by simpa using h1
  have h2' : tmps[r]?.getD undef = v2 := by simpa using h2
  simp [results, h, hp', h1', h2', asAddr, run_loadVar_row w g t ty cs fr d hg hu hd hi]
theorem results_two {fn : Func} {p q : Tmp} {ty : TypeId} (h : fn.results = #[.cell p ty, .tmp q]) (tmps : Array Value) (w : World) (g : Nat) (t : TypeId) (cs : Array Value) (fr : Nat × Nat) (d : TypeDesc) (v1 : Value)
    (hp : tmps.getD p undef = .pointer (some ⟨g, 0, none⟩)) (h1 : tmps.getD q undef = v1) (hg : w.heap[g]? = some (.cells cs t fr))
    (hu : P.underlying ty = some d) (hd : (match d with | .struct _ | .array _ _ => true | _ => false) = true) (hi : (P.info? ty).map (·.size) = some cs.size) :
    (results fn tmps).run P w = .ok (.tuple #[.agg cs, v1]) w := by
  have hp' : tmps[p]?.getD undef = .pointer (some ⟨g, 0, none⟩) := by simpa using hp
  have h1' : tmps[q]?.getD undef = v1 := by simpa using h1
  simp [results, h, hp', h1', asAddr, run_loadVar_row w g t ty cs fr d hg hu hd hi]
end

theorem put_tree (f : Fo) (k : Nat) (hk : k < 4) : ((encF f).toList.take (k * 48) ++ (encT f 0).toList ++ (encF f).toList.drop (k * 48 + (encT f 0).size)).toArray = encF (putT f k) := by
  apply Array.ext_getElem?
  intro i
  rw [encT_size]
  by_cases hi : i < 192
  · obtain ⟨a, j, ha, hj, rfl⟩ : ∃ a j, a < 4 ∧ j < 48 ∧ i = a * 48 + j := ⟨i / 48, i % 48, by omega, by omega, by omega⟩
    rw [encF_get _ a j ha hj, List.getElem?_toArray]
    have hl1 : ((encF f).toList.take (k * 48)).length = k * 48 := by rw [List.length_take, Array.length_toList, encF_size]; omega
    have hl2 : (encT f 0).toList.length = 48 := by rw [Array.length_toList, encT_size]
    by_cases h1 : a < k
    · rw [List.append_assoc, List.getElem?_append_left (by omega), List.getElem?_take, if_pos (by omega), Array.getElem?_toList, encF_get f a j ha hj]
      unfold cellF putT
      simp only [if_neg (by omega : ¬ a = k)]
    · by_cases h2 : a = k
      · subst h2
        rw [List.append_assoc, List.getElem?_append_right (by omega), List.getElem?_append_left (by omega), hl1, show a * 48 + j - a * 48 = j by omega, Array.getElem?_toList, encT_get f 0 j hj]
        unfold cellF putT
        simp only [if_true]
      · rw [List.getElem?_append_right (by rw [List.length_append]; omega), List.length_append, hl1, hl2, List.getElem?_drop, show k * 48 + 48 + (a * 48 + j - (k * 48 + 48)) = a * 48 + j by omega, Array.getElem?_toList, encF_get f a j ha hj]
        unfold cellF putT
        simp only [if_neg h2]
  · rw [Array.getElem?_eq_none (by simp [encF_size, encT_size]; omega), Array.getElem?_eq_none (by rw [encF_size]; omega)]

/-- Which tree has room. -/
def takeK (f : Fo) : Option Nat := if thereB f 1 = false then some 1 else if thereB f 2 = false then some 2 else if thereB f 3 = false then some 3 else none
def takeF (f : Fo) : Fo × Nat × Int := if thereB f 0 = true then (match takeK f with | some k => (putT f k, k, 0) | none => (zeroF, 0, 6)) else (zeroF, 0, 4)
theorem takeK_some {f : Fo} {k : Nat} (h1 : 1 ≤ k) (h4 : k < 4) (ha : ∀ j, 1 ≤ j → j < k → thereB f j = true) (hk : thereB f k = false) : takeK f = some k := by
  unfold takeK
  match k, h1, h4 with
  | 1, _, _ => rw [if_pos hk]
  | 2, _, _ => rw [if_neg (by rw [ha 1 (by omega) (by omega)]; simp), if_pos hk]
  | 3, _, _ => rw [if_neg (by rw [ha 1 (by omega) (by omega)]; simp), if_neg (by rw [ha 2 (by omega) (by omega)]; simp), if_pos hk]
theorem takeK_none {f : Fo} (ha : ∀ j, 1 ≤ j → j < 4 → thereB f j = true) : takeK f = none := by
  unfold takeK
  rw [if_neg (by rw [ha 1 (by omega) (by omega)]; simp), if_neg (by rw [ha 2 (by omega) (by omega)]; simp), if_neg (by rw [ha 3 (by omega) (by omega)]; simp)]
set_option maxRecDepth 100000 in
set_option maxHeartbeats 4000000 in
theorem take_raw (f : Fo) (A X : Array Value) (n : Nat) (c : Int) (HA : Hid (A = encF f)) (HX : Hid (X = encF (takeF f).1)) (Hn : Hid (n = (takeF f).2.1)) (Hc : Hid (c = (takeF f).2.2)) (w : World) :
    Calls Try.prog 23 #[.agg A] w fun e w' => e = .returned (.tuple #[.agg X, .int .i64 (n : Int), .int .i64 c]) ∧ Below w.heap.size w w' := by
  have HAS : Hid (A.size = 192) := by rw [HA.out]; exact encF_size f
  have HXS : Hid (X.size = 192) := by rw [HX.out]; exact encF_size _
  have HX1 : Hid (X.all (·.oneCell') = true) := by rw [HX.out]; exact encF_one _
  obtain ⟨Z0, HZ0⟩ : ∃ Z, Hid (Z = encF zeroF) := ⟨_, rfl⟩
  have HZ : Hid (∀ w, (zeroValue 42).run Try.prog w = .ok (.agg Z0) w) := by rw [HZ0.out]; exact forZ
  have HZB : Hid (Try.prog.built 42 [] = some Z0) := by rw [HZ0.out]; exact forB
  have HZS : Hid (Z0.size = 192) := by rw [HZ0.out]; exact encF_size _
  have HZ1 : Hid (Z0.all (·.oneCell') = true) := by rw [HZ0.out]; exact encF_one _
  have HTH : Hid (∀ (k : Nat) (W : World), k < 4 → Calls Try.prog 24 #[.agg A, .int .i64 (k : Int)] W fun e w' => e = .returned (.bool (thereB f k)) ∧ Below W.heap.size W w') := fun k W hk => by rw [HA.out]; exact there_in f k W hk
  go_enter Try.func23, Try.ntmps23
  go_wp2_with (first
    | (refine wpList_alloc_row rfl 42 rfl Z0 HZ.out ?_)
    | (refine wpList_load_row rfl 42 (.tmp 1) rfl w.heap.size rfl 42 A (0, 0) _ (heap_alloc2_old w _ _) forT rfl (by rw [HAS.out]; exact forI) ?_))
  refine (HTH.out 0 _ (by omega)).mono ?_
  cases h0 : thereB f 0 with
  | false =>
    rintro e w1 ⟨rfl, hb1⟩
    have HR1 : Hid (w1.heap[w.heap.size + 1]? = some (.cells Z0 42 (0, 0))) := heap_below hb1 (heap_alloc2_new w _ _)
    have hB1 : Below w.heap.size w w1 := Below.step (((Below.refl _ _).alloc (Nat.le_refl _) _).alloc (by simp) _) hb1
    have hT : takeF f = (zeroF, 0, 4) := by unfold takeF; rw [if_neg (by rw [h0]; simp)]
    have eX : X = Z0 := by rw [HX.out, hT, HZ0.out]
    have en : n = 0 := by rw [Hn.out, hT]
    have ec : c = 4 := by rw [Hc.out, hT]
    clear h0 hT hb1
    subst eX en ec
    have hz := HZ.out
    go_wp2_with (first
      | (refine wpList_store_row rfl 42 (.tmp 2) (.tmp 9) rfl (w.heap.size + 1) X rfl rfl 42 X HR1.out (by rw [HZS.out]; exact forI) rfl HZ1.out ?_))
    refine bodyPost_ret (results_three rfl _ _ (w.heap.size + 1) 42 X (0, 0) _ (.int .i64 0) (.int .i64 4) rfl rfl rfl (setRow_heap _ _ _ _ _ _ HR1.out) forT rfl (by rw [HZS.out]; exact forI)) rfl ⟨rfl, ?_⟩
    exact Below.setRow hB1 (by omega) _
  | true =>
    rintro e w1 ⟨rfl, hb1⟩
    have HF1 : Hid (w1.heap[w.heap.size]? = some (.cells A 42 (0, 0))) := heap_below hb1 (heap_alloc2_old w _ _)
    have HR1 : Hid (w1.heap[w.heap.size + 1]? = some (.cells Z0 42 (0, 0))) := heap_below hb1 (heap_alloc2_new w _ _)
    have hB1 : Below w.heap.size w w1 := Below.step (((Below.refl _ _).alloc (Nat.le_refl _) _).alloc (by simp) _) hb1
    have H0 := Lib.hid h0
    clear h0 hb1
    go_wp2
    go_loopw [5] (fun i wr => ∃ k : Nat, 1 ≤ k ∧ k ≤ 4 ∧ i = .int .i64 k ∧ Hid (∀ j, 1 ≤ j → j < k → thereB f j = true) ∧ Hid (wr.heap[w.heap.size]? = some (.cells A 42 (0, 0))) ∧ Hid (wr.heap[w.heap.size + 1]? = some (.cells Z0 42 (0, 0))) ∧ Below w.heap.size w wr) (fun i _ => 4 - (intOf i).toNat)
    case atStart => exact ⟨1, by omega, by omega, rfl, fun j h1 h2 => by omega, HF1, HR1, hB1⟩
    case round =>
      obtain ⟨k, hk1, hk, rfl, HK, HF, HR, HB⟩ := hrel
      by_cases hlt : k < 4
      · have hlt2 : (k : Int) < 4 := by omega
        have hk0 : (0 : Int) ≤ (k : Int) := by omega
        go_wp2_with (refine wpList_load_row rfl 42 (.tmp 1) rfl w.heap.size rfl 42 A (0, 0) _ HF.out forT rfl (by rw [HAS.out]; exact forI) ?_)
        refine (HTH.out k _ hlt).mono ?_
        cases hth : thereB f k with
        | true =>
          rintro e w2 ⟨rfl, hb2⟩
          have HF2 := Lib.hid (heap_below hb2 HF.out)
          have HR2 := Lib.hid (heap_below hb2 HR.out)
          have hB2 := Below.step HB hb2
          have HK2 : Hid (∀ j, 1 ≤ j → j < k + 1 → thereB f j = true) := fun j h1 h2 => by
            by_cases e : j = k
            · rw [e]; exact hth
            · exact HK.out j h1 (by omega)
          clear hth hb2
          go_wp2
          go_roundw
          case rel => exact ⟨k + 1, by omega, by omega, by go_num, HK2, HF2, HR2, hB2⟩
          case measure => simp [intOf]; omega
        | false =>
          rintro e w2 ⟨rfl, hb2⟩
          have HF2 := Lib.hid (heap_below hb2 HF.out)
          have HR2 := Lib.hid (heap_below hb2 HR.out)
          have hB2 := Below.step HB hb2
          have hT : takeF f = (putT f k, k, 0) := by unfold takeF; rw [if_pos H0.out, takeK_some hk1 hlt HK.out hth]
          have HXB : Hid (X = encF (putT f k)) := by rw [HX.out, hT]; exact rfl
          have en : n = k := by rw [Hn.out, hT]
          have ec : c = 0 := by rw [Hc.out, hT]
          obtain ⟨T0, HT0⟩ : ∃ T, Hid (T = encT f 0) := ⟨_, rfl⟩
          have HTS : Hid (T0.size = 48) := by rw [HT0.out]; exact encT_size _ _
          have HT1 : Hid (T0.all (·.oneCell') = true) := by rw [HT0.out]; exact encT_one _ _
          have HTP : Hid (∀ j, j < T0.size → A[0 + j]? = T0[j]?) := by
            have := part_tree f 0 (by omega)
            rw [Nat.zero_mul, ← HT0.out, ← HA.out] at this; exact this
          have HPB : Hid ((A.toList.take (k * 48) ++ T0.toList ++ A.toList.drop (k * 48 + T0.size)).toArray = X) := by
            rw [HA.out, HT0.out, HXB.out]; exact put_tree f k hlt
          have HF3 : Hid ((w2.setRow w.heap.size X).heap[w.heap.size]? = some (.cells X 42 (0, 0))) := setRow_heap _ _ _ _ _ _ HF2.out
          have HR3 : Hid ((w2.setRow w.heap.size X).heap[w.heap.size + 1]? = some (.cells Z0 42 (0, 0))) := heap_setRow_keep HR2.out _ _ (by omega)
          clear hth hb2 hT
          subst en ec
          go_wp2_with (first
            | (refine wpList_load_part (by kernel_rfl) 40 (.tmp 19) rfl w.heap.size 0 rfl 42 A T0 (0, 0) _ HF2.out HTP.out Try.underlying40 rfl (by rw [HTS.out]; exact treeI) ?_)
            | (refine wpList_store_part rfl 40 (.tmp 21) (.tmp 20) rfl w.heap.size (n * 48) T0 rfl rfl 42 A X HF2.out (by rw [HTS.out]; exact treeI) (by rw [HTS.out, HAS.out]; omega) HT1.out HPB.out ?_)
            | (refine wpList_load_row rfl 42 (.tmp 1) rfl w.heap.size rfl 42 X (0, 0) _ HF3.out forT rfl (by rw [HXS.out]; exact forI) ?_)
            | (refine wpList_store_row rfl 42 (.tmp 2) (.tmp 22) rfl (w.heap.size + 1) X rfl rfl 42 Z0 HR3.out (by rw [HXS.out]; exact forI) (by rw [HZS.out, HXS.out]) HX1.out ?_))
          refine bodyPost_ret (results_three rfl _ _ (w.heap.size + 1) 42 X (0, 0) _ (.int .i64 (n : Int)) (.int .i64 0) rfl rfl rfl (setRow_heap _ _ _ _ _ _ HR3.out) forT rfl (by rw [HXS.out]; exact forI)) rfl ⟨rfl, ?_⟩
          exact Below.setRow (Below.setRow hB2 (Nat.le_refl _) _) (by omega) _
      · obtain rfl : k = 4 := by omega
        have hT : takeF f = (zeroF, 0, 6) := by unfold takeF; rw [if_pos H0.out, takeK_none HK.out]
        have eX : X = Z0 := by rw [HX.out, hT, HZ0.out]
        have en : n = 0 := by rw [Hn.out, hT]
        have ec : c = 6 := by rw [Hc.out, hT]
        clear hT
        subst eX en ec
        have hz := HZ.out
        go_wp2_with (first
          | (refine wpList_store_row rfl 42 (.tmp 2) (.tmp 24) rfl (w.heap.size + 1) X rfl rfl 42 X HR.out (by rw [HZS.out]; exact forI) rfl HZ1.out ?_))
        refine bodyPost_ret (results_three rfl _ _ (w.heap.size + 1) 42 X (0, 0) _ (.int .i64 0) (.int .i64 6) rfl rfl rfl (setRow_heap _ _ _ _ _ _ HR.out) forT rfl (by rw [HZS.out]; exact forI)) rfl ⟨rfl, ?_⟩
        exact Below.setRow HB (by omega) _
theorem take_any (f : Fo) (w : World) :
    Calls Try.prog 23 #[.agg (encF f)] w fun e w' => e = .returned (.tuple #[.agg (encF (takeF f).1), .int .i64 ((takeF f).2.1 : Int), .int .i64 (takeF f).2.2]) ∧ Below w.heap.size w w' := take_raw f _ _ _ _ rfl rfl rfl rfl w

end Go.Proofs.Ytnmfbhiooccgfaa
