/- state and after: the sectors from 10 on as a string; what writes make of it. -/
import Derived.Test.YtdcplaonafmbjaaJWr
import Derived.BigQuiet
namespace Go.Proofs.Ytdcplaonafmbjaa
open Go.RowKit

theorem bytesS_list (ns : List Int) : (bytesS ns).data.toList = ns.map fun n => UInt8.ofNat n.toNat := by
  have key : ∀ (l : List Int) (r : ByteArray), (l.foldl (fun r n => r.push (UInt8.ofNat n.toNat)) r).data.toList = r.data.toList ++ l.map fun n => UInt8.ofNat n.toNat := by
    intro l
    induction l with
    | nil => intro r; simp
    | cons a l ih => intro r; rw [List.foldl_cons, ih]; simp [ByteArray.push]
  simpa [bytesS] using key ns ByteArray.empty
theorem bytesS_size (ns : List Int) : (bytesS ns).size = ns.length := by
  have := congrArg List.length (bytesS_list ns)
  rwa [List.length_map, Array.length_toList] at this
theorem bytesS_cat (a b : List Int) : bytesS (a ++ b) = bytesS a ++ bytesS b := by
  apply ByteArray.ext
  rw [ByteArray.data_append]
  apply Array.toList_inj.1
  rw [Array.toList_append, bytesS_list, bytesS_list, bytesS_list, List.map_append]

theorem bytesS_extract (ns : List Int) (i j : Nat) : (bytesS ns).extract i j = bytesS ((ns.drop i).take (j - i)) := by
  apply ByteArray.ext
  rw [ByteArray.data_extract]
  apply Array.toList_inj.1
  rw [Array.toList_extract, List.extract_eq_take_drop, bytesS_list, bytesS_list, List.map_take, List.map_drop]

set_option maxRecDepth 100000 in
set_option maxHeartbeats 2000000 in
theorem state_at {w : World} {a : Addr} {st : Dk} {F : Nat → Prop} (h : DiskAt w (.pointer (some a)) st 20 F) :
    Calls Try.prog 21 #[.pointer (some a)] w fun e w' => e = .returned (.string (bytesS (st.N.drop 640))) ∧ Below w.heap.size w w' := by
  have HD := Lib.hid h
  have hlN := h.lens.2
  have HT : Hid (∀ k, k < 10 → (st.N.drop 640).take (64 * (k + 1)) = (st.N.drop 640).take (64 * k) ++ sec st.N (10 + k)) := fun k hk => by
    unfold sec
    rw [show 64 * (k + 1) = 64 * k + 64 by omega, List.take_add, List.drop_drop, show 640 + 64 * k = 64 * (10 + k) by omega]
  have HE : Hid ((st.N.drop 640).take (64 * 10) = st.N.drop 640) := List.take_of_length_le (by rw [List.length_drop, hlN]; omega)
  have HS64 : Hid (∀ n, n < 20 → (sec st.N n).length = 64) := fun n hn => sec_len hlN hn
  clear h hlN
  go_enter Try.func21, Try.ntmps21
  go_wp2
  go_loopw [3, 4] (fun s i wr => ∃ k : Nat, k ≤ 10 ∧ i = .int .i64 ((10 + k : Nat) : Int) ∧ s = .string (bytesS ((st.N.drop 640).take (64 * k))) ∧ Below w.heap.size w wr) (fun _ i _ => 20 - (intOf i).toNat)
  case atStart => exact ⟨0, by omega, rfl, rfl, Below.refl _ _⟩
  case round =>
    obtain ⟨k, hk, rfl, rfl, HB⟩ := hrel
    obtain ⟨n, Hn⟩ : ∃ n, Hid (10 + k = n) := ⟨_, rfl⟩
    rw [Hn.out]
    obtain ⟨T, HTk⟩ : ∃ T, Hid ((st.N.drop 640).take (64 * k) = T) := ⟨_, rfl⟩
    rw [HTk.out]
    have hn := Hn.out
    by_cases hlt : k < 10
    · have hlt2 : (n : Int) < 20 := by omega
      have HA := Lib.hid (at_at (HD.out.below HB) n (by omega))
      go_wp2_with fail
      refine HA.out.mono ?_
      rintro e w1 ⟨v1, rfl, hv1⟩
      have hB1 := Below.step HB hv1.below
      have hc1 : (convert 42 9 v1).run Try.prog w1 = .ok (.string (bytesS (sec st.N n))) w1 := conv_bytes hv1.at (by rw [HS64.out n (by omega)]; omega)
      have HTN : Hid (bytesS T ++ bytesS (sec st.N n) = bytesS ((st.N.drop 640).take (64 * (k + 1)))) := by
        show _ = _
        rw [HT.out k hlt, bytesS_cat, HTk.out, Hn.out]
      have hcat : ¬ 9223372036854775807 < (bytesS T).size + (bytesS (sec st.N n)).size := by
        rw [bytesS_size, bytesS_size, HS64.out n (by omega), ← HTk.out, List.length_take]; omega
      clear hv1
      go_wp2
      go_roundw
      case rel => exact ⟨k + 1, by omega, by go_num, by rw [HTN.out], hB1⟩
      case measure => simp [intOf]; omega
    · have hnl : ¬ (n : Int) < 20 := by omega
      have HF : Hid (T = st.N.drop 640) := by show _ = _; rw [← HTk.out, show k = 10 by omega]; exact HE.out
      go_wp2
      go_ret
      rw [HF.out]
      exact ⟨rfl, HB⟩

/-- A state behind writes. -/
def aftF (X : List Int) (L : List Wr) : List Int := L.foldl (fun X x => putS X (x.1 - 10) x.2) X
theorem aftF_snoc (X : List Int) (L : List Wr) (x : Wr) : aftF X (L ++ [x]) = putS (aftF X L) (x.1 - 10) x.2 := by unfold aftF; rw [List.foldl_append]; rfl

set_option maxRecDepth 100000 in
set_option maxHeartbeats 2000000 in
theorem after_any (v : Value) (E : List Jw) (X : List Int) (w : World) (h : JwsAt w v E) (hX : X.length = 640) (hE : ∀ x ∈ E, 10 ≤ x.n ∧ x.n < 20) (hl : E.length ≤ 1000) :
    Calls Try.prog 24 #[.string (bytesS X), v] w fun e w' => e = .returned (.string (bytesS (aftF X (E.map jab)))) ∧ Below w.heap.size w w' := by
  obtain ⟨p, cp, rfl, HP⟩ := jws_open h.1
  obtain ⟨N, HN⟩ : ∃ n, Hid (E.length = n) := ⟨_, rfl⟩
  rw [HN.out] at hl HP
  rw [HN.out]
  have HE := Lib.hid hE
  have HJ := Lib.hid h.2
  have HL : Hid (∀ k, k ≤ E.length → (aftF X ((E.take k).map jab)).length = 64 * 10) := by
    intro k
    induction k with
    | zero => intro _; exact hX
    | succ k ih =>
      intro hk
      rw [← List.take_append_getElem (show k < E.length by omega), List.map_append]
      show (aftF X (_ ++ [jab E[k]])).length = _
      rw [aftF_snoc]
      have := hE E[k] (List.getElem_mem _)
      exact putS_len (ih (by omega)) (by show E[k].n - 10 < 10; omega) (h.2 E[k] (List.getElem_mem _)).2.2
  clear h hE hX
  go_enter Try.func24, Try.ntmps24
  go_wp2
  go_loopw [0, 10] (fun s i wr => ∃ k : Nat, k ≤ N ∧ i = .int .i64 k ∧ s = .string (bytesS (aftF X ((E.take k).map jab))) ∧ Below w.heap.size w wr) (fun _ i _ => N - (intOf i).toNat)
  case atStart => exact ⟨0, Nat.zero_le _, rfl, rfl, Below.refl _ _⟩
  case round =>
    obtain ⟨k, hk, rfl, rfl, HB⟩ := hrel
    obtain ⟨Y, HY⟩ : ∃ Y, Hid (aftF X ((E.take k).map jab) = Y) := ⟨_, rfl⟩
    have HYL : Hid (Y.length = 640) := by show _ = _; rw [← HY.out]; exact HL.out k (by rw [HN.out]; exact hk)
    rw [HY.out]
    by_cases hlt : k < N
    · obtain ⟨g, o, rfl, hg, hc⟩ := HP.out (by omega)
      have hkl : k < E.length := by rw [HN.out]; exact hlt
      obtain ⟨e0, e1⟩ := jcells_get E k hkl
      have hx := HJ.out E[k] (List.getElem_mem hkl)
      have hxr := HE.out E[k] (List.getElem_mem hkl)
      have HT : Hid (aftF X ((E.take (k + 1)).map jab) = putS Y (E[k].n - 10) E[k].D) := by
        show _ = _
        rw [← List.take_append_getElem hkl, List.map_append, ← HY.out]
        show aftF X (_ ++ [jab E[k]]) = _
        rw [aftF_snoc]; rfl
      generalize E[k] = x at e0 e1 hx hxr HT
      obtain ⟨xn, xv, xD⟩ := x
      obtain ⟨hx256, hxb, hxD⟩ := hx
      dsimp only at e0 e1 hxb hxD hxr HT
      obtain ⟨_, ⟨h0, _⟩ | ⟨gx, ox, cx, hxv, hcx⟩⟩ := id hxb
      · omega
      rw [hxD] at hxv
      subst hxv
      have c0 := (HB.cell (p := ⟨g, o + k * 2, none⟩) hg).trans (hc _ _ e0)
      have c1 := (HB.cell (p := ⟨g, o + (k * 2 + 1), none⟩) hg).trans (hc _ _ e1)
      rw [← Nat.add_assoc] at c1
      have hlt2 : (k : Int) < (N : Int) := by omega
      have hgl : g < wr.heap.size := Nat.lt_of_lt_of_le hg HB.size
      have hgn : ¬ g = wr.heap.size := by omega
      have hBA : Below w.heap.size w (wr.alloc (.cells #[.int .i64 (xn : Int), .slice (some ⟨gx, ox, none⟩) 64 cx] 44)) := HB.alloc HB.size _
      have HBA := Lib.hid hBA
      have hcv : (convert 42 9 (.slice (some ⟨gx, ox, none⟩) 64 cx)).run Try.prog (wr.alloc (.cells #[.int .i64 (xn : Int), .slice (some ⟨gx, ox, none⟩) 64 cx] 44)) = .ok (.string (bytesS xD)) (wr.alloc (.cells #[.int .i64 (xn : Int), .slice (some ⟨gx, ox, none⟩) 64 cx] 44)) :=
        conv_bytes (RowAt.below (w := w) hxb HBA.out) (by omega)
      obtain ⟨i, Hi⟩ : ∃ i, Hid (xn - 10 = i) := ⟨_, rfl⟩
      obtain ⟨hxr1, hxr2⟩ := hxr
      have hi10 : i < 10 := by rw [← Hi.out]; omega
      rw [Hi.out] at HT
      have hw1 : IntKind.i64.wrap ((xn : Int) - 10) = (i : Int) := by rw [IntWalk.i64_in _ (by omega), ← Hi.out]; omega
      have hw2 : IntKind.i64.wrap ((i : Int) * 64) = ((64 * i : Nat) : Int) := by rw [IntWalk.i64_in _ (by omega)]; omega
      obtain ⟨j, Hj⟩ : ∃ j, Hid (64 * i = j) := ⟨_, rfl⟩
      have hj : j + 64 ≤ 640 := by rw [← Hj.out]; omega
      rw [Hj.out] at hw2
      have hw3 : IntKind.i64.wrap ((j : Int) + 64) = ((j + 64 : Nat) : Int) := by rw [IntWalk.i64_in _ (by omega)]; omega
      have hsz : (bytesS Y).size = 640 := by rw [bytesS_size]; exact HYL.out
      have HXB := Lib.hid hxb
      clear hc e0 e1 hcx hBA hxb
      go_wp2_with fail
      have hcv2 : (convert 42 9 (.slice (some ⟨gx, ox, none⟩) 64 cx)).run Try.prog (wr.alloc (.cells #[.int .i64 (xn : Int), .slice (some ⟨gx, ox, none⟩) 64 cx] 44)).drew = .ok (.string (bytesS xD)) (wr.alloc (.cells #[.int .i64 (xn : Int), .slice (some ⟨gx, ox, none⟩) 64 cx] 44)).drew :=
        conv_bytes (RowAt.below (w := w) HXB.out HBA.out.drew) (by omega)
      have hji : (j : Int) ≤ 640 := by omega
      have hji2 : (j : Int) + 64 ≤ 640 := by omega
      have hb : decide ((640 : Int) < (j : Int) + 64) = false := by rw [decide_eq_false_iff_not]; omega
      have hxs : (bytesS xD).size = 64 := by rw [bytesS_size]; exact hxD
      have hm1 : ¬ 9223372036854775807 < min j 640 + 64 := by omega
      go_region
      have HEX : Hid ((bytesS Y).extract 0 j ++ bytesS xD ++ (bytesS Y).extract (j + 64) 640 = bytesS (aftF X ((E.take (k + 1)).map jab))) := by
        show _ = _
        rw [HT.out, bytesS_extract, bytesS_extract, ← bytesS_cat, ← bytesS_cat]
        unfold putS
        rw [List.drop_zero, Nat.sub_zero, Hj.out, List.append_assoc, List.take_of_length_le (l := Y.drop (j + 64)) (by rw [List.length_drop, HYL.out]; exact Nat.le_refl _)]
      go_wp2
      go_roundw
      case rel => exact ⟨k + 1, by omega, by go_num, by rw [HEX.out], HBA.out.drew⟩
      case measure => simp [intOf]; omega
    · have HF : Hid (Y = aftF X (E.map jab)) := by show _ = _; rw [← HY.out, List.take_of_length_le (by rw [HN.out]; omega)]
      go_wp2
      go_ret
      rw [HF.out]
      exact ⟨rfl, HB⟩

end Go.Proofs.Ytdcplaonafmbjaa
