/- dir.Right, walked. -/
import Derived.Test.YtheiaebmemcbhaaDoorDirW2
namespace Go.Proofs.YtheiaebmemcbhaaDoor
open Go.RowKit

theorem EntsAt.take {w : World} {p : Option Addr} {N cp : Nat} {l : List En} (h : EntsAt w (.slice p N cp) l) {k : Nat} (hk : k ≤ l.length) : EntsAt w (.slice p k cp) (l.take k) := by
  have hlen : (l.take k).length = k := by rw [List.length_take]; omega
  refine ⟨by rw [ents_len], ?_⟩
  rw [hlen]
  rcases Nat.eq_zero_or_pos k with h0 | h0
  · exact Or.inl ⟨h0, p, cp, by rw [h0]⟩
  · obtain ⟨_, ⟨h1, _⟩ | ⟨g, o, cap, hv, hc⟩⟩ := h
    · omega
    · injection hv with e1 e2 e3
      subst e1 e3
      refine Or.inr ⟨g, o, _, rfl, fun j x hj => hc j x ?_⟩
      have e : ents l = ents (l.take k) ++ ents (l.drop k) := by rw [← ents_append, List.take_append_drop]
      rw [e, List.getElem?_append_left (List.getElem?_eq_some_iff.1 hj).1]
      exact hj
/-- No longer than there is room for. -/
def CapOk (v : Value) : Prop := ∀ p n c, v = .slice p n c → n ≤ c
theorem EntsAt.below {w w' : World} {v : Value} {l : List En} (h : EntsAt w v l) (hb : Below w.heap.size w w') : EntsAt w' v l := RowAt.below h hb
theorem rD_step (S : List En) (x : En) (l : List En) : rD S (x :: l) = if okE x = false then 3 else if S.any (fun y => decide (x.1 = y.1)) then 5 else rD (S ++ [x]) l := by
  have : S.any (fun y => decide (x.1 = y.1)) = S.any (fun y => decide (y.1 = x.1)) := by
    congr 1
    funext y
    rw [decide_eq_decide]
    exact eq_comm
  rw [this]; rfl

set_option maxRecDepth 100000 in
set_option maxHeartbeats 2000000 in
theorem right_any (v : Value) (l : List En) (w : World) (h : EntsAt w v l) (hv : CapOk v) (hl : l.length ≤ 1000000) :
    Calls Tryd.prog 21 #[v] w fun e w' => e = .returned (.int .i64 (rightD l)) ∧ Below w.heap.size w w' := by
  obtain ⟨r, Hr⟩ : ∃ r, Hid (rightD l = r) := ⟨_, rfl⟩
  rw [Hr.out]
  obtain ⟨N, HN⟩ : ∃ N, Hid (N = l.length) := ⟨_, rfl⟩
  obtain ⟨p, cp, rfl, hp⟩ := ents_open h N HN.out
  have HP := Lib.hid hp
  have HE := Lib.hid h
  have hcp : N ≤ cp := hv _ _ _ rfl
  rw [← HN.out] at hl
  clear h hp
  by_cases h32 : 32 < N
  · have hr2 : r = 2 := by rw [← Hr.out]; unfold rightD; rw [if_pos (by rw [← HN.out]; exact h32)]
    subst hr2
    have h32i : (32 : Int) < (N : Int) := by omega
    go_enter Tryd.func21, Tryd.ntmps21
    go_wp2
    go_ret
    exact ⟨rfl, Below.refl _ _⟩
  have HR : Hid (rD [] l = r) := by
    show _ = _
    rw [← Hr.out]; unfold rightD; rw [if_neg (by rw [← HN.out]; exact h32)]
  have h32i : ¬ (32 : Int) < (N : Int) := by omega
  go_enter Tryd.func21, Tryd.ntmps21
  go_wp2
  go_loopw [10] (fun i wr => ∃ k : Nat, k ≤ N ∧ i = .int .i64 k ∧ Hid (rD (l.take k) (l.drop k) = r) ∧ Below w.heap.size w wr) (fun i _ => N - (intOf i).toNat)
  case atStart => exact ⟨0, Nat.zero_le _, rfl, by show rD (l.take 0) (l.drop 0) = r; simpa using HR.out, Below.refl _ _⟩
  case round =>
    obtain ⟨k, hk, rfl, HK, HB⟩ := hrel
    by_cases hlt : k < N
    · obtain ⟨g, o, rfl, hg, hc⟩ := HP.out (by omega)
      have hkl : k < l.length := by rw [← HN.out]; exact hlt
      have hck := hc k hkl
      obtain ⟨x, HX⟩ : ∃ x, Hid (l[k] = x) := ⟨l[k], rfl⟩
      rw [HX.out] at hck
      have hst := HK.out
      rw [List.drop_eq_getElem_cons hkl, HX.out, rD_step] at hst
      have HS := Lib.hid hst
      have HTK : Hid (l.take k ++ [x] = l.take (k + 1)) := by
        show _ = _
        rw [← HX.out, List.take_append_getElem hkl]
      obtain ⟨x1, x2⟩ := x
      have c1 := (HB.cell (p := ⟨g, o + k * 2, none⟩) hg).trans hck.1
      have c2 := (HB.cell (p := ⟨g, o + (k * 2 + 1), none⟩) hg).trans hck.2
      have c3 := c2
      rw [← Nat.add_assoc] at c3
      have HEk := Lib.hid (HE.out.take (k := k) (by omega))
      clear hc hck hst
      have hlt2 : (k : Int) < (N : Int) := by omega
      have hkc : (k : Int) ≤ (cp : Int) := by omega
      obtain ⟨nm, Hnm⟩ : ∃ b, Hid (nameB x1 = b) := ⟨_, rfl⟩
      have HNM : Hid (∀ W : World, Calls Tryd.prog 15 #[.string x1] W fun e w' => e = .returned (.bool nm) ∧ W = w') := fun W => by
        rw [← Hnm.out]; exact name_any x1 W
      have HBA : Hid (Below w.heap.size w (wr.alloc (.cells #[.string x1, .int .i64 x2] 33))) := HB.alloc HB.size _
      have hA := heap_alloc_new wr (.cells #[.string x1, .int .i64 x2] 33)
      have hA1 : (wr.alloc (.cells #[.string x1, .int .i64 x2] 33)).cell? ⟨wr.heap.size, 0, none⟩ = some (.string x1) := cell_of_row _ _ _ _ _ _ hA
      have HA1 := Lib.hid hA1
      obtain ⟨b, Hb⟩ : ∃ b, Hid ((l.take k).any (fun y => decide (x1 = y.1)) = b) := ⟨_, rfl⟩
      have hcl := has1_any 34 rightC_any_fid (.pointer (some ⟨wr.heap.size, 0, none⟩)) (fun y => decide (x1 = y.1)) _ (l.take k) _ (HEk.out.below HBA.out) (by rw [List.length_take]; omega) (fun y _ W hW => rightC_any x1 y wr.heap.size W (by rw [hW.cell (block_lt_of_cell hA1)]; exact hA1))
      rw [Hb.out] at hcl
      have HCL := Lib.hid hcl
      clear hA hA1 hcl
      go_wp2_with fail
      refine (HNM.out _).mono ?_
      rintro e w1 ⟨rfl, rfl⟩
      cases nm with
      | false =>
        have hr3 : r = 3 := by
          rw [← HS.out, if_pos]; unfold okE; rw [Hnm.out]; rfl
        subst hr3
        go_wp2
        go_ret
        exact ⟨rfl, HBA.out⟩
      | true =>
        by_cases h1 : x2 < 1
        · have hr3 : r = 3 := by
            rw [← HS.out, if_pos]; unfold okE; simp; omega
          subst hr3
          go_wp2
          go_ret
          exact ⟨rfl, HBA.out⟩
        by_cases h2 : 32 < x2
        · have hr3 : r = 3 := by
            rw [← HS.out, if_pos]; unfold okE; simp; omega
          subst hr3
          go_wp2
          go_ret
          exact ⟨rfl, HBA.out⟩
        have hok : Hid (okE (x1, x2) = true) := by
          show _ = _
          unfold okE; rw [Hnm.out]; simp; omega
        have HS2 : Hid ((if b = true then 5 else rD (l.take (k + 1)) (l.drop (k + 1))) = r) := by
          show _ = _
          have h3 := HS.out
          rw [if_neg (by rw [hok.out]; decide), HTK.out] at h3
          have h4 : ((l.take k).any fun y => decide ((x1, x2).1 = y.1)) = b := Hb.out
          rw [h4] at h3
          exact h3
        go_wp2_with fail
        refine HCL.out.mono ?_
        rintro e w2 ⟨rfl, hb2⟩
        have HB2 := Below.step HBA.out hb2
        clear hb2
        cases b with
        | true =>
          have hr5 : r = 5 := HS2.out.symm
          subst hr5
          go_wp2
          go_ret
          exact ⟨rfl, HB2⟩
        | false =>
          have HS3 : Hid (rD (l.take (k + 1)) (l.drop (k + 1)) = r) := HS2.out
          go_wp2
          go_roundw
          case rel => exact ⟨k + 1, by omega, by go_num, HS3, HB2⟩
          case measure => simp [intOf]; omega
    · have hr0 : r = 0 := by
        have := HK.out
        rw [List.drop_eq_nil_of_le (by rw [← HN.out]; omega)] at this
        rw [← this]; rfl
      subst hr0
      go_wp2
      go_ret
      exact ⟨rfl, HB⟩
end Go.Proofs.YtheiaebmemcbhaaDoor
