/- dir.Put, walked. -/
import Derived.Test.YtheiaebmemcbhaaDoorDirDel
import Derived.Laws.AppendOwn
namespace Go.Proofs.YtheiaebmemcbhaaDoor
open Go.RowKit

def putErr (D : List Int) (x : En) : Int := if okE x = false then 3 else if (outD D).any (fun y => decide (x.1 = y.1)) = true then 5 else if (outD D).length = 32 then 6 else 0
theorem put_right {D : List Int} {x : En} (h : listOk D = true) (hp : putErr D x = 0) : rightD (outD D ++ [x]) = 0 := by
  obtain ⟨_, h2, _, _⟩ := list_rising h
  have h3 := (rightD_zero _).1 h2
  unfold putErr at hp
  by_cases h4 : okE x = false
  · rw [if_pos h4] at hp; cases hp
  rw [if_neg h4] at hp
  by_cases h5 : (outD D).any (fun y => decide (x.1 = y.1)) = true
  · rw [if_pos h5] at hp; cases hp
  rw [if_neg h5] at hp
  by_cases h6 : (outD D).length = 32
  · rw [if_pos h6] at hp; cases hp
  rw [rightD_zero, List.length_append]
  refine ⟨by have := h3.1; simp; omega, fun y hy => ?_, ?_⟩
  · rcases List.mem_append.1 hy with hy | hy
    · exact h3.2.1 y hy
    · rw [List.mem_singleton] at hy; subst hy; simpa using h4
  · rw [List.map_append, List.nodup_append]
    refine ⟨h3.2.2, by simp, fun a ha b hb hab => h5 ?_⟩
    obtain ⟨y, hy, rfl⟩ := List.mem_map.1 ha
    simp at hb
    rw [List.any_eq_true]
    exact ⟨y, hy, by simp [hab, hb]⟩
def PutRes (D : List Int) (x : En) (w : World) (e : Ending) (w' : World) : Prop := (putErr D x = 0 ∧ LayOk (outD D ++ [x]) w e w') ∨ (putErr D x ≠ 0 ∧ e = .returned (.tuple #[.slice none 0 0, .int .i64 (putErr D x)]) ∧ Below w.heap.size w w')

theorem own_above {w : World} {base B : Nat} {e : TypeId} {size : Nat} {v : Value} {n : Nat} {xs : List Value} (h : w.ownsRow base e size v n xs) (hB : B ≤ base) {k : Nat} (hk : v.ownBlock = some k) : B ≤ k := by
  obtain ⟨_, ⟨hv, _⟩ | ⟨g, cap, cur, hv, hg, _⟩⟩ := h
  · rw [hv] at hk; simp [Value.ownBlock] at hk
  · rw [hv] at hk
    have : g = k := by simpa [Value.ownBlock] using hk
    omega

set_option maxRecDepth 100000 in
set_option maxHeartbeats 4000000 in
theorem put_any (v : Value) (D : List Int) (x : En) (w : World) (h : BytesIn w v D) (hD : ByteL D) (hok : listOk D = true) :
    Calls Tryd.prog 23 #[v, .agg #[.string x.1, .int .i64 x.2]] w (PutRes D x w) := by
  obtain ⟨hm, h512, _, _⟩ := (listOk_iff D).1 hok
  obtain ⟨N, HN⟩ : ∃ N, Hid (D.length = N) := ⟨_, rfl⟩
  obtain ⟨p, cp, rfl⟩ := bytes_open h.1 N HN.out
  have HR := Lib.hid (fun hp : putErr D x = 0 => put_right hok hp)
  obtain ⟨n, HM⟩ : ∃ n, Hid ((outD D).length = n) := ⟨_, rfl⟩
  have hn32 : n ≤ 32 := by rw [← HM.out, (list_rising hok).2.2.1]; omega
  obtain ⟨r, Hr⟩ : ∃ r, Hid (putErr D x = r) := ⟨_, rfl⟩
  have HPE := Hr
  unfold putErr at HPE
  unfold PutRes
  rw [Hr.out]
  rw [HM.out] at HPE
  rw [Hr.out] at HR
  obtain ⟨x1, x2⟩ := x
  obtain ⟨i0, hi0, hz0, hz1, hz2⟩ := info_parts entInfo
  have HI := Lib.hid hi0
  have HZ0 := Lib.hid hz0
  have HZ1 := Lib.hid hz1
  have HZ2 := Lib.hid hz2
  obtain ⟨w0, HW0⟩ : ∃ W, Hid (w.alloc (.cells #[.string x1, .int .i64 x2] 33) = W) := ⟨_, rfl⟩
  have hb0 : Below w.heap.size w w0 := by rw [← HW0.out]; exact (Below.refl _ _).alloc (Nat.le_refl _) _
  have hx0 : w0.heap[w.heap.size]? = some (.cells #[.string x1, .int .i64 x2] 33 (0, 0)) := by rw [← HW0.out]; exact heap_alloc_new _ _
  have HLI := Lib.hid (list_any (.slice p N cp) D w0 (h.below hb0) hD (by omega))
  have HX0 := Lib.hid hx0
  have HB0 := Lib.hid hb0
  have HOK := Lib.hid hok
  clear h hD hok hi0 hz0 hz1 hz2 hm hb0 hx0
  go_enter Tryd.func23, Tryd.ntmps23
  go_wp2_with fail
  rw [HW0.out]
  refine HLI.out.mono ?_
  intro e w1 hres
  obtain ⟨_, ov, rfl, hov, hb1⟩ | ⟨hbad, _⟩ := hres
  case inr => rw [HOK.out] at hbad; cases hbad
  rw [HM.out] at hov
  obtain ⟨q, c, rfl, _⟩ := owns_slice hov
  have hx1 := (hb1.block _ (heap_lt HX0.out)).trans HX0.out
  have a1 : w1.cell? ⟨w.heap.size, 0, none⟩ = some (.string x1) := cell_of_row _ _ _ _ _ _ hx1
  have a2 : w1.cell? ⟨w.heap.size, 1, none⟩ = some (.int .i64 x2) := cell_of_row _ _ _ _ _ _ hx1
  have HX1 := Lib.hid hx1
  have HOV := Lib.hid hov
  have HB1 : Hid (Below w.heap.size w w1) := Below.step HB0.out hb1
  have HZ : Hid (w0.heap.size ≤ w1.heap.size) := hb1.size
  obtain ⟨nm, Hnm⟩ : ∃ b, Hid (nameB x1 = b) := ⟨_, rfl⟩
  have HNM : Hid (∀ W : World, Calls Tryd.prog 15 #[.string x1] W fun e w' => e = .returned (.bool nm) ∧ W = w') := fun W => by
    rw [← Hnm.out]; exact name_any x1 W
  obtain ⟨b, Hb⟩ : ∃ b, Hid ((outD D).any (fun y => decide (x1 = y.1)) = b) := ⟨_, rfl⟩
  have hei : EntsAt w1 (.slice q n c) (outD D) := by
    unfold EntsAt; rw [HM.out]; exact RowAt.of_owns hov
  have hcl := has1_any 36 putC_any_fid (.pointer (some ⟨w.heap.size, 0, none⟩)) (fun y => decide (x1 = y.1)) _ (outD D) w1 hei (by rw [HM.out]; omega) (fun y _ W hW => putC_any x1 y w.heap.size W (by rw [hW.cell (block_lt_of_cell a1)]; exact a1))
  rw [Hb.out] at hcl
  have HCL := Lib.hid hcl
  clear hcl hei hx1 hov hb1
  go_wp2_with fail
  refine (HNM.out _).mono ?_
  rintro e w' ⟨rfl, rfl⟩
  cases nm with
  | false =>
    have hr3 : r = 3 := by rw [← HPE.out, if_pos]; unfold okE; rw [Hnm.out]; rfl
    subst hr3
    go_wp2
    go_returns
    exact Or.inr ⟨by omega, rfl, HB1.out⟩
  | true =>
    by_cases h1 : x2 < 1
    · have hr3 : r = 3 := by rw [← HPE.out, if_pos]; unfold okE; simp; omega
      subst hr3
      go_wp2
      go_returns
      exact Or.inr ⟨by omega, rfl, HB1.out⟩
    by_cases h2 : 32 < x2
    · have hr3 : r = 3 := by rw [← HPE.out, if_pos]; unfold okE; simp; omega
      subst hr3
      go_wp2
      go_returns
      exact Or.inr ⟨by omega, rfl, HB1.out⟩
    have HP2 : Hid ((if b = true then 5 else if n = 32 then 6 else 0) = r) := by
      have hok : okE (x1, x2) = true := by unfold okE; rw [Hnm.out]; simp; omega
      have h3 := HPE.out
      rw [if_neg (by rw [hok]; decide)] at h3
      have h4 : ((outD D).any fun y => decide ((x1, x2).1 = y.1)) = b := Hb.out
      rw [h4] at h3
      exact h3
    go_wp2_with fail
    refine HCL.out.mono ?_
    rintro e w2 ⟨rfl, hb2⟩
    have HB2 : Hid (Below w.heap.size w w2) := Below.step HB1.out hb2
    have HOV2 : Hid (w2.ownsRow w0.heap.size 33 2 (.slice q n c) n (ents (outD D))) := owns_below HOV.out hb2
    have hx2 := (hb2.block _ (heap_lt HX1.out)).trans HX1.out
    have d1 : w2.cell? ⟨w.heap.size, 0, none⟩ = some (.string x1) := cell_of_row _ _ _ _ _ _ hx2
    have d2 : w2.cell? ⟨w.heap.size, 1, none⟩ = some (.int .i64 x2) := cell_of_row _ _ _ _ _ _ hx2
    have hz2 : w0.heap.size ≤ w2.heap.size := Nat.le_trans HZ.out hb2.size
    clear hb2 hx2
    cases b with
    | true =>
      have hr5 : r = 5 := HP2.out.symm
      subst hr5
      go_wp2
      go_returns
      exact Or.inr ⟨by omega, rfl, HB2.out⟩
    | false =>
      by_cases h32 : n = 32
      · have hr6 : r = 6 := by have := HP2.out; rw [if_neg (by decide), if_pos h32] at this; exact this.symm
        subst hr6
        subst h32
        go_wp2
        go_returns
        exact Or.inr ⟨by omega, rfl, HB2.out⟩
      have h32i : ¬ (n : Int) = 32 := by omega
      have hr0 : r = 0 := by have := HP2.out; rw [if_neg (by decide), if_neg h32] at this; exact this.symm
      subst hr0
      have HNB : Hid ((w2.alloc (.cells #[.string x1, .int .i64 x2] 33)).heap[w2.heap.size]? = some (.cells #[.string x1, .int .i64 x2] 33 (0, 0))) := heap_alloc_new _ _
      go_wp2_with (at_builtin; refine wpList_append_own _ rfl _ _ 22 rfl w0.heap.size 33 i0 (.agg #[.string { data := #[] }, .int .i64 0]) 2 24 entsT HI.out HZ0.out HZ1.out HZ2.out rfl (by decide) _ _ _ rfl (HOV2.out.alloc _) ⟨_, 0, none⟩ 1 1 [.string x1, .int .i64 x2] rfl rfl (World.news_of_block (cs := #[.string x1, .int .i64 x2]) (t := 33) (fr := (0, 0)) HNB.out) (by simp [Value.oneCell']) (by unfold maxLen; omega) (by omega) (by simp only [alloc_size]; omega) ?_; intro v8 w8 hown hgrow _)
      have hown2 : w8.ownsRow w0.heap.size 33 2 v8 (outD D ++ [(x1, x2)]).length (ents (outD D ++ [(x1, x2)])) := by
        rw [List.length_append, HM.out, ents_append]; exact hown
      have hb8 : Below w.heap.size w w8 := Below.grown (HB2.out.alloc HB2.out.size _) hgrow (by have := HB2.out.size; simp only [alloc_size]; omega) (fun k hk => own_above HOV2.out HB0.out.size hk)
      have HL := Lib.hid (lay_ok v8 (outD D ++ [(x1, x2)]) w8 ⟨RowAt.of_owns hown2, own_cap hown2⟩ (HR.out trivial))
      have HB8 := Lib.hid hb8
      clear hown2 hb8 hown hgrow
      refine HL.out.mono ?_
      rintro e w9 ⟨u, rfl, hu, hb9⟩
      have HU := Lib.hid hu
      have HB9 : Hid (Below w.heap.size w w9) := Below.step HB8.out hb9
      clear hu hb9
      go_wp2
      go_returns
      have HRES : LayOk (outD D ++ [(x1, x2)]) w (.returned (.tuple #[u, .int .i64 0])) w9 := ⟨u, rfl, HU.out, HB9.out⟩
      first
        | exact HRES
        | exact Or.inl HRES
        | exact Or.inl ⟨rfl, HRES⟩
end Go.Proofs.YtheiaebmemcbhaaDoor
