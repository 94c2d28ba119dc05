/- dir.List, walked. -/
import Derived.Test.YtheiaebmemcbhaaDoorDirList1
import Derived.Test.YtheiaebmemcbhaaDoorEqB
namespace Go.Proofs.YtheiaebmemcbhaaDoor
open Go.RowKit

def ListOk (D : List Int) (w : World) (e : Ending) (w' : World) : Prop := ∃ v, e = .returned (.tuple #[v, .int .i64 0]) ∧ w'.ownsRow w.heap.size 33 2 v (outD D).length (ents (outD D)) ∧ Below w.heap.size w w'
def ListBad (w : World) (e : Ending) (w' : World) : Prop := e = .returned (.tuple #[.slice none 0 0, .int .i64 3]) ∧ Below w.heap.size w w'
theorem bytes_open {w : World} {v : Value} {D : List Int} (h : BytesAt w v D) (N : Nat) (hN : D.length = N) : ∃ p cp, v = .slice p N cp := by
  subst hN
  obtain ⟨_, ⟨h0, a0, c0, rfl⟩ | ⟨g, o, cap, rfl, _⟩⟩ := h
  · exact ⟨a0, c0, by rw [h0]⟩
  · exact ⟨_, cap, rfl⟩
theorem own_cap {w : World} {base : Nat} {e : TypeId} {size : Nat} {v : Value} {n : Nat} {xs : List Value} (h : w.ownsRow base e size v n xs) : CapOk v := by
  intro p n' c he
  obtain ⟨_, ⟨rfl, h0⟩ | ⟨g, cap, cur, rfl, _, _, hc, _⟩⟩ := h
  · injection he with _ e2 e3; omega
  · injection he with _ e2 e3; omega

set_option maxRecDepth 100000 in
set_option maxHeartbeats 4000000 in
theorem list_form (v : Value) (D : List Int) (w : World) (h : BytesIn w v D) (hl : D.length ≤ 1000000) (hbad : D.length % 16 ≠ 0 ∨ 512 < D.length) :
    Calls Tryd.prog 20 #[v] w (ListBad w) := by
  obtain ⟨N, HN⟩ : ∃ N, Hid (D.length = N) := ⟨_, rfl⟩
  obtain ⟨p, cp, rfl⟩ := bytes_open h.1 N HN.out
  rw [HN.out] at hl hbad
  have HB : Hid (Below w.heap.size w (w.alloc (.cells #[.slice p N cp] 25))) := (Below.refl _ _).alloc (Nat.le_refl _) _
  clear h
  obtain ⟨r, Hr⟩ : ∃ r, Hid (N % 16 = r) := ⟨_, rfl⟩
  have hrem : (N : Int).tmod 16 = (r : Int) := by rw [← Hr.out]; rfl
  by_cases hr0 : r = 0
  · subst hr0
    have h5 : (512 : Int) < (N : Int) := by have := Hr.out; omega
    go_enter Tryd.func20, Tryd.ntmps20
    go_wp2
    go_returns
    exact ⟨rfl, HB.out⟩
  · have h5 : ¬ (r : Int) = 0 := by omega
    go_enter Tryd.func20, Tryd.ntmps20
    go_wp2
    go_returns
    exact ⟨rfl, HB.out⟩

def ListRight (D : List Int) (w : World) (e : Ending) (w' : World) : Prop := (listOk D = true ∧ ListOk D w e w') ∨ (listOk D = false ∧ ListBad w e w')
set_option maxRecDepth 100000 in
set_option maxHeartbeats 4000000 in
theorem list_walk (v : Value) (D : List Int) (w : World) (h : BytesIn w v D) (hD : ByteL D) (hm : D.length % 16 = 0) (h512 : D.length ≤ 512) :
    Calls Tryd.prog 20 #[v] w (ListRight D w) := by
  obtain ⟨N, HN⟩ : ∃ N, Hid (D.length = N) := ⟨_, rfl⟩
  obtain ⟨p, cp, rfl⟩ := bytes_open h.1 N HN.out
  rw [HN.out] at hm h512
  obtain ⟨n, Hn⟩ : ∃ n, Hid (N / 16 = n) := ⟨_, rfl⟩
  have hrem : (N : Int).tmod 16 = 0 := by
    show ((N % 16 : Nat) : Int) = 0
    rw [hm]; rfl
  have hquo : (N : Int).tdiv 16 = (n : Int) := by rw [← Hn.out]; rfl
  have h5 : ¬ (512 : Int) < (N : Int) := by omega
  have hn32 : n ≤ 32 := by have := Hn.out; omega
  have hn16 : 16 * n = D.length := by rw [HN.out]; have := Hn.out; omega
  obtain ⟨w1, HW1⟩ : ∃ W, Hid ((((w.alloc (.cells #[.slice p N cp] 25)).alloc (.cells #[.int .i64 (n : Int)] 3)).alloc (.cells #[.slice none 0 0] 22)).alloc (.cells #[.func (.func 33) #[] #[.pointer (some ⟨w.heap.size + 1, 0, none⟩), .pointer (some ⟨w.heap.size + 1 + 1 + 1, 0, none⟩), .pointer (some ⟨w.heap.size + 1 + 1, 0, none⟩), .pointer (some ⟨w.heap.size, 0, none⟩)]] 55) = W) := ⟨_, rfl⟩
  have hb1 : Below w.heap.size w w1 := by
    rw [← HW1.out]
    exact ((((Below.refl _ _).alloc (Nat.le_refl _) _).alloc (by simp only [alloc_size]; omega) _).alloc (by simp only [alloc_size]; omega) _).alloc (by simp only [alloc_size]; omega) _
  have h10 : w1.heap[w.heap.size]? = some (.cells #[.slice p N cp] 25 (0, 0)) := by
    rw [← HW1.out, alloc_old (by simp only [alloc_size]; omega), alloc_old (by simp only [alloc_size]; omega), alloc_old (by simp only [alloc_size]; omega), alloc_at rfl]
  have h11 : w1.heap[w.heap.size + 1]? = some (.cells #[.int .i64 (n : Int)] 3 (0, 0)) := by
    rw [← HW1.out, alloc_old (by simp only [alloc_size]; omega), alloc_old (by simp only [alloc_size]; omega), alloc_at (by simp only [alloc_size])]
  have h12 : w1.heap[w.heap.size + 1 + 1]? = some (.cells #[.slice none 0 0] 22 (0, 0)) := by
    rw [← HW1.out, alloc_old (by simp only [alloc_size]; omega), alloc_at (by simp only [alloc_size])]
  have h13 : w1.heap[w.heap.size + 1 + 1 + 1]? = some (.cells #[.func (.func 33) #[] #[.pointer (some ⟨w.heap.size + 1, 0, none⟩), .pointer (some ⟨w.heap.size + 1 + 1 + 1, 0, none⟩), .pointer (some ⟨w.heap.size + 1 + 1, 0, none⟩), .pointer (some ⟨w.heap.size, 0, none⟩)]] 55 (0, 0)) := by
    rw [← HW1.out, alloc_at (by simp only [alloc_size])]
  have hla : ListAt w (w.heap.size + 1) (w.heap.size + 1 + 1 + 1) (w.heap.size + 1 + 1) w.heap.size n (.slice p N cp) [] w1 :=
    ⟨⟨by omega, by omega, by omega, Nat.le_refl _⟩, h11, h13, h10, ⟨_, h12, ⟨rfl, Or.inl ⟨rfl, rfl⟩⟩⟩, hb1⟩
  have hcall := list1_any w (w.heap.size + 1) (w.heap.size + 1 + 1 + 1) (w.heap.size + 1 + 1) w.heap.size n (.slice p N cp) D h hD hn16 hn32 n 0 [] w1 (by omega) (by rw [(ino_ok hn32).2.1]; simpa using hn32) (by omega) hla
  rw [show ((0 : Nat) : Int) = 0 from rfl] at hcall
  have HCALL := Lib.hid hcall
  have hout : [] ++ (ino n 0).map (rdE D) = outD D := by unfold outD; rw [HN.out, Hn.out, List.nil_append]
  have HOUT := Lib.hid hout
  have HOL : Hid ((outD D).length = n) := by show _ = _; rw [← hout, List.nil_append, List.length_map, (ino_ok hn32).2.1]
  have HIN := Lib.hid h
  have HH : Hid (D.length % 16 = 0 ∧ D.length ≤ 512 ∧ D.length = 16 * n) := by rw [HN.out]; exact ⟨hm, h512, by rw [← HN.out, hn16]⟩
  clear h hm h512 hb1 h10 h11 h12 h13 hla hcall hout
  go_enter Tryd.func20, Tryd.ntmps20
  go_wp2_with fail
  rw [HW1.out]
  refine HCALL.out.mono ?_
  rintro e w2 ⟨rfl, h2⟩
  rw [HOUT.out] at h2
  obtain ⟨ov, hgo, hov⟩ := h2.o
  have k0 : w2.cell? ⟨w.heap.size + 1 + 1, 0, none⟩ = some ov := cell_of_row _ _ _ _ _ _ hgo
  have hB2 := h2.hb
  have hgb := h2.b
  have HGO := Lib.hid hgo
  have HGB := Lib.hid hgb
  have HOV := Lib.hid hov
  have HB2 := Lib.hid hB2
  have hei : EntsIn w2 ov (outD D) := ⟨RowAt.of_owns hov, own_cap hov⟩
  by_cases hr : rightD (outD D) = 0
  · have HL := Lib.hid (lay_ok ov (outD D) w2 hei hr)
    have HR := Lib.hid hr
    clear h2 hgo hgb hov hB2 hei hr
    go_wp2_with fail
    refine HL.out.mono ?_
    rintro e w3 ⟨c, rfl, hc, hb3⟩
    have hll : (layD (outD D)).length = D.length := by rw [layD_len HR.out, HOL.out, HH.out.2.2]
    have kb : w3.cell? ⟨w.heap.size, 0, none⟩ = some (.slice p N cp) := (hb3.cell (p := ⟨w.heap.size, 0, none⟩) (heap_lt HGB.out)).trans (cell_of_row _ _ _ _ _ _ HGB.out)
    have ko : w3.cell? ⟨w.heap.size + 1 + 1, 0, none⟩ = some ov := (hb3.cell (p := ⟨w.heap.size + 1 + 1, 0, none⟩) (heap_lt HGO.out)).trans (cell_of_row _ _ _ _ _ _ HGO.out)
    have hB3 := Below.step HB2.out hb3
    have heq := equalBytes_dec c (.slice p N cp) (layD (outD D)) D w3 hc.1 (HIN.out.below hB3).1 hll (by rw [hll, HN.out]; omega)
    obtain ⟨b, Hb⟩ : ∃ b, Hid (eqB (layD (outD D)) D = b) := ⟨_, rfl⟩
    rw [Hb.out] at heq
    have HEQ := Lib.hid heq
    have HB3 := Lib.hid hB3
    have HO3 : Hid (w3.ownsRow w.heap.size 33 2 ov (outD D).length (ents (outD D))) := owns_below HOV.out hb3
    have hgo3 : w.heap.size + 1 + 1 < w3.heap.size := Nat.lt_of_lt_of_le (heap_lt HGO.out) hb3.size
    clear hc hb3 hll hB3 heq
    go_wp2_with fail
    refine HEQ.out.mono ?_
    rintro e w4 ⟨rfl, hb4⟩
    have k4 : w4.cell? ⟨w.heap.size + 1 + 1, 0, none⟩ = some ov := (hb4.cell (p := ⟨w.heap.size + 1 + 1, 0, none⟩) hgo3).trans ko
    have HB4 : Hid (Below w.heap.size w w4) := Below.step HB3.out hb4
    have HO4 : Hid (w4.ownsRow w.heap.size 33 2 ov (outD D).length (ents (outD D))) := owns_below HO3.out hb4
    clear hb4
    cases b with
    | true =>
      have HRES : Hid (ListRight D w (.returned (.tuple #[ov, .int .i64 0])) w4) := by
        refine Or.inl ⟨(listOk_iff D).2 ⟨HH.out.1, HH.out.2.1, HR.out, ?_⟩, ⟨ov, rfl, HO4.out, HB4.out⟩⟩
        have := Hb.out
        unfold eqB at this
        simpa using this
      go_wp2
      go_returns
      exact HRES.out
    | false =>
      have HRES : Hid (ListRight D w (.returned (.tuple #[.slice none 0 0, .int .i64 3])) w4) := by
        refine Or.inr ⟨?_, ⟨rfl, HB4.out⟩⟩
        cases hq : listOk D with
        | false => rfl
        | true =>
          have h1 := ((listOk_iff D).1 hq).2.2.2
          have := Hb.out
          unfold eqB at this
          simp [h1] at this
      go_wp2
      go_returns
      exact HRES.out
  · obtain ⟨r, Hr⟩ : ∃ r, Hid (rightD (outD D) = r) := ⟨_, rfl⟩
    have hrr := hr
    rw [Hr.out] at hrr
    have HL := Lib.hid (lay_bad ov (outD D) w2 hei (by rw [HOL.out]; omega) r Hr.out hrr)
    have HR := Lib.hid hr
    clear h2 hgo hgb hov hB2 hei hr
    go_wp2_with fail
    refine HL.out.mono ?_
    rintro e w3 ⟨rfl, hb3⟩
    have HB3 : Hid (Below w.heap.size w w3) := Below.step HB2.out hb3
    have HRES : Hid (ListRight D w (.returned (.tuple #[.slice none 0 0, .int .i64 3])) w3) := by
      refine Or.inr ⟨?_, ⟨rfl, HB3.out⟩⟩
      cases hq : listOk D with
      | false => rfl
      | true => exact absurd ((listOk_iff D).1 hq).2.2.1 HR.out
    clear hb3
    go_wp2
    go_returns
    exact HRES.out
theorem list_any (v : Value) (D : List Int) (w : World) (h : BytesIn w v D) (hD : ByteL D) (hl : D.length ≤ 1000000) : Calls Tryd.prog 20 #[v] w (ListRight D w) := by
  by_cases hm : D.length % 16 = 0 ∧ D.length ≤ 512
  · exact list_walk v D w h hD hm.1 hm.2
  · refine (list_form v D w h hl (by omega)).mono fun e w' hb => Or.inr ⟨?_, hb⟩
    cases hq : listOk D with
    | false => rfl
    | true => exact absurd ⟨((listOk_iff D).1 hq).1, ((listOk_iff D).1 hq).2.1⟩ hm
end Go.Proofs.YtheiaebmemcbhaaDoor
