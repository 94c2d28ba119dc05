/- BufferMore: with more room what was at hand is, in the same order: the statement in full, for all inputs, no condition. -/
import Derived.Test.YthkcnihmfeilgaaBuffered
import Derived.Test.YthkcnihmfeilgaaBufMoreP
import Derived.Test.YthkcnihmfeilgaaOpenUses
import Derived.Test.YthkcnihmfeilgaaOpenInts
import Derived.Test.YthkcnihmfeilgaaLawEnd
import Derived.ChangeShapes
namespace Go.Proofs.Ythkcnihmfeilgaa
open Go.ChangeShapes Go.WideShapes Go.ChangeAt Go.RowKit

theorem someB_le {l : List (Int × ByteArray × Bool)} (h : someB l = true) : l.length ≤ 60 := by
  unfold someB at h
  simp at h
  exact h.1
theorem ints_take_at {w : World} {a : Option Addr} {n m c c' : Nat} {l : List Int} (h : IntsAt w (.slice a n c) l) (hm : m ≤ n) : IntsAt w (.slice a m c') (l.take m) := by
  obtain ⟨hl, h2⟩ := h
  have hn : n = l.length := by
    rcases h2 with ⟨h0, a0, c0, he⟩ | ⟨g, o, c0, he, _⟩
    · injection he with _ e2 _; omega
    · injection he with _ e2 _
  have hlm : (l.take m).length = m := by rw [List.length_take]; omega
  refine ⟨by simp [ints], ?_⟩
  rcases h2 with ⟨h0, a0, c0, he⟩ | ⟨g, o, c0, he, hc⟩
  · have hm0 : m = 0 := by omega
    subst hm0
    exact Or.inl ⟨by simp, a, c', rfl⟩
  · injection he with e1 e2 e3
    subst e1
    refine Or.inr ⟨g, o, c', by rw [hlm], fun j x hx => hc j x ?_⟩
    have e : ints (l.take m) = (ints l).take m := by simp [ints, List.map_take]
    rw [e, List.getElem?_take] at hx
    split at hx
    · exact hx
    · cases hx

set_option maxRecDepth 100000 in
set_option maxHeartbeats 4000000 in
theorem bufferMore_walk (sa sb A B : Nat) (a b : Int) (HA : Hid (pkN a 32 = sa)) (HB : Hid (pkN b 32 = sb)) (hsa : sa < 32) (hsb : sb < 32) (hmin : 1 + min (sa : Int) (sb : Int) = (A : Int)) (hmax : 1 + max (sa : Int) (sb : Int) = (B : Int)) (hA1 : 1 ≤ A) (hAB : A ≤ B) (hB32 : B ≤ 32)
    (v : Value) (l : List (Int × ByteArray × Bool)) (w : World) (h : UsesAt w v l) (hl : l.length ≤ maxLen) (hs : ∀ x, x ∈ l → x.2.1.size ≤ maxLen) (hsome : Hid (someB l = true)) :
    Calls Try.prog 4 #[.int .i64 a, .int .i64 b, v] w fun e w' => e = .returned (.bool true) ∧ Below w.heap.size w w' := by
  obtain ⟨N, HN⟩ : ∃ N, Hid (N = l.length) := ⟨_, rfl⟩
  obtain ⟨p, cp, hv, _⟩ := uses_open h N HN.out
  subst hv
  have H := Lib.hid h
  have HL := Lib.hid hl
  have HS := Lib.hid hs
  have HMIN := Lib.hid hmin
  have HMAX := Lib.hid hmax
  clear h hl hs hmin hmax
  go_enter Try.func4, Try.ntmps4
  go_wp2_with fail
  refine (buffered_true _).mono ?_
  rintro e w1 ⟨rfl, hb1⟩
  go_wp2_with fail
  refine (some_any _ l _ (RowAt.below H.out hb1) HL.out HS.out).mono ?_
  rw [hsome.out]
  rintro e w2 ⟨rfl, hb2⟩
  have hB2 := Below.step hb1 hb2
  clear hb1 hb2
  go_wp2_with fail
  refine (pickN a 32 _ (by omega) (by omega)).mono ?_
  rw [HA.out]
  rintro e w' ⟨rfl, rfl⟩
  go_wp2_with fail
  refine (pickN b 32 _ (by omega) (by omega)).mono ?_
  rw [HB.out]
  rintro e w' ⟨rfl, rfl⟩
  go_wp2_with fail
  refine (used_any _ l A _ ?hxa hA1 (by omega) _ (RowAt.below H.out hB2) (by have := someB_le hsome.out; omega)).mono ?_
  case hxa => exact HMIN.out
  rintro e w3 ⟨gc, c, rfl, hown⟩
  have HO3 := Lib.hid hown
  have hB3 : Below w.heap.size w w3 := by obtain ⟨_, _, _, _, _, hb⟩ := hown; exact Below.step hB2 hb
  clear hown
  go_wp2_with fail
  refine (used_any _ l B _ ?hxb (by omega) hB32 _ (RowAt.below H.out hB3) (by have := someB_le hsome.out; omega)).mono ?_
  case hxb => exact HMAX.out
  rintro e w4 ⟨gc', c', rfl, hown⟩
  have hb4 : Below w3.heap.size w3 w4 := by obtain ⟨_, _, _, _, _, hb⟩ := hown; exact hb
  have HO3' := Lib.hid (HO3.out.below hb4)
  have HO4 := Lib.hid hown
  have hB4 : Below w.heap.size w w4 := Below.step hB3 hb4
  have hmore := held_more A B hA1 hAB l
  obtain ⟨L1, HL1⟩ : ∃ L, Hid ((foldU A l).1.map (fun x => (x.1 : Int)) = L) := ⟨_, rfl⟩
  obtain ⟨L2, HL2⟩ : ∃ L, Hid ((foldU B l).1.map (fun x => (x.1 : Int)) = L) := ⟨_, rfl⟩
  rw [HL1.out, HL2.out] at hmore
  have hlen2 : L2.length ≤ 1000000 := by
    rw [← HL2.out]
    have := congrArg List.length (keys_all B (by omega) l)
    simp only [keysA, List.length_map, List.length_take] at this ⊢
    omega
  have HMORE := Lib.hid hmore
  have hle := hmore.1
  clear hown hb4 hmore
  go_wp2_with fail
  obtain ⟨A3, F3, hC3, _⟩ := HO3'.out
  refine (held_any hC3).mono ?_
  rw [HL1.out]
  rintro e w5 ⟨v5, rfl, ho5, hb5⟩
  have HO4' := Lib.hid (HO4.out.below hb5)
  have hB5 := Below.step hB4 hb5
  obtain ⟨q5, c5, hv5, _⟩ := owns_slice ho5
  have HI5 : Hid (IntsAt w5 v5 L1) := RowAt.of_owns ho5
  clear ho5 hb5 hC3
  subst hv5
  go_wp2_with fail
  obtain ⟨A4, F4, hC4, _⟩ := HO4'.out
  refine (held_any hC4).mono ?_
  rw [HL2.out]
  rintro e w6 ⟨v6, rfl, ho6, hb6⟩
  have hB6 := Below.step hB5 hb6
  obtain ⟨q6, c6, hv6, _⟩ := owns_slice ho6
  have HI6 : Hid (IntsAt w6 v6 L2) := RowAt.of_owns ho6
  have HI5' : Hid (IntsAt w6 (.slice q5 L1.length c5) L1) := RowAt.below HI5.out hb6
  have hcap : L2.length ≤ c6 := by
    subst hv6
    obtain ⟨_, ⟨he, h0⟩ | ⟨g', cap', cur, he, _, _, hh, _⟩⟩ := ho6
    · injection he with _ e2 e3; omega
    · injection he with _ e2 e3; omega
  clear ho6 hb6 hC4
  subst hv6
  obtain ⟨n1, Hn1⟩ : ∃ n, Hid (L1.length = n) := ⟨_, rfl⟩
  obtain ⟨n2, Hn2⟩ : ∃ n, Hid (L2.length = n) := ⟨_, rfl⟩
  rw [Hn1.out] at HI5' hle ⊢
  rw [Hn2.out] at HI6 hle hcap hlen2 ⊢
  have hle2 : (n1 : Int) ≤ (n2 : Int) := by omega
  have hle3 : (n1 : Int) ≤ (c6 : Int) := by omega
  have HT : Hid (IntsAt w6 (.slice q6 n1 c6) L1) := by
    have := ints_take_at (c' := c6) HI6.out hle
    rw [← Hn1.out, ← HMORE.out.2] at this
    rw [Hn1.out] at this
    exact this
  go_wp2_with fail
  refine (equalInts_any _ _ L1 L1 _ HI5'.out HT.out (by rw [Hn1.out]; omega) (by rw [Hn1.out]; omega)).mono ?_
  rw [show eqL L1 L1 = true by unfold eqL; exact decide_eq_true rfl]
  rintro e w7 ⟨rfl, hb7⟩
  have hB7 := Below.step hB6 hb7
  go_wp2
  go_ret
  exact ⟨rfl, hB7⟩

set_option maxRecDepth 100000 in
set_option maxHeartbeats 1000000 in
theorem bufferMore_heavy (a b : Int) (v : Value) (l : List (Int × ByteArray × Bool)) (w : World) (h : UsesAt w v l) (hl : l.length ≤ maxLen) (hs : ∀ x, x ∈ l → x.2.1.size ≤ maxLen) (hsome : Hid (someB l = false)) :
    Calls Try.prog 4 #[.int .i64 a, .int .i64 b, v] w fun e w' => e = .returned (.bool true) ∧ Below w.heap.size w w' := by
  have H := Lib.hid h
  have HL := Lib.hid hl
  have HS := Lib.hid hs
  clear h hl hs
  go_enter Try.func4, Try.ntmps4
  go_wp2_with fail
  refine (buffered_true _).mono ?_
  rintro e w1 ⟨rfl, hb1⟩
  go_wp2_with fail
  refine (some_any _ l _ (RowAt.below H.out hb1) HL.out HS.out).mono ?_
  rw [hsome.out]
  rintro e w2 ⟨rfl, hb2⟩
  have hB2 := Below.step hb1 hb2
  go_wp2
  go_ret
  exact ⟨rfl, hB2⟩

theorem bufferMore_raw (a b : Int) (v : Value) (l : List (Int × ByteArray × Bool)) (w : World) (h : UsesAt w v l) (hl : l.length ≤ maxLen) (hs : ∀ x, x ∈ l → x.2.1.size ≤ maxLen) :
    Calls Try.prog 4 #[.int .i64 a, .int .i64 b, v] w fun e w' => e = .returned (.bool true) ∧ Below w.heap.size w w' := by
  cases hb : someB l with
  | false => exact bufferMore_heavy a b v l w h hl hs hb
  | true =>
    have ha : pkN a 32 < 32 := pkN_lt a 32 (by omega) (by omega)
    have hb' : pkN b 32 < 32 := pkN_lt b 32 (by omega) (by omega)
    exact bufferMore_walk (pkN a 32) (pkN b 32) (min (1 + pkN a 32) (1 + pkN b 32)) (max (1 + pkN a 32) (1 + pkN b 32)) a b rfl rfl ha hb' (by omega) (by omega) (by omega) (by omega) (by omega) v l w h hl hs hb

-- CLOSING

set_option maxRecDepth 100000 in
theorem bufferMore_lifted (os : Os) (started : os.Started) (H : Type) (enc' : TypeId × Value → H) :
    ReturnsInHanded {} Try.checked os 4 .any (Rows.bufferMoreSpec.pre6 enc' Try.prog Try.f4 Rows.bufferMoreRow.domain false) (Rows.bufferMoreSpec.post enc' Try.prog Try.f4 false true false false) := by
  refine returnsInHanded_of_change (C := Try.checked) Try.own started (by kernel_rfl) Try.func4
    (ChangeSpec.witness6 (enc := enc') (C := Try.checked) false ⟨#[], #[.int .i64 0, .int .i64 0, (.slice none 0 0)], []⟩ 8 (by kernel_rfl) (by kernel_rfl) (by kernel_rfl) (by kernel_rfl)) ?_
  intro W base args ds gs before hval0 hW hcnd _
  have hval : ∀ (j : Nat) t v, Try.f4.params[j]? = some t → args[j]? = some v → Value.okWide Try.prog W .any base t v := hval0
  have hW' := hW
  obtain ⟨p, q, hA0, hV, rfl, hfz, hnd⟩ := hW
  have hA : DataW.TrodAll enc' Try.prog W 0 (fun _ => true) true Try.f4.params.toList args.toList ds p := hA0
  rw [Try.params4] at hA hval
  obtain ⟨v0, v1, v2, d0, d1, d2, p0, p1, p2, rfl, rfl, rfl, h0, h1, h2⟩ := trodAll_three hA
  obtain ⟨rfl, rfl⟩ := trodVars_none hV
  obtain ⟨a, rfl, rfl, rfl, wa⟩ := open_int Try.underlying3 (hval 0 3 v0 rfl rfl) h0
  obtain ⟨b, rfl, rfl, rfl, wb⟩ := open_int Try.underlying3 (hval 1 3 v1 rfl rfl) h1
  obtain ⟨l, hIl, hMl, hxl⟩ := open_usesAt (P := Try.prog) Try.underlying22 Try.underlying29 (by kernel_rfl) rfl rfl rfl (by kernel_rfl) (by kernel_rfl) (by kernel_rfl) (by kernel_rfl) (by kernel_rfl) (by kernel_rfl) (hval 2 22 v2 rfl rfl) h2
  clear hA0 hval0
  refine (bufferMore_raw a b v2 l W hIl hMl hxl).mono fun e W' ⟨he, hw⟩ => ?_
  subst he
  exact ⟨_, rfl, law_post 4 Try.laidOut (by kernel_rfl) rfl rfl Try.underlying4 hW' rfl hw⟩

theorem bufferMore_holds : Rows.BufferMoreSaid :=
  OpenClaim.holds_of_wide 4 Try.f4 rfl rfl rfl rfl rfl rfl rfl ⟨rfl, rfl, rfl, rfl, rfl⟩ rfl rfl rfl rfl rfl (by kernel_rfl) Try.func4 (by kernel_rfl)
    (of_decide_eq_true (by kernel_rfl)) (by unfold Func.isWrapper; first | (rw [if_pos (by decide +kernel)]; kernel_rfl) | (rw [if_neg (by decide +kernel)]; exact ⟨rfl, rfl⟩))
    (fun os started H enc _ => bufferMore_lifted os started H enc)

end Go.Proofs.Ythkcnihmfeilgaa
