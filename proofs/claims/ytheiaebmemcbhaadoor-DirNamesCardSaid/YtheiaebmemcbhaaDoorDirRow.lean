/- dir.row: an entry read, walked. -/
import Derived.Test.YtheiaebmemcbhaaDoorDirLayA
import Derived.Deep.RegionHeldLaw
import Derived.Lib.SlBytesRow
import Derived.Deep.RegionHeld3
import Derived.Deep.DrawnRows
namespace Go.Proofs.YtheiaebmemcbhaaDoor
open Go.RowKit Go.Shelf

/-- Each is a byte. -/
def ByteL (D : List Int) : Prop := ∀ x ∈ D, 0 ≤ x ∧ x ≤ 255
theorem byteL_over {D E : List Int} {o : Nat} (h : ByteL D) (hE : ByteL E) : ByteL (over D o E) := fun x hx => by
  have h3 : x ∈ D.take o ∨ x ∈ E ∨ x ∈ D.drop (o + E.length) := by
    have := hx
    unfold over at this
    simpa only [List.mem_append] using this
  clear hx
  rcases h3 with hx | hx | hx
  · exact h x (List.mem_of_mem_take hx)
  · exact hE x hx
  · exact h x (List.mem_of_mem_drop hx)
theorem byteL_bI (s : ByteArray) : ByteL (bI s) := fun x hx => by
  obtain ⟨b, _, rfl⟩ := List.mem_map.1 hx
  have := b.toNat_lt
  omega
theorem byteL_layF : ∀ (P : List (Nat × En)) (D : List Int), ByteL D → (∀ p ∈ P, 0 ≤ p.2.2 ∧ p.2.2 ≤ 255) → ByteL (layF D P)
  | [], _, h, _ => h
  | p :: P, D, h, hp => by
    refine byteL_layF P (putE D p) (fun x hx => ?_) (fun q hq => hp q (by simp [hq]))
    unfold putE at hx
    rcases List.mem_or_eq_of_mem_set hx with hx | hx
    · exact byteL_over h (byteL_bI _) x hx
    · rw [hx]; exact hp p (by simp)
theorem byteL_lay {l : List En} (h : rightD l = 0) : ByteL (layD l) := by
  obtain ⟨h1, h2, _⟩ := sortD_ok h
  unfold layD layS
  refine byteL_layF _ _ (fun x hx => ?_) fun p hp => ?_
  · rw [List.mem_replicate] at hx; omega
  · have := okE_name (h2 p.2 (List.of_mem_zip hp).2)
    omega
theorem stringT : Tryd.prog.underlying 9 = some .string := by kernel_rfl
theorem conv_bytes {w : World} {v : Value} {D : List Int} (h : BytesAt w v D) (h0 : 0 < D.length) : (convert 25 9 v).run Tryd.prog w = .ok (.string (bytesS D)) w := by
  obtain ⟨_, ⟨hn, _⟩ | ⟨g, o, c, rfl, hc⟩⟩ := h
  · omega
  exact run_string_of w 25 9 5 g o c D.length D rfl u8sT (by kernel_rfl) stringT hc
theorem bytesS_size (D : List Int) : (bytesS D).size = D.length := by
  show (bytesS D).data.toList.length = _
  rw [bytesSL, List.length_map]
theorem byteT' : Tryd.prog.underlying 5 = some (.int .u8) := by kernel_rfl

set_option maxRecDepth 100000 in
set_option maxHeartbeats 2000000 in
theorem row_any (v : Value) (D : List Int) (w : World) (h : BytesIn w v D) (hD : ByteL D) (at_ : Nat) (hat : 16 * at_ + 16 ≤ D.length) (hl : D.length ≤ 1000000) :
    Calls Tryd.prog 31 #[v, .int .i64 (at_ : Int)] w fun e w' => e = .returned (.agg #[.string (rdE D at_).1, .int .i64 (rdE D at_).2]) ∧ Below w.heap.size w w' := by
  obtain ⟨n1, Hn1⟩ : ∃ x, Hid ((rdE D at_).1 = x) := ⟨(rdE D at_).1, rfl⟩
  obtain ⟨n2, Hn2⟩ : ∃ x, Hid ((rdE D at_).2 = x) := ⟨(rdE D at_).2, rfl⟩
  rw [Hn1.out, Hn2.out]
  obtain ⟨N, HN⟩ : ∃ N, Hid (D.length = N) := ⟨_, rfl⟩
  obtain ⟨g, o, cp, rfl, hc⟩ : ∃ g o cp, v = .slice (some ⟨g, o, none⟩) N cp ∧ ∀ (j : Nat) (x : Value), (u8s D)[j]? = some x → w.cell? ⟨g, o + j, none⟩ = some x := by
    obtain ⟨_, ⟨h0, _⟩ | ⟨g, o, cap, hv, hc⟩⟩ := h.1
    · omega
    · exact ⟨g, o, cap, by rw [← HN.out]; exact hv, hc⟩
  have hcap : N ≤ cp := h.2 _ _ _ rfl
  rw [HN.out] at hat hl
  obtain ⟨b16, hb16⟩ : ∃ b, 16 * at_ = b := ⟨_, rfl⟩
  obtain ⟨b30, hb30⟩ : ∃ b, b16 + 14 = b := ⟨_, rfl⟩
  have w4 : IntKind.i64.wrap (16 * (at_ : Int)) = (b16 : Int) := by rw [IntWalk.i64_in _ (by omega)]; omega
  have w5 : IntKind.i64.wrap ((b16 : Int) + 14) = (b30 : Int) := by rw [IntWalk.i64_in _ (by omega)]; omega
  have hE : ((D.drop b16).take 14).length = 14 := by rw [List.length_take, List.length_drop, HN.out]; omega
  have hsub : ∀ W : World, Below w.heap.size w W → BytesAt W (.slice (some ⟨g, o + b16, none⟩) (b30 - b16) (cp - b16)) ((D.drop b16).take 14) := fun W hW => by
    refine ⟨by rw [u8s_len, Nat.mul_one], Or.inr ⟨g, o + b16, cp - b16, by rw [hE]; congr 1; omega, fun j x hx => ?_⟩⟩
    have hj : j < 14 := by
      have := (List.getElem?_eq_some_iff.1 hx).1
      rw [u8s_len, hE] at this
      exact this
    rw [u8s_take, u8s_drop, List.getElem?_take, if_pos hj, List.getElem?_drop] at hx
    have hlt : g < w.heap.size := block_lt_of_cell (hc _ _ hx)
    rw [hW.cell hlt, Nat.add_assoc]
    exact hc _ _ hx
  obtain ⟨S, HS⟩ : ∃ S, Hid (bytesS ((D.drop b16).take 14) = S) := ⟨_, rfl⟩
  have hb0 : Below w.heap.size w (w.alloc (.cells #[.string { data := #[] }, .int .i64 0] 33)) := (Below.refl _ _).alloc (Nat.le_refl _) _
  have hcv := conv_bytes (hsub _ hb0) (by rw [hE]; omega)
  rw [HS.out] at hcv
  have hND : b30 < D.length := by rw [HN.out]; omega
  have hx2 : (u8s D)[b30]? = some (.int .u8 n2) := by
    rw [u8s_get D b30 hND, ← Hn2.out]
    unfold rdE
    show some (Value.int .u8 D[b30]) = some (.int .u8 (D.getD (16 * at_ + 14) 0))
    rw [hb16, hb30, List.getD_eq_getElem?_getD, List.getElem?_eq_getElem hND]
    rfl
  have hx0 := hc b30 _ hx2
  have hlt : g < w.heap.size := block_lt_of_cell hx0
  have hcell : (w.alloc (.cells #[.string { data := #[] }, .int .i64 0] 33)).cell? ⟨g, o + b30, none⟩ = some (.int .u8 n2) := by
    rw [hb0.cell hlt]; exact hx0
  have hcell2 : (w.alloc (.cells #[.string n1, .int .i64 n2] 33)).drew.cell? ⟨g, o + b30, none⟩ = some (.int .u8 n2) := by
    have h1 : Below w.heap.size w (w.alloc (.cells #[.string n1, .int .i64 n2] 33)) := (Below.refl _ _).alloc (Nat.le_refl _) _
    rw [h1.drew.cell hlt]; exact hx0
  have hr2 : 0 ≤ n2 ∧ n2 ≤ 255 := by
    have h1 := u8s_get D b30 hND
    rw [hx2] at h1
    injection h1 with h1
    injection h1 with _ h1
    rw [h1]
    exact hD _ (List.getElem_mem _)
  obtain ⟨r1, r2⟩ := hr2
  have wi : IntKind.i64.wrap n2 = n2 := IntWalk.i64_in _ (by omega)
  have HTR : Hid (∀ W : World, Calls Tryd.prog 42 #[.string S, .string ⟨#[0]⟩] W fun e w' => e = .returned (.string n1) ∧ w' = W) := fun W => by
    have h1 := Any.strings_TrimRight_one Tryd.lays162 S 0 (by decide) W (by rw [← HS.out, bytesS_size, hE]; omega)
    have h2 : (⟨(Lib.trimRightB S.data.toList 0).toArray⟩ : ByteArray) = n1 := by
      rw [← Hn1.out, ← HS.out, ← hb16]
      rfl
    rw [h2] at h1
    exact h1
  have HB0 := Lib.hid hb0
  have hg0 : ¬ g = w.heap.size := by omega
  clear h hsub hc hx2 hx0 hb0 hE hD
  go_enter Tryd.func31, Tryd.ntmps31
  go_wp2
  have kb : (b30 : Int) < (N : Int) := by omega
  refine wp_region_noPanic ?_
  go_region_held_law (fun w' => w'.cell? ⟨g, o + b30, none⟩ = some (.int .u8 n2)) (first | exact hcell | exact hcell2 | (go_keep; done)) (first | (go_at_call 42; refine (HTR.out _).mono ?_; rintro e w' ⟨rfl, rfl⟩))
  all_goals
    refine NoPanic.normal ?_
    go_wp2
    go_returns
    exact ⟨rfl, ((Below.refl _ _).alloc (Nat.le_refl _) _).drew⟩
end Go.Proofs.YtheiaebmemcbhaaDoor
