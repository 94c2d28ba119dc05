/- EqualFunc of two lists of requests that read alike. -/
import Derived.Test.YthkcnihmfeilgaaRqRow
import Derived.Test.YthkcnihmfeilgaaDkWritten
namespace Go.Proofs.Ythkcnihmfeilgaa
open Go.RowKit

theorem conv_nil (w : World) : (convert 26 9 (.slice none 0 0)).run Try.prog w = .ok (.string (bytesS [])) w := by
  rw [run_convert_bytes_string w 26 9 5 none 0 0 u8sT byteT' stringT]
  rfl
theorem RqOk.conv {w : World} {x : Rq} (h : RqOk w x) : (convert 26 9 x.v).run Try.prog w = .ok (.string (bytesS x.D)) w := by
  rcases h with ⟨_, _, h3, h4⟩ | ⟨_, _, h3, h4⟩
  · rw [h3, h4]; exact conv_nil w
  · exact conv_bytes h3 (by omega)

set_option maxRecDepth 100000 in
theorem again1_same (x y : Rq) (w : World) (hx : RqOk w x) (hy : RqOk w y) (h : rab x = rab y) : Calls Try.prog 25 #[.agg #[.int .i64 (x.n : Int), x.v, .bool x.b], .agg #[.int .i64 (y.n : Int), y.v, .bool y.b]] w fun e w' => e = .returned (.bool true) ∧ Below w.heap.size w w' := by
  have en : y.n = x.n := congrArg (fun r : Rb => r.1) h.symm
  have eD : y.D = x.D := congrArg (fun r : Rb => r.2.1) h.symm
  have eb : y.b = x.b := congrArg (fun r : Rb => r.2.2) h.symm
  rw [en, eb]
  obtain ⟨px, lx, cx, hxs, _, _⟩ := hx.shape
  obtain ⟨py, ly, cy, hys, _, _⟩ := hy.shape
  have hb : Below w.heap.size w ((w.alloc (.cells #[.int .i64 (x.n : Int), .slice px lx cx, .bool x.b] 50)).alloc (.cells #[.int .i64 (x.n : Int), .slice py ly cy, .bool x.b] 50)) := ((Below.refl _ _).alloc (Nat.le_refl _) _).alloc (by simp) _
  have h1 := (hx.below hb).conv
  have h2 := (hy.below hb).conv
  rw [hxs] at h1 ⊢
  rw [hys, eD] at h2
  rw [hys]
  obtain ⟨B, HB⟩ : ∃ B, Hid (bytesS x.D = B) := ⟨_, rfl⟩
  rw [HB.out] at h1 h2
  have HBL := Lib.hid hb
  clear hb h en eD eb hxs hys hx hy
  obtain ⟨xn, Hxn⟩ : ∃ q, Hid (x.n = q) := ⟨x.n, rfl⟩
  obtain ⟨xb, Hxb⟩ : ∃ q, Hid (x.b = q) := ⟨x.b, rfl⟩
  rw [Hxn.out, Hxb.out] at h1 h2 HBL ⊢
  have b1 : ((xn : Int) == (xn : Int)) = true := by simp
  cases xb <;>
    (go_enter Try.func25, Try.ntmps25
     go_wp2
     go_ret
     exact ⟨rfl, HBL.out⟩)

set_option maxRecDepth 100000 in
set_option maxHeartbeats 2000000 in
theorem equalFunc_same (u v : Value) (E F : List Rq) (w : World) (h1 : RowAt w u 3 E.length (rcells E)) (h2 : RowAt w v 3 F.length (rcells F)) (hE : ∀ x ∈ E, RqOk w x) (hF : ∀ x ∈ F, RqOk w x) (hab : E.map rab = F.map rab) (hl : E.length ≤ 1000) :
    Calls Try.prog 24 #[u, v, .func (.func 25) #[] #[]] w fun e w' => e = .returned (.bool true) ∧ Below w.heap.size w w' := by
  have hlen : F.length = E.length := by
    have := congrArg List.length hab
    simpa using this.symm
  obtain ⟨p, cp, rfl, HP⟩ := rqs_open h1
  obtain ⟨q, cq, rfl, HQ⟩ := rqs_open h2
  obtain ⟨N, HN⟩ : ∃ N, Hid (E.length = N) := ⟨_, rfl⟩
  rw [hlen, HN.out] at HQ ⊢
  rw [HN.out] at hl HP
  have HE := Lib.hid hE
  have HF := Lib.hid hF
  have HAB := Lib.hid hab
  have HLF : Hid (F.length = N) := by show _ = _; rw [hlen, HN.out]
  clear h1 h2 hE hF hab hlen
  go_enter Try.func24, Try.ntmps24
  go_wp2
  go_loopw [17] (fun i wr => ∃ k : Nat, k ≤ N ∧ i = .int .i64 k ∧ Below w.heap.size w wr) (fun i _ => N - (intOf i).toNat)
  case atStart => exact ⟨0, Nat.zero_le _, rfl, Below.refl _ _⟩
  case round =>
    obtain ⟨k, hk, rfl, HB⟩ := hrel
    by_cases hlt : k < N
    · obtain ⟨g, o, rfl, hg, hc⟩ := HP.out (by omega)
      obtain ⟨g', o', rfl, hg', hc'⟩ := HQ.out (by omega)
      have hkl : k < E.length := by rw [HN.out]; exact hlt
      have hkf : k < F.length := by rw [HLF.out]; exact hlt
      obtain ⟨e0, e1, e2⟩ := rcells_get E k hkl
      obtain ⟨f0, f1, f2⟩ := rcells_get F k hkf
      have hxy : rab E[k] = rab F[k] := by
        have h3 : (E.map rab)[k]'(by rw [List.length_map]; exact hkl) = (F.map rab)[k]'(by rw [List.length_map]; exact hkf) := List.getElem_of_eq HAB.out _
        simpa using h3
      have hxo := HE.out E[k] (List.getElem_mem hkl)
      have hyo := HF.out F[k] (List.getElem_mem hkf)
      have HX := Lib.hid (fun W (hW : Below w.heap.size w W) => again1_same E[k] F[k] W (hxo.below hW) (hyo.below hW) hxy)
      obtain ⟨px, lx, cx, hxs, _, _⟩ := hxo.shape
      obtain ⟨py, ly, cy, hys, _, _⟩ := hyo.shape
      rw [hxs] at e1
      rw [hys] at f1
      rw [hxs, hys] at HX
      have c0 := (HB.cell (p := ⟨g, o + k * 3, none⟩) hg).trans (hc _ _ e0)
      have c1 := (HB.cell (p := ⟨g, o + (k * 3 + 1), none⟩) hg).trans (hc _ _ e1)
      have c2 := (HB.cell (p := ⟨g, o + (k * 3 + 2), none⟩) hg).trans (hc _ _ e2)
      have d0 := (HB.cell (p := ⟨g', o' + k * 3, none⟩) hg').trans (hc' _ _ f0)
      have d1 := (HB.cell (p := ⟨g', o' + (k * 3 + 1), none⟩) hg').trans (hc' _ _ f1)
      have d2 := (HB.cell (p := ⟨g', o' + (k * 3 + 2), none⟩) hg').trans (hc' _ _ f2)
      rw [← Nat.add_assoc] at c1 c2 d1 d2
      obtain ⟨xn, Hxn⟩ : ∃ q, Hid (E[k].n = q) := ⟨E[k].n, rfl⟩
      obtain ⟨xb, Hxb⟩ : ∃ q, Hid (E[k].b = q) := ⟨E[k].b, rfl⟩
      obtain ⟨yn, Hyn⟩ : ∃ q, Hid (F[k].n = q) := ⟨F[k].n, rfl⟩
      obtain ⟨yb, Hyb⟩ : ∃ q, Hid (F[k].b = q) := ⟨F[k].b, rfl⟩
      rw [Hxn.out] at c0
      rw [Hxb.out] at c2
      rw [Hyn.out] at d0
      rw [Hyb.out] at d2
      rw [Hxn.out, Hxb.out, Hyn.out, Hyb.out] at HX
      have hlt2 : (k : Int) < (N : Int) := by omega
      have hgl : g < wr.heap.size := Nat.lt_of_lt_of_le hg HB.size
      have hgn : ¬ g = wr.heap.size := by omega
      have hgl' : g' < wr.heap.size := Nat.lt_of_lt_of_le hg' HB.size
      have hgn' : ¬ g' = wr.heap.size := by omega
      have hgn1 : ¬ g = wr.heap.size + 1 := by omega
      have hgn2 : ¬ g' = wr.heap.size + 1 := by omega
      have HBA : Hid (Below w.heap.size w ((wr.alloc (.cells #[.int .i64 (xn : Int), .slice px lx cx, .bool xb] 50)).alloc (.cells #[.int .i64 (yn : Int), .slice py ly cy, .bool yb] 50))) := (HB.alloc HB.size _).alloc (by simp; have := HB.size; omega) _
      clear hc hc' e0 e1 e2 f0 f1 f2 hxs hys hxo hyo hxy
      go_wp2_with fail
      refine (HX.out _ HBA.out).mono ?_
      rintro e w3 ⟨rfl, hb3⟩
      have hB3 : Below w.heap.size w w3 := Below.step HBA.out hb3
      clear hb3
      go_wp2
      go_roundw
      case rel => exact ⟨k + 1, by omega, by go_num, hB3⟩
      case measure => simp [intOf]; omega
    · go_wp2
      go_ret
      exact ⟨rfl, HB⟩

end Go.Proofs.Ythkcnihmfeilgaa
