/- dir.Find, walked. -/
import Derived.Test.YtheiaebmemcbhaaDoorDirList
namespace Go.Proofs.YtheiaebmemcbhaaDoor
open Go.RowKit

/-- The search, plainly: what is found, how many looks, what is wrong. -/
def findF (D : List Int) (n : Nat) (name : ByteArray) : Nat → Nat → Nat → Int × Nat × Int
  | 0, _, k => (0, k, 4)
  | f + 1, at_, k => if at_ < n then (if cmpB name (rdE D at_).1 = 0 then ((rdE D at_).2, k + 1, 0) else if cmpB name (rdE D at_).1 < 0 then findF D n name f (2 * at_ + 1) (k + 1) else findF D n name f (2 * at_ + 2) (k + 1)) else (0, k, 4)
def findD (D : List Int) (name : ByteArray) : Int × Nat × Int := findF D (D.length / 16) name 7 0 0
def FindRes (r : Int × Nat × Int) (w : World) (e : Ending) (w' : World) : Prop := e = .returned (.tuple #[.int .i64 r.1, .int .i64 (r.2.1 : Int), .int .i64 r.2.2]) ∧ Below w.heap.size w w'
theorem cmpB_cases (a b : ByteArray) : cmpB a b = -1 ∨ cmpB a b = 0 ∨ cmpB a b = 1 := by
  unfold cmpB; split
  · exact Or.inl rfl
  · split
    · exact Or.inr (Or.inl rfl)
    · exact Or.inr (Or.inr rfl)
def FLoop (D : List Int) (n : Nat) (name : ByteArray) (r : Int × Nat × Int) (at_ k : Nat) : Prop := findF D n name (7 - k) at_ k = r ∧ 2 ^ k ≤ at_ + 1 ∧ k ≤ 7
theorem FLoop.stop {D : List Int} {n : Nat} {name : ByteArray} {r : Int × Nat × Int} {at_ k : Nat} (h : FLoop D n name r at_ k) (ha : n ≤ at_) : r = (0, k, 4) := by
  obtain ⟨h1, _, _⟩ := h
  rw [← h1]
  cases 7 - k with
  | zero => rfl
  | succ f => rw [findF, if_neg (by omega)]
theorem FLoop.small {D : List Int} {n : Nat} {name : ByteArray} {r : Int × Nat × Int} {at_ k : Nat} (h : FLoop D n name r at_ k) (ha : at_ < n) (hn : n ≤ 32) : k ≤ 5 := by
  obtain ⟨_, h2, h3⟩ := h
  rcases Nat.lt_or_ge 5 k with h4 | h4
  · have : 2 ^ 6 ≤ 2 ^ k := Nat.pow_le_pow_right (by omega) h4
    omega
  · exact h4
theorem FLoop.step {D : List Int} {n : Nat} {name : ByteArray} {r : Int × Nat × Int} {at_ k : Nat} (h : FLoop D n name r at_ k) (ha : at_ < n) (hn : n ≤ 32) : r = if cmpB name (rdE D at_).1 = 0 then ((rdE D at_).2, k + 1, 0) else if cmpB name (rdE D at_).1 < 0 then findF D n name (7 - (k + 1)) (2 * at_ + 1) (k + 1) else findF D n name (7 - (k + 1)) (2 * at_ + 2) (k + 1) := by
  have h5 := h.small ha hn
  obtain ⟨h1, _, _⟩ := h
  have e : 7 - k = (7 - (k + 1)) + 1 := by omega
  rw [e, findF, if_pos ha] at h1
  exact h1.symm

set_option maxRecDepth 100000 in
set_option maxHeartbeats 4000000 in
theorem find_any (v : Value) (D : List Int) (name : ByteArray) (w : World) (h : BytesIn w v D) (hD : ByteL D) (hok : listOk D = true) :
    Calls Tryd.prog 12 #[v, .string name] w (FindRes (findD D name) w) := by
  obtain ⟨hm, h512, _, _⟩ := (listOk_iff D).1 hok
  obtain ⟨N, HN⟩ : ∃ N, Hid (D.length = N) := ⟨_, rfl⟩
  obtain ⟨p, cp, rfl⟩ := bytes_open h.1 N HN.out
  have HLI := Lib.hid (list_any (.slice p N cp) D w h hD (by omega))
  obtain ⟨n, Hn⟩ : ∃ n, Hid (N / 16 = n) := ⟨_, rfl⟩
  rw [HN.out] at hm h512
  have hn16 : N = 16 * n := by have := Hn.out; omega
  have hn32 : n ≤ 32 := by omega
  have HNN := Lib.hid hn16
  obtain ⟨r, Hr⟩ : ∃ r, Hid (findD D name = r) := ⟨_, rfl⟩
  rw [Hr.out]
  have HF0 : Hid (FLoop D n name r 0 0) := by
    refine ⟨?_, by omega, by omega⟩
    have := Hr.out
    unfold findD at this
    rw [HN.out, Hn.out] at this
    exact this
  have HIN := Lib.hid h
  have HD := Lib.hid hD
  have HOK := Lib.hid hok
  clear h hD hok hm hn16
  go_enter Tryd.func12, Tryd.ntmps12
  go_wp2_with fail
  refine HLI.out.mono ?_
  intro e w1 hres
  obtain ⟨_, ov, rfl, _, hb1⟩ | ⟨hbad, _⟩ := hres
  case inr => rw [HOK.out] at hbad; cases hbad
  have HB1 := Lib.hid hb1
  clear hb1
  go_wp2
  go_loopw [5, 9] (fun s5 s9 wr => ∃ at_ k : Nat, at_ ≤ 1000 ∧ k ≤ 7 ∧ s9 = .int .i64 (at_ : Int) ∧ s5 = .int .i64 (k : Int) ∧ Hid (FLoop D n name r at_ k) ∧ Below w.heap.size w wr) (fun s5 s9 _ => n - (intOf s9).toNat)
  case atStart => exact ⟨0, 0, by omega, by omega, rfl, rfl, HF0, HB1.out⟩
  case round =>
    obtain ⟨at_, k, hat, hk, rfl, rfl, HFL, HB⟩ := hrel
    obtain ⟨b16, hb16⟩ : ∃ b, 16 * at_ = b := ⟨_, rfl⟩
    have w4 : IntKind.i64.wrap (16 * (at_ : Int)) = (b16 : Int) := by rw [IntWalk.i64_in _ (by omega)]; omega
    by_cases hlt : at_ < n
    · have hltb : (b16 : Int) < (N : Int) := by have := HNN.out; omega
      obtain ⟨k1, Hk1⟩ : ∃ a, Hid (k + 1 = a) := ⟨_, rfl⟩
      obtain ⟨a1, Ha1⟩ : ∃ a, Hid (2 * at_ + 1 = a) := ⟨_, rfl⟩
      obtain ⟨a2, Ha2⟩ : ∃ a, Hid (2 * at_ + 2 = a) := ⟨_, rfl⟩
      have w0 : IntKind.i64.wrap ((k : Int) + 1) = (k1 : Int) := by rw [IntWalk.i64_in _ (by omega)]; have := Hk1.out; omega
      have w1 : IntKind.i64.wrap (2 * (at_ : Int)) = 2 * (at_ : Int) := IntWalk.i64_in _ (by omega)
      have w2 : IntKind.i64.wrap (2 * (at_ : Int) + 1) = (a1 : Int) := by rw [IntWalk.i64_in _ (by omega)]; have := Ha1.out; omega
      have w3 : IntKind.i64.wrap (2 * (at_ : Int) + 2) = (a2 : Int) := by rw [IntWalk.i64_in _ (by omega)]; have := Ha2.out; omega
      obtain ⟨x1, Hx1⟩ : ∃ x, Hid ((rdE D at_).1 = x) := ⟨(rdE D at_).1, rfl⟩
      obtain ⟨x2, Hx2⟩ : ∃ x, Hid ((rdE D at_).2 = x) := ⟨(rdE D at_).2, rfl⟩
      have hrow := row_any (.slice p N cp) D wr (HIN.out.below HB) HD.out at_ (by rw [HN.out]; have := HNN.out; omega) (by rw [HN.out]; omega)
      rw [Hx1.out, Hx2.out] at hrow
      have HROW := Lib.hid hrow
      obtain ⟨c, Hc⟩ : ∃ c, Hid (cmpB name x1 = c) := ⟨_, rfl⟩
      have HCMP : Hid (∀ W : World, Calls Tryd.prog 29 #[.string name, .string x1] W fun e w' => e = .returned (.int .i64 c) ∧ W = w') := fun W => by
        rw [← Hc.out]; exact compare_any name x1 W
      have hst := HFL.out.step hlt hn32
      rw [Hx1.out, Hx2.out, Hc.out, Hk1.out, Ha1.out, Ha2.out] at hst
      have hk5 := HFL.out.small hlt hn32
      have HST := Lib.hid hst
      have hpw : 2 ^ k1 ≤ a1 + 1 := by
        have h1 := HFL.out.2.1
        rw [← Hk1.out, Nat.pow_succ]; have := Ha1.out; omega
      have HPW := Lib.hid hpw
      have hk17 : k1 ≤ 7 := by have := Hk1.out; omega
      have ha1 : a1 ≤ 1000 := by have := Ha1.out; omega
      have ha2 : a2 ≤ 1000 := by have := Ha2.out; omega
      have hm1 : n - a1 < n - at_ := by have := Ha1.out; omega
      have hm2 : n - a2 < n - at_ := by have := Ha2.out; omega
      have HPW2 : Hid (2 ^ k1 ≤ a2 + 1) := by show _ ≤ _; have := Ha1.out; have := Ha2.out; omega
      have hcs := cmpB_cases name x1
      rw [Hc.out] at hcs
      clear hrow hst hpw
      go_wp2_with fail
      refine HROW.out.mono ?_
      rintro e w2 ⟨rfl, hb2⟩
      have HB2 : Hid (Below w.heap.size w w2) := Below.step HB hb2
      have HB3 : Hid (Below w.heap.size w (w2.alloc (.cells #[.string x1, .int .i64 x2] 33))) := HB2.out.alloc HB2.out.size _
      clear hb2
      go_wp2_with fail
      refine (HCMP.out _).mono ?_
      rintro e w' ⟨rfl, rfl⟩
      rcases hcs with rfl | rfl | rfl
      · go_wp2
        go_roundw
        case rel => exact ⟨a1, k1, ha1, hk17, rfl, rfl, ⟨by rw [HST.out]; rfl, HPW.out, hk17⟩, HB3.out⟩
        case measure => simp [intOf]; omega
      · have hr : r = (x2, k1, 0) := by rw [HST.out]; rfl
        subst hr
        go_wp2
        go_returns
        exact ⟨rfl, HB3.out⟩
      · go_wp2
        go_roundw
        case rel => exact ⟨a2, k1, ha2, hk17, rfl, rfl, ⟨by rw [HST.out]; rfl, HPW2.out, hk17⟩, HB3.out⟩
        case measure => simp [intOf]; omega
    · have hltb : ¬ (b16 : Int) < (N : Int) := by have := HNN.out; omega
      have hr := HFL.out.stop (by omega)
      subst hr
      go_wp2
      go_returns
      exact ⟨rfl, HB⟩
end Go.Proofs.YtheiaebmemcbhaaDoor
