/- What a commit writes, plainly. -/
import Derived.Test.YtdcplaonafmbjaaJCs
namespace Go.Proofs.Ytdcplaonafmbjaa
open Go.RowKit

def zS : List Int := List.replicate 64 0
def headK (sq : Int) (L : List Wr) : Nat → List Int
  | 0 => over ((zS.set 0 74).set 5 (L.length : Int)) 1 (wordB sq)
  | k + 1 => (headK sq L k).set (6 + k) (((L[k]?.getD (0, [])).1 : Nat) : Int)
def headW (sq : Int) (L : List Wr) : List Int := headK sq L L.length
def tailW (sq sm : Int) : List Int := over (over (zS.set 0 67) 1 (wordB sq)) 5 (wordB sm)
def dataK (L : List Wr) : Nat → List Rb
  | 0 => []
  | k + 1 => dataK L k ++ [(3 + k, (L[k]?.getD (0, [])).2, false)]
def todoK (L : List Wr) (k : Nat) : List Rb := emit (L.take k)
def opsA (L : List Wr) : List Rb := [barR, (2, zS, false), barR] ++ dataK L L.length
def opsB (sq : Int) (L : List Wr) : List Rb := opsA L ++ [(3 + L.length, zS, false), barR, (2, headW sq L, false), (3 + L.length, tailW sq (sumW L), false), barR]
def opsJ (sq : Int) (L : List Wr) : List Rb := opsB sq L ++ orderF (emit L) 0
theorem zS_len : zS.length = 64 := by simp [zS]
theorem over_len {l D : List Int} {o : Nat} (h : o + D.length ≤ l.length) : (over l o D).length = l.length := by
  unfold over
  rw [List.length_append, List.length_append, List.length_take, List.length_drop]
  omega
theorem headK_len (sq : Int) (L : List Wr) : ∀ k, (headK sq L k).length = 64
  | 0 => by rw [headK, over_len (by simp [zS, wordB])]; simp [zS]
  | k + 1 => by rw [headK, List.length_set]; exact headK_len sq L k
theorem tailW_len (sq sm : Int) : (tailW sq sm).length = 64 := by
  unfold tailW
  rw [over_len (by rw [over_len (by simp [zS, wordB])]; simp [zS, wordB]), over_len (by simp [zS, wordB])]
  simp [zS]
theorem u8s_set (L : List Int) (i : Nat) (x : Int) : (u8s L).toArray.setIfInBounds i (.int .u8 x) = (u8s (L.set i x)).toArray := by
  unfold u8s
  rw [List.map_set]
  simp
theorem doE_Wlen (st : Dk) (x : Rb) : (doE st x).W.length ≤ st.W.length + 1 := doE_W st x
/-- Good writes: each to a sector of its own behind the journal. -/
structure GoodL (L : List Wr) : Prop where
  n : ∀ x ∈ L, 10 ≤ x.1 ∧ x.1 < 20
  d : (L.map fun x => x.1).Nodup
  l : L.length ≤ 4
theorem rJ_good (S : List Nat) (l : List (Nat × Nat)) (h1 : ∀ x ∈ l, 8 ≤ x.1 ∧ x.1 < 20 ∧ x.2 = 64) (h2 : (S ++ l.map fun x => x.1).Nodup) : rJ S l = 0 := by
  induction l generalizing S with
  | nil => rfl
  | cons x l ih =>
    have hx := h1 x (by simp)
    rw [rJ, if_neg (by omega), if_neg]
    · refine ih _ (fun y hy => h1 y (by simp [hy])) ?_
      rw [List.append_assoc]
      exact h2
    · rw [List.contains_iff_mem]
      intro hc
      rw [List.nodup_append] at h2
      exact h2.2.2 x.1 hc x.1 (by simp) rfl
theorem right_good {w : World} {B : Nat} {E : List Jw} (hg : GoodL (E.map jab)) (hE : ∀ x ∈ E, JwNew w B x) : rightR E = 0 := by
  have hl : E.length ≤ 4 := by have := hg.l; rwa [List.length_map] at this
  unfold rightR
  rw [if_neg (by omega)]
  refine rJ_good [] _ (fun y hy => ?_) ?_
  · obtain ⟨x, hx, rfl⟩ := List.mem_map.1 hy
    have h1 := hg.n (jab x) (List.mem_map.2 ⟨x, hx, rfl⟩)
    have h2 : x.D.length = 64 := (hE x hx).2.1
    exact ⟨by have := h1.1; show 8 ≤ x.n; exact Nat.le_trans (by omega) this, h1.2, h2⟩
  · rw [List.nil_append, List.map_map]
    have := hg.d
    rw [List.map_map] at this
    exact this
theorem new_shape {w : World} {B : Nat} {x : Jw} (h : JwNew w B x) : JwShape x := by
  obtain ⟨h1, h2, g, cap, cur, h3, _⟩ := h
  exact ⟨h1, by omega, _, cap, by rw [h3, h2]⟩

end Go.Proofs.Ytdcplaonafmbjaa
