/- What the functions of package disk do that write, and the statements' helpers sector and at. -/
import Derived.Test.YtdcplaonafmbjaaDkOps
import Derived.Deep.RegionHeld3
import Derived.Deep.AppendLies
import Derived.Deep.OwnRows
import Derived.BigRegion
namespace Go.Proofs.Ytdcplaonafmbjaa
open Go.RowKit

theorem made_u8 (n : Nat) : madeCells #[Value.int .u8 0] n = (u8s (List.replicate n 0)).toArray := by
  apply Array.ext_getElem?
  intro i
  unfold madeCells u8s
  by_cases h : i < n
  · simp [h, Nat.mod_one]
  · simp [h]
theorem make_u8 (n : Nat) (x : Int) (hx : x = n) (hn : n ≤ 1000000) (W : World) : (Instr.makeSlice 42 (.int .i64 x) (.int .i64 x)).run Try.prog W = .ok (.slice (some ⟨W.heap.size, 0, none⟩) n n) (W.alloc (.cells (u8s (List.replicate n 0)).toArray 5)) := by
  subst hx
  rw [← made_u8]
  exact run_make_row' 42 5 (.int .u8 0) 1 u8sT u8Info rfl .i64 .i64 n (by omega) (by omega) W

set_option maxRecDepth 100000 in
set_option maxHeartbeats 1000000 in
theorem sector_any (s : ByteArray) (w : World) : Calls Try.prog 28 #[.string s] w (CloneRes (secS s) w) := by
  obtain ⟨Z, HZ⟩ : ∃ Z, Hid (Z = List.replicate 64 (0 : Int)) := ⟨_, rfl⟩
  have hmk : ∀ W : World, (Instr.makeSlice 42 (.int .i64 64) (.int .i64 64)).run Try.prog W = .ok (.slice (some ⟨W.heap.size, 0, none⟩) 64 64) (W.alloc (.cells (u8s Z).toArray 5)) := fun W => by
    rw [HZ.out]; exact make_u8 64 64 rfl (by omega) W
  go_enter Try.func28, Try.ntmps28
  go_wp2_with fail
  rw [run_copy_str _ 42 9 _ 5 u8sT u8Size w.heap.size 64 64 s Z 5 (heap_alloc_new w _) (by rw [HZ.out]; rfl)]
  go_wp2
  go_ret
  have hh := setRow_heap (w.alloc (.cells (u8s Z).toArray 5)) w.heap.size _ (u8s (over Z 0 ((bI s).take 64))).toArray 5 (0, 0) (heap_alloc_new w _)
  have e : over Z 0 ((bI s).take 64) = secS s := by rw [HZ.out]; exact over_zeros s
  rw [e] at hh ⊢
  refine ⟨_, rfl, w.heap.size, 64, _, by rw [secS_len]; rfl, ⟨Nat.le_refl _, by rw [secS_len]; exact Nat.le_refl _⟩, hh, by rw [List.take_of_length_le (by simp [u8s_len])], ?_⟩
  exact below_setRow ((Below.refl _ _).alloc (Nat.le_refl _) _) (Nat.le_refl _) _

section
variable {w : World} {gd gs gn : Nat} {wt : Value} {E : List (Nat × Value)} {st : Dk} {L k : Nat} {F : Nat → Prop}
set_option maxRecDepth 100000 in
set_option maxHeartbeats 1000000 in
theorem at_lies (h : Lies w gd gs gn wt E st L k F) (n : Nat) (hn : n < k) : Calls Try.prog 33 #[.pointer (some ⟨gd, 0, none⟩), .int .i64 (n : Int)] w (CloneRes (sec st.N n) w) := by
  have HS : Hid ((sec st.N n).length = 64) := sec_len (by rw [h.ln, h.hL]) hn
  have H := Lib.hid h
  clear h
  go_enter Try.func33, Try.ntmps33
  go_wp2_with fail
  refine (read_lies H.out n hn).mono ?_
  rintro e w' ⟨v, rfl, hv⟩
  have HV := Lib.hid hv
  obtain ⟨g, cap, cur, rfl, hr⟩ := hv
  rw [HS.out] at HV ⊢
  clear hr
  go_wp2
  go_ret
  exact ⟨_, rfl, HV.out⟩

/-- The power goes after n more. -/
def fuseE (f n : Int) : Int := if f = 0 then 0 else if -1 < n then n else -1
set_option maxRecDepth 100000 in
set_option maxHeartbeats 1000000 in
theorem fuse_lies (h : Lies w gd gs gn wt E st L k F) (n : Int) (hn : n ≤ 1000000) (hn0 : 0 ≤ n) : Calls Try.prog 22 #[.pointer (some ⟨gd, 0, none⟩), .int .i64 n] w fun e w' => e = .returned (.tuple #[]) ∧ Lies w' gd gs gn wt E { st with fu := fuseE st.fu n } L k F ∧ Keeps F w w' := by
  have c3 := h.c3
  have z3 := h.z 3
  have H := Lib.hid h
  obtain ⟨f, HF⟩ : ∃ f, Hid (f = st.fu) := ⟨_, rfl⟩
  rw [← HF.out] at c3 ⊢
  clear h
  by_cases hp : f = 0
  · subst hp
    go_enter Try.func22, Try.ntmps22
    go_wp2
    go_end0
    have e : fuseE 0 n = 0 := rfl
    rw [e]
    have e2 : ({ st with fu := 0 } : Dk) = st := by rw [HF.out]
    rw [e2]
    exact ⟨rfl, H.out, Keeps.refl _ _⟩
  · have hb : (f == 0) = false := by simpa using hp
    have hb2 : (f != 0) = true := by simpa using hp
    have HP := Lib.hid hp
    clear hp
    have hm : max (-1) n = n := by omega
    go_enter Try.func22, Try.ntmps22
    go_wp2
    go_end0
    have e : fuseE f n = n := by unfold fuseE; rw [if_neg HP.out, if_pos (by omega)]
    rw [e]
    exact ⟨rfl, H.out.setFu _ (by omega) (by omega), Keeps.setCell H.out.fd _⟩
end

end Go.Proofs.Ytdcplaonafmbjaa
