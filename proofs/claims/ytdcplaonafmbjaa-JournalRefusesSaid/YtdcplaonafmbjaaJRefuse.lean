/- Commits that are refused; Repeat of one write. -/
import Derived.Test.YtdcplaonafmbjaaJLawF
import Derived.Laws.Bits64b
namespace Go.Proofs.Ytdcplaonafmbjaa
open Go.RowKit

set_option maxRecDepth 100000 in
set_option maxHeartbeats 4000000 in
/-- What the journal refuses it does not do. -/
theorem commit_bad {w : World} {a : Addr} {st : Dk} {F : Nat → Prop} {sq : Int} {gl : Nat} (h : DiskAt w (.pointer (some a)) st 20 F) (hl : w.heap[gl]? = some (.cells (logC a sq) 74 (0, 0))) (v : Value) (E : List Jw) (hv : RowAt w v 2 E.length (jcells E)) (hE : ∀ x ∈ E, JwShape x) (hn : E.length ≤ 1000) (r : Int) (hr : rightR E = r) (hr0 : r ≠ 0) :
    Calls Try.prog 14 #[.pointer (some ⟨gl, 0, none⟩), v] w fun e w' => e = .returned (.int .i64 r) ∧ Below w.heap.size w w' := by
  have hrt := right_at h hl v E hv hE hn
  rw [hr] at hrt
  have HR := Lib.hid hrt
  obtain ⟨p, cp, rfl, _⟩ := jws_open hv
  have b1 : (r == 0) = false := by rw [beq_eq_false_iff_ne]; exact hr0
  have b2 : (r != 0) = true := by simp [bne, b1]
  obtain ⟨N, HN⟩ : ∃ N, Hid (E.length = N) := ⟨_, rfl⟩
  rw [HN.out] at HR ⊢
  clear h hl hv hE hr hrt
  go_enter Try.func14, Try.ntmps14
  go_wp2_with fail
  refine HR.out.mono ?_
  rintro e w1 ⟨rfl, hb1⟩
  go_wp2
  go_ret
  exact ⟨rfl, hb1⟩

theorem rJ_bad (S : List Nat) (l : List (Nat × Nat)) (b : Nat × Nat) (h1 : ∀ x ∈ l, 8 ≤ x.1 ∧ x.1 < 20 ∧ x.2 = 64) (h2 : (S ++ l.map fun x => x.1).Nodup) (hb : 20 ≤ b.1 ∨ (2 ≤ b.1 ∧ b.1 < 8) ∨ b.2 ≠ 64) : rJ S (l ++ [b]) = 1 := by
  induction l generalizing S with
  | nil => show rJ S [b] = 1; rw [rJ, if_pos hb]
  | cons x l ih =>
    have hx := h1 x (by simp)
    rw [List.cons_append, rJ, if_neg (by omega), if_neg]
    · refine ih _ (fun y hy => h1 y (by simp [hy])) ?_
      rw [List.append_assoc]
      exact h2
    · rw [List.contains_iff_mem]
      intro hc
      rw [List.nodup_append] at h2
      exact h2.2.2 x.1 hc x.1 (by simp) rfl
/-- Good writes and a bad one behind them. -/
theorem right_bad {E : List Jw} {L : List Wr} (he : E.map jab = L) (hg : GoodL L) (hb : LB L) (hl : E.length ≤ 3) (x : Jw) (hx : 20 ≤ x.n ∨ (2 ≤ x.n ∧ x.n < 8) ∨ x.D.length ≠ 64) : rightR (E ++ [x]) = 1 := by
  unfold rightR
  rw [if_neg (by rw [List.length_append]; simp; omega), List.map_append]
  refine rJ_bad [] _ (jnl x) (fun y hy => ?_) ?_ hx
  · obtain ⟨z, hz, rfl⟩ := List.mem_map.1 hy
    have hm : jab z ∈ L := by rw [← he]; exact List.mem_map.2 ⟨z, hz, rfl⟩
    have h1 := hg.n _ hm
    have h2 := (hb _ hm).1
    exact ⟨by show 8 ≤ z.n; have : 10 ≤ z.n := h1.1; omega, h1.2, h2⟩
  · rw [List.nil_append, List.map_map]
    have := hg.d
    rw [← he, List.map_map] at this
    exact this
theorem right_twice (v : Value) : rightR [⟨0, v, secS jB⟩, ⟨0, v, secS jB⟩] = 5 := by
  unfold rightR
  rw [if_neg (by show ¬ 4 < 2; omega)]
  show rJ [] [(0, (secS jB).length), (0, (secS jB).length)] = 5
  rw [secS_len]
  rfl

section
variable {P : Program}
theorem run_copy_rowk (w : World) (dT sT ty elem : TypeId) (k : Nat) (g o dLen dCap : Nat) (a : Addr) (sLen sCap : Nat) (cur : Array Value) (t : TypeId) (cs : List Value)
    (hu : P.underlying dT = some (.slice elem)) (hs : (P.info? elem).map (·.size) = some k)
    (hg : w.heap[g]? = some (.cells cur t (0, 0))) (hn : cs.length = Nat.min sLen dLen * k)
    (hsrc : ∀ j v, cs[j]? = some v → w.cell? (a.add j) = some v) (hfit : o + cs.length ≤ cur.size) (h1 : ∀ v ∈ cs, v.oneCell' = true) :
    (Builtin.copy_ #[dT, sT] ty #[.slice (some ⟨g, o, none⟩) dLen dCap, .slice (some a) sLen sCap]).run P w =
      .ok (goInt (Nat.min sLen dLen)) (w.setRow g (cur.toList.take o ++ cs ++ cur.toList.drop (o + cs.length)).toArray) := by
  have hl := run_loadCells_list (P := P) w a cs hsrc
  have hst := run_storeCells_at P g o t cs 0 cur w hg (by simpa using hfit) h1
  cases hq : P.info? elem with
  | none => simp [hq] at hs
  | some i =>
    have hi : i.size = k := by simpa [hq] using hs
    rw [hn] at hl
    simp only [Nat.add_zero] at hst
    simp [Builtin.copy_, run_underlying hu, Builtin.lenOf, Builtin.firstCells, sizeOf, typeInfo, hq, hi, hl, hst]
end

set_option maxRecDepth 100000 in
set_option maxHeartbeats 1000000 in
theorem mul64_12 (w : World) : Calls Try.prog 64 #[.int .u64 1, .int .u64 2] w fun e w' => e = .returned (.tuple #[.int .u64 0, .int .u64 2]) ∧ w = w' := by
  have hm : bits .and .u64 (2 : Int) 4294967295 = 2 := by kernel_rfl
  have m1 : bits .and .u64 (1 : Int) 4294967295 = 1 := by kernel_rfl
  have m0 : bits .and .u64 (0 : Int) 4294967295 = 0 := by kernel_rfl
  go_enter Try.func64, Try.ntmps64
  go_wp2
  go_ret2
  exact ⟨rfl, rfl⟩
set_option maxRecDepth 100000 in
set_option maxHeartbeats 1000000 in
theorem mul_12 (w : World) : Calls Try.prog 52 #[.int .u64 1, .int .u64 2] w fun e w' => e = .returned (.tuple #[.int .u64 0, .int .u64 2]) ∧ w = w' := by
  go_enter Try.func52, Try.ntmps52
  go_wp2_with fail
  refine (mul64_12 _).mono ?_
  rintro e w' ⟨rfl, rfl⟩
  go_wp2
  go_ret2
  exact ⟨rfl, rfl⟩

theorem jwSize : (Try.prog.info? 44).map (·.size) = some 2 := by kernel_rfl
def zW2 : List Value := [.int .i64 0, .slice none 0 0, .int .i64 0, .slice none 0 0]
theorem made_W2 : madeCells #[.int .i64 0, .slice none 0 0] 4 = zW2.toArray := by
  kernel_rfl
theorem make_W2 (W : World) : (Instr.makeSlice 35 (.int .i64 2) (.int .i64 2)).run Try.prog W = .ok (.slice (some ⟨W.heap.size, 0, none⟩) 2 2) (W.alloc (.cells zW2.toArray 44)) := by
  obtain ⟨i0, hi0, hz0, hz1, hz2⟩ := info_parts jwInfo
  have hr := run_make (P := Try.prog) W 35 44 i0 _ jwT hi0 hz0 .i64 .i64 2 2 (by omega) (by omega) (by rw [hz2]; omega) (by omega)
  rw [hz1] at hr
  rw [← made_W2]
  exact hr

def RepW (dv : Value) (w : World) (e : Ending) (w' : World) : Prop :=
  e = .returned (.slice (some ⟨w.heap.size, 0, none⟩) 2 2) ∧ w'.heap[w.heap.size]? = some (.cells #[.int .i64 0, dv, .int .i64 0, dv] 44 (0, 0)) ∧ Below w.heap.size w w'
set_option maxRecDepth 100000 in
set_option maxHeartbeats 4000000 in
theorem repW_any (g : Nat) (q : Option Addr) (c : Nat) (w : World) (h0 : w.cell? ⟨g, 0, none⟩ = some (.int .i64 0)) (h1 : w.cell? ⟨g, 1, none⟩ = some (.slice q 64 c)) :
    Calls Try.prog 29 #[.slice (some ⟨g, 0, none⟩) 1 1, .int .i64 2] w (RepW (.slice q 64 c) w) := by
  obtain ⟨Z, HZ⟩ : ∃ Z, Hid (Z = zW2.toArray) := ⟨_, rfl⟩
  have hmk : ∀ W : World, (Instr.makeSlice 35 (.int .i64 2) (.int .i64 2)).run Try.prog W = .ok (.slice (some ⟨W.heap.size, 0, none⟩) 2 2) (W.alloc (.cells Z 44)) := fun W => by
    rw [HZ.out]; exact make_W2 W
  have hgl := block_lt_of_cell h0
  have hw1 : IntKind.u64.wrap 2 = 2 := by decide
  go_enter Try.func29, Try.ntmps29
  go_wp2_with fail
  refine (mul_12 _).mono ?_
  rintro e w' ⟨rfl, rfl⟩
  go_wp2_with fail
  have hblk : (w.alloc (.cells Z 44)).heap[w.heap.size]? = some (.cells Z 44 (0, 0)) := heap_alloc_new w _
  have hZs : Z.size = 4 := by rw [HZ.out]; rfl
  have hcs : ∀ v ∈ [Value.int .i64 0, .slice q 64 c], v.oneCell' = true := by
    intro v hv
    simp at hv
    rcases hv with rfl | rfl <;> rfl
  have hc1 := run_copy_rowk (P := Try.prog) (w.alloc (.cells Z 44)) 35 35 3 44 2 w.heap.size 0 2 2 ⟨g, 0, none⟩ 1 1 Z 44 [.int .i64 0, .slice q 64 c] jwT jwSize hblk rfl (fun j v hv => by
    have hadd : (⟨g, 0, none⟩ : Addr).add j = ⟨g, j, none⟩ := by unfold Addr.add; split <;> simp_all
    rw [hadd, World.cell?_alloc_lt _ _ _ hgl]
    match j, hv with
    | 0, hv => simp at hv; rw [h0, hv]
    | 1, hv => simp at hv; rw [h1, hv]) (by rw [hZs]; simp) hcs
  have e1 : (Z.toList.take 0 ++ [Value.int .i64 0, .slice q 64 c] ++ Z.toList.drop (0 + [Value.int .i64 0, .slice q 64 c].length)).toArray = #[.int .i64 0, .slice q 64 c, .int .i64 0, .slice none 0 0] := by rw [HZ.out]; rfl
  rw [e1] at hc1
  obtain ⟨R1, HR1⟩ : ∃ R, Hid (#[Value.int .i64 0, .slice q 64 c, .int .i64 0, .slice none 0 0] = R) := ⟨_, rfl⟩
  rw [HR1.out] at hc1
  rw [hc1]
  have HR : Hid (((w.alloc (.cells Z 44)).setRow w.heap.size R1).heap[w.heap.size]? = some (.cells R1 44 (0, 0))) := setRow_heap _ _ _ _ _ _ hblk
  have HB : Hid (Below w.heap.size w ((w.alloc (.cells Z 44)).setRow w.heap.size R1)) := by
    have hb : Below w.heap.size w (w.alloc (.cells Z 44)) := (Below.refl _ _).alloc (Nat.le_refl _) _
    exact ⟨hb.os, hb.tape, hb.output, by simp, fun i hi => (setRow_other _ _ i _ (by omega)).trans (hb.block i hi)⟩
  generalize (w.alloc (.cells Z 44)).setRow w.heap.size R1 = w1 at *
  have HCS := Lib.hid hcs
  clear hc1 hblk hmk hw1 h0 h1 e1 hcs
  go_wp2
  go_loopw [8] (fun i wr => ∃ n : Nat, i = .int .i64 n ∧ Hid ((n = 1 ∧ wr.heap[w.heap.size]? = some (.cells R1 44 (0, 0))) ∨ (n = 2 ∧ wr.heap[w.heap.size]? = some (.cells #[.int .i64 0, .slice q 64 c, .int .i64 0, .slice q 64 c] 44 (0, 0)))) ∧ Hid (Below w.heap.size w wr)) (fun i _ => 2 - (intOf i).toNat)
  case atStart => exact ⟨1, rfl, Or.inl ⟨rfl, HR.out⟩, HB⟩
  case round =>
    obtain ⟨n, rfl, HRR, HBB⟩ := hrel
    rcases HRR.out with ⟨rfl, hr⟩ | ⟨rfl, hr⟩
    · have hc2 := run_copy_rowk (P := Try.prog) wr.drew 35 35 3 44 2 w.heap.size 2 1 1 ⟨w.heap.size, 0, none⟩ 1 2 R1 44 [.int .i64 0, .slice q 64 c] jwT jwSize hr rfl (fun j v hv => by
        have hadd : (⟨w.heap.size, 0, none⟩ : Addr).add j = ⟨w.heap.size, j, none⟩ := by unfold Addr.add; split <;> simp_all
        rw [hadd, show wr.drew.cell? ⟨w.heap.size, j, none⟩ = wr.cell? ⟨w.heap.size, j, none⟩ by rfl, cell_of_row _ _ _ _ _ _ hr, ← HR1.out]
        match j, hv with
        | 0, hv => simpa using hv
        | 1, hv => simpa using hv) (by rw [← HR1.out]; simp) HCS.out
      have e2 : (R1.toList.take 2 ++ [Value.int .i64 0, .slice q 64 c] ++ R1.toList.drop (2 + [Value.int .i64 0, .slice q 64 c].length)).toArray = #[.int .i64 0, .slice q 64 c, .int .i64 0, .slice q 64 c] := by rw [← HR1.out]; rfl
      rw [e2] at hc2
      obtain ⟨R2, HR2⟩ : ∃ R, Hid (#[Value.int .i64 0, .slice q 64 c, .int .i64 0, .slice q 64 c] = R) := ⟨_, rfl⟩
      rw [HR2.out] at hc2
      have HR3 : Hid ((wr.drew.setRow w.heap.size R2).heap[w.heap.size]? = some (.cells R2 44 (0, 0))) := setRow_heap wr.drew _ _ _ _ _ hr
      have HB3 : Hid (Below w.heap.size w (wr.drew.setRow w.heap.size R2)) := by
        have hb := HBB.out.drew
        exact ⟨hb.os, hb.tape, hb.output, by simpa using hb.size, fun i hi => (setRow_other _ _ i _ (by omega)).trans (hb.block i hi)⟩
      have hg1 : goInt (Nat.min 1 1) = .int .i64 1 := rfl
      rw [hg1] at hc2
      clear e2 hr
      go_wp2
      go_region
      go_wp2
      go_roundw
      case rel => exact ⟨2, by go_num, Or.inr ⟨rfl, by rw [HR2.out]; exact HR3.out⟩, HB3⟩
      case measure => simp [intOf]
    · have HF := Lib.hid hr
      clear hr
      go_wp2
      go_ret
      exact ⟨rfl, HF.out, HBB.out⟩

end Go.Proofs.Ytdcplaonafmbjaa
