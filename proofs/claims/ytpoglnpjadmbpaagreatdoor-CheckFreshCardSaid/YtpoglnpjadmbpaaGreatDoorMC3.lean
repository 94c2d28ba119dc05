/- Part of the proofs of CheckFresh: the texts Number, QRun, FsAll, FreshLaw. -/
import Derived.Test.YtpoglnpjadmbpaaGreatDoorMB1
import Derived.Test.YtpoglnpjadmbpaaGreatDoorMC2
set_option maxHeartbeats 16000000
namespace Go.Proofs.YtpoglnpjadmbpaaGreatDoor
open Go.RowKit
theorem ybiz (W : World) (x : Int) : (convert 38 9 (.slice (some ⟨W.heap.size, 0, none⟩) 1 1)).run Tryz.prog (W.alloc (.cells #[.int .u8 x] 5)) = .ok (.string (qce [x])) (W.alloc (.cells #[.int .u8 x] 5)) := by
 refine qdp _ 38 9 5 W.heap.size 0 1 1 [x] rfl qtn qyr qoa fun j v hj => ?_
 rw [Nat.zero_add, cell_of_row _ _ j _ _ _ (heap_alloc_new W _), ← hj, ← Array.getElem?_toList]
 rfl
theorem ybhl (x : Int) : (qce [x]).size = 1 := rfl
def numS (n : Nat) : ByteArray := if h : 9 < n then numS (n / 10) ++ numS (n % 10) else qce [48 + (n : Int)]
termination_by n
decreasing_by all_goals omega
theorem qnk {n : Nat} (h : 9 < n) : numS n = numS (n / 10) ++ numS (n % 10) := by
 conv => lhs; unfold numS
 rw [dif_pos h]
theorem qhi {n : Nat} (h : ¬ 9 < n) : numS n = qce [48 + (n : Int)] := by
 unfold numS
 rw [dif_neg h]
theorem qsj (n : Nat) : 0 < (numS n).size ∧ (numS n).size ≤ n + 1 := by
 induction n using Nat.strongRecOn with
 | _ n ih =>
  by_cases h : 9 < n
  ·have := ih (n / 10) (by omega)
   have := ih (n % 10) (by omega)
   rw [qnk h, ByteArray.size_append]
   omega
  ·rw [qhi h, ybhl]; omega
set_option maxRecDepth 100000 in
theorem qib (n : Nat) (hn : n ≤ 100000) (w : World) : Calls Tryz.prog 42 #[.int .i64 (n : Int)] w (fun e w' => e = .returned (.string (numS n)) ∧ Below w.heap.size w w') := by
 induction n using Nat.strongRecOn generalizing w with
 | _ n ih =>
  have d1 : decide ((n : Int) < 0) = false := decide_eq_false (by omega)
  have d2 : ¬ ((n : Int) < 0) := by omega
  by_cases h9 : 9 < n
  ·have d3 : decide ((9 : Int) < (n : Int)) = true := decide_eq_true (by omega)
   have d4 : (9 : Int) < (n : Int) := by omega
   have i1 : IntKind.i64.wrap ((n : Int).tdiv 10) = ((n / 10 : Nat) : Int) := by
    rw [show (n : Int).tdiv 10 = ((n / 10 : Nat) : Int) from rfl]
    exact IntWalk.i64_in _ (by omega)
   have i2 : IntKind.i64.wrap ((n : Int).tmod 10) = ((n % 10 : Nat) : Int) := by
    rw [show (n : Int).tmod 10 = ((n % 10 : Nat) : Int) from rfl]
    exact IntWalk.i64_in _ (by omega)
   have q1 := qsj (n / 10)
   have q2 := qsj (n % 10)
   have HM := Lib.hid (qnk h9)
   obtain ⟨s1, hs1⟩ : ∃ s, numS (n / 10) = s := ⟨_, rfl⟩
   obtain ⟨s2, hs2⟩ : ∃ s, numS (n % 10) = s := ⟨_, rfl⟩
   rw [hs1] at q1 HM
   rw [hs2] at q2 HM
   have HA := Lib.hid (ih (n / 10) (by omega) (by omega))
   have HB := Lib.hid (ih (n % 10) (by omega) (by omega))
   rw [hs1] at HA
   rw [hs2] at HB
   clear ih hs1 hs2
   go_enter Tryz.func42, Tryz.ntmps42
   go_wp2_with fail
   refine (HA.out _).mono ?_
   rintro e w1 ⟨rfl, hb1⟩
   have HB1 := Lib.hid hb1
   clear hb1
   go_wp2_with fail
   refine (HB.out _).mono ?_
   rintro e w2 ⟨rfl, hb2⟩
   have HB2 : Hid (Below w.heap.size w w2) := Below.step HB1.out hb2
   have z1 : ¬ 9223372036854775807 < s1.size + s2.size := by omega
   clear hb2
   go_wp2
   go_ret
   exact ⟨by rw [HM.out]; rfl, HB2.out⟩
  ·have d3 : decide ((9 : Int) < (n : Int)) = false := decide_eq_false (by omega)
   have d4 : ¬ (9 : Int) < (n : Int) := by omega
   have i1 : IntKind.u8.wrap (48 + (n : Int)) = 48 + (n : Int) := IntWalk.u8_in _ (by omega)
   have i2 : IntKind.i64.wrap (48 + (n : Int)) = 48 + (n : Int) := IntWalk.i64_in _ (by omega)
   have hc := ybiz w (48 + (n : Int))
   clear ih
   go_enter Tryz.func42, Tryz.ntmps42
   go_wp2
   go_ret
   exact ⟨by rw [qhi h9]; rfl, (Below.refl _ _).alloc (Nat.le_refl _) _⟩
section
variable {P : Program}
end
theorem qkx {o : Oper} {a : Act} (x : Operand) (ho : o.op = .load 3 x) (p : Addr) (hx : a.eval x = .pointer (some p)) (v : Value) {w : World} (hc : w.cell? p = some v) : (execOp a.eval o).run Tryz.prog w = .ok (.value v) w := by
 unfold execOp
 simp only [ho, hx, Instr.loadAt, Instr.sureAddr, Sem.run_bind, Sem.run_pure, Result.andThen_ok]
 simp [go_sem, hc]
theorem qfc {w w' : World} (h : Below w.heap.size w w') {p : Addr} {v : Value} (hc : w.cell? p = some v) : w'.cell? p = some v := (h.cell (block_lt_of_cell hc)).trans hc
theorem ybnu (W : World) : (convert 38 9 (.slice none 0 0)).run Tryz.prog W = .ok (.string ⟨#[]⟩) W := by
 rw [run_convert_bytes_string W 38 9 5 none 0 0 qtn qyr qoa]
 rfl
end Go.Proofs.YtpoglnpjadmbpaaGreatDoor
namespace Go.Proofs.YtpoglnpjadmbpaaGreatDoor
open Go.RowKit
theorem num_0 : numS 0 = ⟨#[48]⟩ := by rw [qhi (by omega)]; rfl
theorem num_1 : numS 1 = ⟨#[49]⟩ := by rw [qhi (by omega)]; rfl
theorem num_2 : numS 2 = ⟨#[50]⟩ := by rw [qhi (by omega)]; rfl
theorem ybyc : numS 493 = ⟨#[52, 57, 51]⟩ := by
 rw [qnk (by omega), qnk (n := 493 / 10) (by omega), qhi (n := 493 / 10 / 10) (by omega), qhi (n := 493 / 10 % 10) (by omega), qhi (n := 493 % 10) (by omega)]
 rfl
theorem ybtn (i : Nat) (h1 : 1 ≤ i) (hi : i < 32) : qeg[i]? = some zN := by
 unfold qeg
 rw [List.getElem?_cons, if_neg (by omega), List.getElem?_replicate, if_pos (by omega)]
set_option maxRecDepth 100000 in
theorem ybkq {w : World} {gf k : Nat} {F : Nat → Prop} {B : Nat} {a : Addr} (h : FsAt w gf (fs0 k) F B a) (_hk : 64 ≤ k) :
  Calls Tryz.prog 14 #[.pointer (some ⟨gf, 0, none⟩)] w (fun e w' => ∃ s : ByteArray, e = .returned (.string s) ∧ 0 < s.size ∧ Below w.heap.size w w') := by
 have hb := fun (W : World) (hW : Below w.heap.size w W) => h.below hW
 have hn0 : (fs0 k).nodes[0]? = some qlj := rfl
 have HS1 : Hid (∀ W : World, Below w.heap.size w W → Calls Tryz.prog 23 #[.pointer (some ⟨gf, 0, none⟩), .int .i64 1] W (fun e w' => e = .returned (.tuple #[.agg #[.int .i64 2, .int .i64 493, .int .i64 0, .int .i64 0, .int .i64 0, .int .i64 1], .int .i64 0]) ∧ Below W.heap.size W w')) := fun W hW => ybmj (hb W hW) 0 (by omega) qlj hn0
 have HSZ : Hid (∀ (W : World) (i : Nat), Below w.heap.size w W → 1 ≤ i → i < 32 → Calls Tryz.prog 23 #[.pointer (some ⟨gf, 0, none⟩), .int .i64 ((i : Int) + 1)] W (fun e w' => e = .returned (.tuple #[.agg #[.int .i64 0, .int .i64 0, .int .i64 0, .int .i64 0, .int .i64 0, .int .i64 0], .int .i64 4]) ∧ Below W.heap.size W w')) := fun W i hW h1 hi => ybmj (hb W hW) i hi zN (ybtn i h1 hi)
 have HRD : Hid (∀ W : World, Below w.heap.size w W → Calls Tryz.prog 18 #[.pointer (some ⟨gf, 0, none⟩), .int .i64 1, .int .i64 0, .int .i64 512] W (fun e w' => e = .returned (.tuple #[.slice none 0 0, .int .i64 12]) ∧ W = w')) := fun W hW => ybdg (hb W hW) 0 (by omega) qlj hn0 (by decide) 0 512 (by omega)
 have HTL : Hid (∀ W : World, Below w.heap.size w W → Calls Tryz.prog 43 #[.pointer (some ⟨gf, 0, none⟩), .int .i64 1] W (fun e w' => e = .returned (.tuple #[.string ⟨#[]⟩, .int .i64 3]) ∧ W = w')) := fun W hW => qzp (hb W hW) 0 (by omega) qlj hn0 (by decide)
 have HLS : Hid (∀ W : World, Below w.heap.size w W → Calls Tryz.prog 10 #[.pointer (some ⟨gf, 0, none⟩), .int .i64 1] W (fun e w' => ∃ v, e = .returned (.tuple #[v, .int .i64 0]) ∧ qcx w' v [] ∧ Below W.heap.size W w')) := fun W hW => by
  have := ybmh (hb W hW) 0 (by omega) qlj hn0 rfl (fun p hp => by cases hp) (by decide) (by decide) [] rfl (fun x hx => by cases hx) (by kernel_rfl)
  rw [show outD [] = [] by kernel_rfl] at this
  exact this
 have HUP : Hid (∀ W : World, Below w.heap.size w W → Calls Tryz.prog 44 #[.pointer (some ⟨gf, 0, none⟩), .int .i64 1] W (fun e w' => e = .returned (.tuple #[.int .i64 1, .int .i64 0]) ∧ W = w')) := fun W hW => fs_Up (hb W hW) 0 (by omega) qlj hn0
 have HUS : Hid (∀ (W : World) (u : Nat), Below w.heap.size w W → u < 256 → Calls Tryz.prog 19 #[.pointer (some ⟨gf, 0, none⟩), .int .i64 (u : Int)] W (fun e w' => e = .returned (.tuple #[.int .i64 (qhb qeg (u : Int) 32 : Int), .int .i64 0]) ∧ Below W.heap.size W w')) := fun W u hW hu => ybdh (hb W hW) (by
  intro X hX
  rcases List.mem_cons.1 hX with rfl | hX
  ·decide
  ·rw [List.eq_of_mem_replicate hX]; decide) u (by omega)
 clear h hb hn0
 have HN0 : Hid (∀ W : World, Calls Tryz.prog 42 #[.int .i64 0] W (fun e w' => e = .returned (.string ⟨#[48]⟩) ∧ Below W.heap.size W w')) := fun W => by have := qib 0 (by omega) W; rw [num_0] at this; exact this
 have HN1 : Hid (∀ W : World, Calls Tryz.prog 42 #[.int .i64 1] W (fun e w' => e = .returned (.string ⟨#[49]⟩) ∧ Below W.heap.size W w')) := fun W => by have := qib 1 (by omega) W; rw [num_1] at this; exact this
 have HN2 : Hid (∀ W : World, Calls Tryz.prog 42 #[.int .i64 2] W (fun e w' => e = .returned (.string ⟨#[50]⟩) ∧ Below W.heap.size W w')) := fun W => by have := qib 2 (by omega) W; rw [num_2] at this; exact this
 have HN3 : Hid (∀ W : World, Calls Tryz.prog 42 #[.int .i64 493] W (fun e w' => e = .returned (.string ⟨#[52, 57, 51]⟩) ∧ Below W.heap.size W w')) := fun W => by have := qib 493 (by omega) W; rw [ybyc] at this; exact this
 go_enter Tryz.func14, Tryz.ntmps14
 go_wp2
 go_loopw [3, 4] (fun sv iv wr => ∃ (j : Nat) (s : ByteArray), 1 ≤ j ∧ j ≤ 33 ∧ iv = .int .i64 j ∧ sv = .string s ∧ s.size ≤ 10000 ∧ (1 < j → 0 < s.size) ∧ (j = 1 → s = ⟨#[]⟩) ∧ Hid (Below w.heap.size w wr)) (fun _ iv _ => 40 - (intOf iv).toNat)
 case atStart => exact ⟨1, ⟨#[]⟩, by omega, by omega, rfl, rfl, by decide, fun h => by omega, fun _ => rfl, Below.refl _ _⟩
 case round =>
  obtain ⟨j, s, hj1, hj2, rfl, rfl, hs, hs0, hs1, HB⟩ := hrel
  by_cases hj33 : j ≤ 32
  ·have hj32' : (j : Int) ≤ 32 := by omega
   by_cases h1 : j = 1
   ·subst h1
    have e1 := hs1 rfl
    subst e1
    have HS := Lib.hid (HS1.out wr HB.out)
    clear hs hs0 hs1
    go_wp2_with fail
    refine HS.out.mono ?_
    rintro e w1 ⟨rfl, hb1⟩
    have HB1 : Hid (Below w.heap.size w w1) := Below.step HB.out hb1
    clear hb1
    have HBA : Hid (Below w.heap.size w (w1.alloc (.cells #[.int .i64 2, .int .i64 493, .int .i64 0, .int .i64 0, .int .i64 0, .int .i64 1] 52))) := HB1.out.alloc HB1.out.size _
    have HRW : Hid ((w1.alloc (.cells #[.int .i64 2, .int .i64 493, .int .i64 0, .int .i64 0, .int .i64 0, .int .i64 1] 52)).heap[w1.heap.size]? = some (.cells #[.int .i64 2, .int .i64 493, .int .i64 0, .int .i64 0, .int .i64 0, .int .i64 1] 52 (0, 0))) := heap_alloc_new _ _
    have c0 : (w1.alloc (.cells #[.int .i64 2, .int .i64 493, .int .i64 0, .int .i64 0, .int .i64 0, .int .i64 1] 52)).cell? ⟨w1.heap.size, 0, none⟩ = some (.int .i64 2) := cell_of_row _ _ 0 _ _ _ HRW.out
    have c1 : (w1.alloc (.cells #[.int .i64 2, .int .i64 493, .int .i64 0, .int .i64 0, .int .i64 0, .int .i64 1] 52)).cell? ⟨w1.heap.size, 1, none⟩ = some (.int .i64 493) := cell_of_row _ _ 1 _ _ _ HRW.out
    have c2 : (w1.alloc (.cells #[.int .i64 2, .int .i64 493, .int .i64 0, .int .i64 0, .int .i64 0, .int .i64 1] 52)).cell? ⟨w1.heap.size, 2, none⟩ = some (.int .i64 0) := cell_of_row _ _ 2 _ _ _ HRW.out
    have c3 : (w1.alloc (.cells #[.int .i64 2, .int .i64 493, .int .i64 0, .int .i64 0, .int .i64 0, .int .i64 1] 52)).cell? ⟨w1.heap.size, 3, none⟩ = some (.int .i64 0) := cell_of_row _ _ 3 _ _ _ HRW.out
    have c4 : (w1.alloc (.cells #[.int .i64 2, .int .i64 493, .int .i64 0, .int .i64 0, .int .i64 0, .int .i64 1] 52)).cell? ⟨w1.heap.size, 4, none⟩ = some (.int .i64 0) := cell_of_row _ _ 4 _ _ _ HRW.out
    have c5 : (w1.alloc (.cells #[.int .i64 2, .int .i64 493, .int .i64 0, .int .i64 0, .int .i64 0, .int .i64 1] 52)).cell? ⟨w1.heap.size, 5, none⟩ = some (.int .i64 1) := cell_of_row _ _ 5 _ _ _ HRW.out
    go_upto_region 7 with fail
    generalize w1.alloc (.cells #[.int .i64 2, .int .i64 493, .int .i64 0, .int .i64 0, .int .i64 0, .int .i64 1] 52) = w2 at *
    refine wp_region_quiet_below (by kernel_rfl) (by kernel_rfl) ?_
    repeat (first
     | go_big_quiet_skip
     | (refine qbz rfl (.int .i64 2) (fun w' hw' => qkx (.tmp 37) rfl ⟨w1.heap.size, 0, none⟩ rfl _ (qfc (qaq hw') c0)) ?_; simp only [Act.put, List.setIfInBounds_toArray, List.set_cons_zero, List.set_cons_succ])
     | (refine qbz rfl (.int .i64 493) (fun w' hw' => qkx (.tmp 42) rfl ⟨w1.heap.size, 1, none⟩ rfl _ (qfc (qaq hw') c1)) ?_; simp only [Act.put, List.setIfInBounds_toArray, List.set_cons_zero, List.set_cons_succ])
     | (refine qbz rfl (.int .i64 0) (fun w' hw' => qkx (.tmp 47) rfl ⟨w1.heap.size, 2, none⟩ rfl _ (qfc (qaq hw') c2)) ?_; simp only [Act.put, List.setIfInBounds_toArray, List.set_cons_zero, List.set_cons_succ])
     | (refine qbz rfl (.int .i64 0) (fun w' hw' => qkx (.tmp 52) rfl ⟨w1.heap.size, 3, none⟩ rfl _ (qfc (qaq hw') c3)) ?_; simp only [Act.put, List.setIfInBounds_toArray, List.set_cons_zero, List.set_cons_succ])
     | (refine qbz rfl (.int .i64 0) (fun w' hw' => qkx (.tmp 57) rfl ⟨w1.heap.size, 4, none⟩ rfl _ (qfc (qaq hw') c4)) ?_; simp only [Act.put, List.setIfInBounds_toArray, List.set_cons_zero, List.set_cons_succ])
     | (refine qbz rfl (.int .i64 1) (fun w' hw' => qkx (.tmp 62) rfl ⟨w1.heap.size, 5, none⟩ rfl _ (qfc (qaq hw') c5)) ?_; simp only [Act.put, List.setIfInBounds_toArray, List.set_cons_zero, List.set_cons_succ])
     | (refine qbh 42 #[.tmp 33] #[3] rfl rfl (fun _ _ => by kernel_rfl) #[.int .i64 1] (by kernel_rfl) (.string ⟨#[49]⟩) (fun _ _ => qbu) (fun w' _ => HN1.out w') ?_; simp only [Act.put, List.setIfInBounds_toArray, List.set_cons_zero, List.set_cons_succ])
     | (refine qbh 42 #[.tmp 38] #[3] rfl rfl (fun _ _ => by kernel_rfl) #[.int .i64 2] (by kernel_rfl) (.string ⟨#[50]⟩) (fun _ _ => qbu) (fun w' _ => HN2.out w') ?_; simp only [Act.put, List.setIfInBounds_toArray, List.set_cons_zero, List.set_cons_succ])
     | (refine qbh 42 #[.tmp 43] #[3] rfl rfl (fun _ _ => by kernel_rfl) #[.int .i64 493] (by kernel_rfl) (.string ⟨#[52, 57, 51]⟩) (fun _ _ => qbu) (fun w' _ => HN3.out w') ?_; simp only [Act.put, List.setIfInBounds_toArray, List.set_cons_zero, List.set_cons_succ])
     | (refine qbh 42 #[.tmp 48] #[3] rfl rfl (fun _ _ => by kernel_rfl) #[.int .i64 0] (by kernel_rfl) (.string ⟨#[48]⟩) (fun _ _ => qbu) (fun w' _ => HN0.out w') ?_; simp only [Act.put, List.setIfInBounds_toArray, List.set_cons_zero, List.set_cons_succ])
     | (refine qbh 42 #[.tmp 53] #[3] rfl rfl (fun _ _ => by kernel_rfl) #[.int .i64 0] (by kernel_rfl) (.string ⟨#[48]⟩) (fun _ _ => qbu) (fun w' _ => HN0.out w') ?_; simp only [Act.put, List.setIfInBounds_toArray, List.set_cons_zero, List.set_cons_succ])
     | (refine qbh 42 #[.tmp 58] #[3] rfl rfl (fun _ _ => by kernel_rfl) #[.int .i64 0] (by kernel_rfl) (.string ⟨#[48]⟩) (fun _ _ => qbu) (fun w' _ => HN0.out w') ?_; simp only [Act.put, List.setIfInBounds_toArray, List.set_cons_zero, List.set_cons_succ])
     | (refine qbh 42 #[.tmp 63] #[3] rfl rfl (fun _ _ => by kernel_rfl) #[.int .i64 1] (by kernel_rfl) (.string ⟨#[49]⟩) (fun _ _ => qbu) (fun w' _ => HN1.out w') ?_; simp only [Act.put, List.setIfInBounds_toArray, List.set_cons_zero, List.set_cons_succ])
     | (go_big_quiet_want; go_big_quiet_op; go_big_quiet_on))
    refine wpQuiet_nil ?_
    intro w3 hw3
    have HB3 : Hid (Below w.heap.size w w3) := Below.step HBA.out (qaq hw3)
    have HR3 := Lib.hid (HRD.out w3 HB3.out)
    clear hw3 c0 c1 c2 c3 c4 c5
    go_wp2_with fail
    refine HR3.out.mono ?_
    rintro e w4 ⟨rfl, rfl⟩
    have HT3 := Lib.hid (HTL.out w3 HB3.out)
    go_wp2_with fail
    refine HT3.out.mono ?_
    rintro e w4 ⟨rfl, rfl⟩
    have HL3 := Lib.hid (HLS.out w3 HB3.out)
    go_wp2_with fail
    refine HL3.out.mono ?_
    rintro e w4 ⟨lv, rfl, hlv, hb4⟩
    obtain ⟨lq, lc, rfl, _⟩ := qeo hlv 0 rfl
    have HB4 : Hid (Below w.heap.size w w4) := Below.step HB3.out hb4
    have HU4 := Lib.hid (HUP.out w4 HB4.out)
    clear hlv hb4
    go_wp2_with fail
    refine HU4.out.mono ?_
    rintro e w5 ⟨rfl, rfl⟩
    go_upto_region 12 with fail
    refine wp_region_quiet_below (by kernel_rfl) (by kernel_rfl) ?_
    repeat (first
     | go_big_quiet_skip
     | (refine qbz rfl (.string ⟨#[]⟩) (fun w' hw' => qmq 38 9 (.tmp 93) rfl (.slice none 0 0) (.string ⟨#[]⟩) rfl (ybnu w')) ?_; simp only [Act.put, List.setIfInBounds_toArray, List.set_cons_zero, List.set_cons_succ])
     | (refine qbh 42 #[.tmp 99] #[3] rfl rfl (fun _ _ => by kernel_rfl) #[.int .i64 1] (by kernel_rfl) (.string ⟨#[49]⟩) (fun _ _ => qbu) (fun w' _ => HN1.out w') ?_; simp only [Act.put, List.setIfInBounds_toArray, List.set_cons_zero, List.set_cons_succ])
     | (go_big_quiet_want; go_big_quiet_op; go_big_quiet_on))
    refine wpQuiet_nil ?_
    intro w6 hw6
    have HB6 : Hid (Below w.heap.size w w6) := Below.step HB4.out (qaq hw6)
    clear hw6
    go_wp2
    go_loopw [3, 105] (fun sv iv wq => (∃ s : ByteArray, sv = .string s ∧ s.size ≤ 10000 ∧ 0 < s.size) ∧ iv = .int .i64 0 ∧ Hid (Below w.heap.size w wq)) (fun _ _ _ => 0)
    case atStart => exact ⟨⟨_, rfl, Nat.le_of_ble_eq_true (by kernel_rfl), Nat.le_of_ble_eq_true (by kernel_rfl)⟩, rfl, HB6⟩
    case round =>
     obtain ⟨⟨s, rfl, hs, hs0⟩, rfl, HBQ⟩ := hrel
     have HS0 := Lib.hid hs0
     have HS1' := Lib.hid hs
     clear hs hs0
     go_wp2
     go_roundw
     case rel => exact ⟨2, s, by omega, by omega, by go_num, rfl, HS1'.out, fun _ => HS0.out, fun h => by omega, HBQ⟩
     case measure => simp [intOf]
   ·obtain ⟨i, rfl⟩ : ∃ i, j = i + 1 := ⟨j - 1, by omega⟩
    have HS := Lib.hid (HSZ.out wr i HB.out (by omega) (by omega))
    have ei : ((i + 1 : Nat) : Int) = (i : Int) + 1 := by omega
    rw [ei] at hj32' ⊢
    clear hs1
    go_wp2_with fail
    refine HS.out.mono ?_
    rintro e w1 ⟨rfl, hb1⟩
    have HB1 : Hid (Below w.heap.size w w1) := Below.step HB.out hb1
    clear hb1
    have ib : i < 32 := by omega
    have iw : IntKind.i64.wrap ((i : Int) + 1 + 1) = (i : Int) + 1 + 1 := IntWalk.i64_in _ (by omega)
    go_wp2
    go_roundw
    case rel => exact ⟨i + 2, s, by omega, by omega, by go_num, rfl, hs, fun _ => hs0 (by omega), fun h => by omega, HB1.out.alloc HB1.out.size _⟩
    case measure => simp [intOf]; omega
  ·have hj33' : ¬ (j : Int) ≤ 32 := by omega
   have HS0 : Hid (0 < s.size) := hs0 (by omega)
   clear hs0 hs1
   go_wp2_with fail
   go_loopw [3, 120] (fun sv iv wq => ∃ (u : Nat) (t : ByteArray), u ≤ 3 ∧ iv = .int .i64 u ∧ sv = .string t ∧ t.size ≤ 10000 + 1000 * u ∧ Hid (0 < t.size) ∧ Hid (Below w.heap.size w wq)) (fun _ iv _ => 5 - (intOf iv).toNat)
   case atStart => exact ⟨0, s, by omega, rfl, rfl, by omega, HS0, HB⟩
   case round =>
    obtain ⟨u, t, hu, rfl, rfl, ht, HT0, HBQ⟩ := hrel
    by_cases hu3 : u < 3
    ·have hu3' : (u : Int) < 3 := by omega
     have HU := Lib.hid (HUS.out wr u HBQ.out (by omega))
     obtain ⟨N, HN, hN2⟩ : ∃ N : Nat, Hid (qhb qeg (u : Int) 32 = N) ∧ N ≤ 256 := ⟨_, rfl, qye (by
      intro X hX
      rcases List.mem_cons.1 hX with rfl | hX
      ·decide
      ·rw [List.eq_of_mem_replicate hX]; decide) _ 32⟩
     rw [HN.out] at HU
     have HNU := Lib.hid (fun W => qib N (by omega) W)
     obtain ⟨M, HM⟩ : ∃ M, Hid (numS N = M) := ⟨_, rfl⟩
     have hM : M.size ≤ 257 := by rw [← HM.out]; have := (qsj N).2; omega
     rw [HM.out] at HNU
     go_wp2_with fail
     refine HU.out.mono ?_
     rintro e w1 ⟨rfl, hb1⟩
     have HB1 : Hid (Below w.heap.size w w1) := Below.step HBQ.out hb1
     clear hb1
     go_wp2_with fail
     refine (HNU.out w1).mono ?_
     rintro e w2 ⟨rfl, hb2⟩
     have HB2 : Hid (Below w.heap.size w w2) := Below.step HB1.out hb2
     clear hb2
     have HSZ' : Hid ((t ++ ((⟨#[10, 117, 115, 101, 100, 32]⟩ : ByteArray) ++ M)).size = t.size + (6 + M.size)) := by
      show _ = _
      rw [ByteArray.size_append, ByteArray.size_append]; rfl
     go_wp2
     go_roundw
     case rel => exact ⟨u + 1, _, by omega, by go_num, rfl, by rw [HSZ'.out]; omega, by show 0 < _; rw [HSZ'.out]; omega, HB2⟩
     case measure => simp [intOf]; omega
    ·have hu3' : ¬ (u : Int) < 3 := by omega
     go_wp2
     go_ret
     exact ⟨t, rfl, HT0.out, HBQ.out⟩
theorem ybur (s : ByteArray) (h : 0 < s.size) : s.toList.isEmpty = false := by
 rw [ByteArray.toList_eq, List.isEmpty_eq_false_iff]
 intro hc
 have h1 : s.data.toList.length = 0 := by rw [hc]; rfl
 have h2 : s.data.toList.length = s.size := rfl
 omega
theorem qzl (k : Nat) (hk : 64 ≤ k) (n : Nat) (hn : n < k) : secE (fs0 k) n = fmtS k n := qwt k hk n hn
theorem ybdd (k : Nat) (hk : 64 ≤ k) (hk2 : k ≤ 256) : qvz (fs0 k) := fun n hn => by rw [qzl k hk n hn]; exact qwg k n hk2
theorem ybid (k : Nat) (hk : 64 ≤ k) : qje (secE (fs0 k)) (fs0 k).fo (fs0 k).k := ybfk hk (qzl k hk)
theorem ybde {w : World} {gf k : Nat} {F : Nat → Prop} {B : Nat} {a : Addr} (h : FsAt w gf (fs0 k) F B a) (hk : 64 ≤ k) (hk2 : k ≤ 256) :
  Calls Tryz.prog 12 #[.pointer (some ⟨gf, 0, none⟩)] w (fun e w' => e = .returned (.slice none 0 0) ∧ Below w.heap.size w w') := ybfr h (ybdd k hk hk2) (ybid k hk)
theorem ybxl {w : World} {gf : Nat} {s : Fs} {F : Nat → Prop} {B : Nat} {a : Addr} (h : FsAt w gf s F B a) : ∃ FD, qay w (.pointer (some a)) s.dk s.k FD := by
 obtain ⟨gl, rv, nv, bt, bh, E, tl, FD, g1, g2, _⟩ := h.ex
 exact ⟨FD, g2⟩
theorem ybwu {w : World} {a : Addr} {st : Dk} {k : Nat} {F : Nat → Prop} (h : qay w (.pointer (some a)) st k F) (hk : 64 ≤ k) (hk2 : k ≤ 256) (hb : ∀ n, n < k → ∀ x ∈ sec st.N n, 0 ≤ x ∧ x ≤ 255) (fo : Fo) (hf : qje (sec st.N) fo k) :
  Calls Tryz.prog 11 #[.iface 25 (.pointer (some a))] w (fun e w' => e = .returned (.slice none 0 0) ∧ Below w.heap.size w w') := by
 have hc := qqz (ybln h hb) hk2 hk fo hf
 exact hc
theorem ybsi {w : World} {gf k : Nat} {F : Nat → Prop} {B : Nat} {a : Addr} (h : FsAt w gf (fs0 k) F B a) (hk : 64 ≤ k) (hk2 : k ≤ 256) :
  Calls Tryz.prog 11 #[.iface 25 (.pointer (some a))] w (fun e w' => e = .returned (.slice none 0 0) ∧ Below w.heap.size w w') := by
 obtain ⟨FD, hd⟩ := ybxl h
 exact ybwu hd hk hk2 (fun n hn => by
  show ∀ x ∈ sec (fmtE (qbo k) k).N n, _
  rw [qwt k hk n hn]; exact qwg k n hk2) (qbe 16) (ybfk hk (fun n hn => qwt k hk n hn))
theorem ybif {w : World} {gf k : Nat} {F : Nat → Prop} {B : Nat} {a : Addr} (h : FsAt w gf (fs0 k) F B a) :
  Calls Tryz.prog 13 #[.pointer (some ⟨gf, 0, none⟩)] w (fun e w' => e = .returned (.int .i64 (k : Int)) ∧ w = w') := ybmi h
theorem ybie {w : World} {gf k : Nat} {F : Nat → Prop} {B : Nat} {a : Addr} (h : FsAt w gf (fs0 k) F B a) :
  Calls Tryz.prog 10 #[.pointer (some ⟨gf, 0, none⟩), .int .i64 1] w (fun e w' => ∃ v, e = .returned (.tuple #[v, .int .i64 0]) ∧ qcx w' v [] ∧ Below w.heap.size w w') := by
 have := ybmh h 0 (by omega) qlj rfl rfl (fun p hp => by cases hp) (by decide) (by decide) [] rfl (fun x hx => by cases hx) (by kernel_rfl)
 rw [show outD [] = [] by kernel_rfl] at this
 exact this
set_option maxRecDepth 100000 in
theorem ybmd (n0 : Int) (w : World) : Calls Tryz.prog 3 #[.int .i64 n0] w (fun e w' => e = .returned (.bool true) ∧ Below w.heap.size w w') := by
 have HFL := Lib.hid (qrl w)
 obtain ⟨p, hp, hp2⟩ := ybar n0 193 (by omega) (by omega)
 have HP0 : Hid (∀ W : World, Calls Tryz.prog 8 #[.int .i64 n0, .int .i64 193] W (fun e w' => e = .returned (.int .i64 (p : Int)) ∧ W = w')) := fun W => by rw [← hp]; exact qno n0 193 W (by omega) (by omega)
 obtain ⟨k, Hk⟩ : ∃ k, Hid (64 + p = k) := ⟨_, rfl⟩
 have hk : 64 ≤ k := by rw [← Hk.out]; omega
 have hk2 : k ≤ 256 := by rw [← Hk.out]; omega
 have iw : IntKind.i64.wrap (64 + (p : Int)) = (k : Int) := by rw [IntWalk.i64_in _ (by omega)]; have := Hk.out; omega
 have HFR := Lib.hid (fun W => qmy k hk hk2 W)
 have HKK : Hid (64 ≤ k ∧ k ≤ 256) := ⟨hk, hk2⟩
 clear hp hp2 hk hk2
 go_enter Tryz.func3, Tryz.ntmps3
 go_wp2_with fail
 refine HFL.out.mono ?_
 rintro e w1 ⟨rfl, hb1⟩
 have HB1 := Lib.hid hb1
 clear hb1
 go_wp2_with fail
 refine (HP0.out w1).mono ?_
 rintro e w1' ⟨rfl, rfl⟩
 go_wp2_with fail
 refine (HFR.out w1).mono ?_
 rintro e w2 ⟨gf, a, F, rfl, h2, hb2, hF2⟩
 have HB2 := Lib.hid (Below.step HB1.out hb2)
 have HLS := Lib.hid (ybie h2)
 have HOF := Lib.hid (fun W (hW : Below w2.heap.size w2 W) => ybsi (h2.below hW) HKK.out.1 HKK.out.2)
 have HCK := Lib.hid (fun W (hW : Below w2.heap.size w2 W) => ybde (h2.below hW) HKK.out.1 HKK.out.2)
 have HSZ := Lib.hid (fun W (hW : Below w2.heap.size w2 W) => ybif (h2.below hW))
 have HAL : Hid (∀ W : World, Below w2.heap.size w2 W → Calls Tryz.prog 14 #[.pointer (some ⟨gf, 0, none⟩)] W (fun e w' => ∃ s : ByteArray, e = .returned (.string s) ∧ 0 < s.size ∧ Below W.heap.size W w')) := fun W hW => ybkq (h2.below hW) HKK.out.1
 clear h2 hb2 hF2
 go_wp2_with fail
 refine HLS.out.mono ?_
 rintro e w3 ⟨lv, rfl, hlv, hb3⟩
 obtain ⟨lq, lc, rfl, _⟩ := qeo hlv 0 rfl
 have HB3 := Lib.hid hb3
 clear hlv hb3
 go_wp2_with fail
 refine (HOF.out w3 HB3.out).mono ?_
 rintro e w4 ⟨rfl, hb4⟩
 have HB4 : Hid (Below w2.heap.size w2 w4) := Below.step HB3.out hb4
 clear hb4
 go_wp2_with fail
 refine (HCK.out w4 HB4.out).mono ?_
 rintro e w5 ⟨rfl, hb5⟩
 have HB5 : Hid (Below w2.heap.size w2 w5) := Below.step HB4.out hb5
 clear hb5
 go_wp2_with fail
 refine (HSZ.out w5 HB5.out).mono ?_
 rintro e w6 ⟨rfl, rfl⟩
 go_wp2_with fail
 refine (HAL.out w5 HB5.out).mono ?_
 rintro e w7 ⟨s, rfl, hs, hb7⟩
 have HB7 : Hid (Below w.heap.size w w7) := HB2.out.trans ((Below.step HB5.out hb7).mono HB2.out.size)
 have hne := ybur s hs
 clear hb7
 go_wp2
 go_ret
 exact ⟨rfl, HB7.out⟩
end Go.Proofs.YtpoglnpjadmbpaaGreatDoor
