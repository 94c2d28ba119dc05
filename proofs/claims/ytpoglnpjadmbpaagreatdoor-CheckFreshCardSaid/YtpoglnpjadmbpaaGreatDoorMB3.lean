/- Part of the proofs of CheckFresh, FsHoles: the texts Fs8. -/
import Derived.Test.YtpoglnpjadmbpaaGreatDoorMA41
import Derived.Test.YtpoglnpjadmbpaaGreatDoorMB2
set_option maxHeartbeats 16000000
namespace Go.Proofs.YtpoglnpjadmbpaaGreatDoor
open Go.RowKit
theorem ybge {w : World} {v : Value} {E : List Nd} {L : List Pn} {G : Nat → Prop} (hv : qah w v 8 L.length (qaz E)) (hE : qbr G w E L) (hl : L.length = 32) :
  ∃ gn on cn, v = .slice (some ⟨gn, on, none⟩) 32 cn ∧ gn < w.heap.size ∧ ∀ (i : Nat) (X : Pn), L[i]? = some X → ∃ yq yn yc,
   w.cell? ⟨gn, on + i * 8, none⟩ = some (.int .i64 X.k) ∧ w.cell? ⟨gn, on + i * 8 + 1, none⟩ = some (.int .i64 X.m) ∧ w.cell? ⟨gn, on + i * 8 + 2, none⟩ = some (.int .i64 X.u) ∧ w.cell? ⟨gn, on + i * 8 + 3, none⟩ = some (.int .i64 X.g) ∧
   w.cell? ⟨gn, on + i * 8 + 4, none⟩ = some (.int .i64 X.s) ∧ w.cell? ⟨gn, on + i * 8 + 5, none⟩ = some (.int .i64 X.l) ∧ w.cell? ⟨gn, on + i * 8 + 6, none⟩ = some (.int .i64 X.up) ∧ w.cell? ⟨gn, on + i * 8 + 7, none⟩ = some (.slice yq yn yc) ∧
   Out G w (fun w' => qan w' (.slice yq yn yc) X.P) := by
 have hEL : E.length = 32 := by rw [hE.1]; exact hl
 rw [← hE.1] at hv
 obtain ⟨p2, cp2, hv2, HP⟩ := qeh hv
 rw [hEL] at hv2 HP
 subst hv2
 obtain ⟨g, o, rfl, hg, hc⟩ := HP.out (by omega)
 refine ⟨g, o, cp2, rfl, hg, fun i X hX => ?_⟩
 have hiL : i < L.length := (List.getElem?_eq_some_iff.1 hX).1
 have hiE : i < E.length := by omega
 obtain ⟨e0, e1, e2, e3, e4, e5, e6, e7⟩ := qda hc i hiE
 have HND := hE.2 i hiE hiL
 have hXX : L[i] = X := by rw [List.getElem?_eq_getElem hiL] at hX; injection hX
 rw [hXX] at HND
 obtain ⟨f0, f1, f2, f3, f4, f5, f6, HIY⟩ := HND
 rw [f0] at e0; rw [f1] at e1; rw [f2] at e2; rw [f3] at e3; rw [f4] at e4; rw [f5] at e5; rw [f6] at e6
 exact ⟨_, _, _, e0, e1, e2, e3, e4, e5, e6, e7, HIY⟩
def useP (X : Pn) (user : Int) : Nat := if X.k ≠ 0 ∧ X.u = user then qmd X.P else 0
def qhb (L : List Pn) (user : Int) : Nat → Nat
 | 0 => 0
 | j + 1 => qhb L user j + useP (L.getD j zN) user
theorem qye {L : List Pn} (h : ∀ X ∈ L, X.P.length ≤ 8) (user : Int) : ∀ j, qhb L user j ≤ 8 * j
 | 0 => Nat.le_refl _
 | j + 1 => by
  have ih := qye h user j
  have h1 : useP (L.getD j zN) user ≤ 8 := by
   unfold useP
   split
   ·by_cases hj : j < L.length
    ·have := h _ (List.getElem_mem hj)
     have h2 := ybhf L[j].P
     rw [List.getD_eq_getElem?_getD, List.getElem?_eq_getElem hj, Option.getD_some]
     omega
    ·rw [List.getD_eq_getElem?_getD, List.getElem?_eq_none (by omega)]
     decide
   ·omega
  unfold qhb
  omega
set_option maxRecDepth 100000 in
theorem ybih {w : World} {v : Value} {E : List Nd} {L : List Pn} {G : Nat → Prop} (hv : qah w v 8 L.length (qaz E)) (hE : qbr G w E L) (hl : L.length = 32) (hP : ∀ X ∈ L, X.P.length ≤ 8) (user : Int) :
  Calls Tryz.prog 58 #[v, .int .i64 user] w (fun e w' => e = .returned (.int .i64 (qhb L user 32 : Int)) ∧ Below w.heap.size w w') := by
 obtain ⟨gn, on, cn, rfl, hgn, HC⟩ := ybge hv hE hl
 have HC := Lib.hid HC
 have HLL := Lib.hid hl
 have HPP := Lib.hid hP
 have hle := qye hP user
 have HLE := Lib.hid hle
 clear hv hE hl hP hle
 go_enter Tryz.func58, Tryz.ntmps58
 go_wp2
 go_loopw [5, 10] (fun kv iv wr => ∃ j : Nat, j ≤ 32 ∧ iv = .int .i64 j ∧ kv = .int .i64 (qhb L user j : Int) ∧ Hid (Below w.heap.size w wr)) (fun _ iv _ => 32 - (intOf iv).toNat)
 case atStart => exact ⟨0, by omega, rfl, rfl, Below.refl _ _⟩
 case round =>
  obtain ⟨j, hj, rfl, rfl, HB⟩ := hrel
  by_cases hj32 : j < 32
  ·have hj32' : (j : Int) < 32 := by omega
   have hjL : j < L.length := by rw [HLL.out]; exact hj32
   obtain ⟨X, HX⟩ : ∃ X, Hid (L[j]? = some X) := ⟨_, List.getElem?_eq_getElem hjL⟩
   have HXD : Hid (L.getD j zN = X) := by show _ = _; rw [List.getD_eq_getElem?_getD, HX.out]; rfl
   have hXP : X.P.length ≤ 8 := HPP.out X (List.mem_of_getElem? HX.out)
   obtain ⟨yq, yn, yc, e0, e1, e2, e3, e4, e5, e6, e7, hI⟩ := HC.out j X HX.out
   have cc := fun i => HB.out.cell (p := ⟨gn, i, none⟩) hgn
   rw [← cc] at e0 e1 e2 e3 e4 e5 e6 e7
   have HI := Lib.hid (qah.below hI.now HB.out)
   have HSTEP : Hid (qhb L user (j + 1) = qhb L user j + useP X user) := by show _ = _; rw [← HXD.out]; rfl
   have hb1 := HLE.out j
   obtain ⟨U, HU⟩ : ∃ U, Hid (qhb L user j = U) := ⟨_, rfl⟩
   rw [HU.out] at hb1 ⊢
   have hgw : ¬ gn = wr.heap.size := by have := HB.out.size; omega
   obtain ⟨y, Hy⟩ : ∃ y, Hid (X.k = y) := ⟨_, rfl⟩
   obtain ⟨z, Hz⟩ : ∃ z, Hid (X.u = z) := ⟨_, rfl⟩
   rw [Hy.out] at e0
   rw [Hz.out] at e2
   have HBE : Hid (Below w.heap.size w (wr.alloc (.cells #[.int .i64 y, .int .i64 X.m, .int .i64 z, .int .i64 X.g, .int .i64 X.s, .int .i64 X.l, .int .i64 X.up, .slice yq yn yc] 103))) := HB.out.alloc HB.out.size _
   clear hI cc
   by_cases hy : y = 0
   ·subst hy
    have HS2 : Hid (qhb L user (j + 1) = U) := by show _ = _; rw [HSTEP.out, HU.out]; unfold useP; rw [if_neg (by rw [Hy.out]; simp)]; rfl
    go_wp2
    go_roundw
    case rel => exact ⟨j + 1, by omega, by go_num, by rw [HS2.out], HBE⟩
    case measure => simp [intOf]; omega
   ·have b0 : (y == 0) = false := by simpa using hy
    have b1 : (y != 0) = true := by simpa using hy
    by_cases hz : z = user
    ·subst hz
     have HS2 : Hid (qhb L z (j + 1) = U + qmd X.P) := by show _ = _; rw [HSTEP.out, HU.out]; unfold useP; rw [if_pos ⟨by rw [Hy.out]; exact hy, Hz.out⟩]
     have HUE := Lib.hid (ybhf X.P)
     have HUS := Lib.hid (fun (W : World) (hW : Below wr.heap.size wr W) => ybvi y X.m z X.g X.s X.l X.up (.slice yq yn yc) X.P W (qah.below HI.out hW) (by omega))
     obtain ⟨V, HV⟩ : ∃ V, Hid (qmd X.P = V) := ⟨_, rfl⟩
     rw [HV.out] at HUS HUE HS2
     have i1 : IntKind.i64.wrap ((U : Int) + (V : Int)) = (U : Int) + (V : Int) := IntWalk.i64_in _ (by have := HUE.out; omega)
     have HAL : Hid (Below wr.heap.size wr (wr.alloc (.cells #[.int .i64 y, .int .i64 X.m, .int .i64 z, .int .i64 X.g, .int .i64 X.s, .int .i64 X.l, .int .i64 X.up, .slice yq yn yc] 103))) := (Below.refl _ _).alloc (Nat.le_refl _) _
     go_wp2_with fail
     refine (HUS.out _ HAL.out).mono ?_
     rintro e w2 ⟨rfl, hb2⟩
     have HB2 : Hid (Below w.heap.size w w2) := Below.step HBE.out hb2
     clear hb2
     go_wp2
     go_roundw
     case rel => exact ⟨j + 1, by omega, by go_num, by rw [HS2.out]; go_num, HB2⟩
     case measure => simp [intOf]; omega
    ·have b2 : (z == user) = false := by simpa using hz
     have HS2 : Hid (qhb L user (j + 1) = U) := by show _ = _; rw [HSTEP.out, HU.out]; unfold useP; rw [if_neg (by rw [Hz.out]; simp [hz])]; rfl
     go_wp2
     go_roundw
     case rel => exact ⟨j + 1, by omega, by go_num, by rw [HS2.out], HBE⟩
     case measure => simp [intOf]; omega
  ·obtain rfl : j = 32 := by omega
   go_wp2
   go_ret
   exact ⟨rfl, HB.out⟩
theorem ybsm {w : World} {gf : Nat} {s : Fs} {F : Nat → Prop} {B : Nat} {a : Addr} (h : FsAt w gf s F B a) : ∃ nv E, w.cell? ⟨gf, 195, none⟩ = some nv ∧ qah w nv 8 s.nodes.length (qaz E) ∧ qbr F w E s.nodes := by
 obtain ⟨⟨gl, rv, nv, bt, bh, E, tl, FD, h1, h2, h3, h4, h5, h6, h7, h8, h9, h10, h11, h12, h13, h14, h15, h16, h17⟩, a1, a2, a3, a4, a5, a6, a7⟩ := h
 obtain ⟨_, _, _, c195, _, _⟩ := qfl h1
 have := h8.now
 rw [h9.1] at this
 exact ⟨nv, E, c195, this, h9⟩
set_option maxRecDepth 100000 in
theorem ybdh {w : World} {gf : Nat} {s : Fs} {F : Nat → Prop} {B : Nat} {a : Addr} (h : FsAt w gf s F B a) (hP : ∀ X ∈ s.nodes, X.P.length ≤ 8) (user : Int) (hu : 0 ≤ user ∧ user ≤ 255) :
  Calls Tryz.prog 19 #[.pointer (some ⟨gf, 0, none⟩), .int .i64 user] w (fun e w' => e = .returned (.tuple #[.int .i64 (qhb s.nodes user 32 : Int), .int .i64 0]) ∧ Below w.heap.size w w') := by
 obtain ⟨nv, E, c195, h1, h2⟩ := ybsm h
 obtain ⟨gn, on, cn, rfl, _, _⟩ := ybge h1 h2 h.len
 have HU := Lib.hid (ybih h1 h2 h.len hP user)
 obtain ⟨u1, u2⟩ := hu
 have d1 : decide (user < 0) = false := decide_eq_false (by omega)
 have d2 : decide (255 < user) = false := decide_eq_false (by omega)
 have d3 : ¬ (user < 0) := by omega
 have d4 : ¬ (255 < user) := by omega
 generalize qhb s.nodes user 32 = U at *
 clear h h1 h2 hP
 go_enter Tryz.func19, Tryz.ntmps19
 go_wp2_with fail
 refine HU.out.mono ?_
 rintro e w1 ⟨rfl, hb1⟩
 have HB1 := Lib.hid hb1
 clear hb1
 go_wp2
 go_ret2
 exact ⟨rfl, HB1.out⟩
end Go.Proofs.YtpoglnpjadmbpaaGreatDoor
