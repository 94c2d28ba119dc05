/- OrphanLost: who is held isn't lost; who is lost has no name; one name more is one more of just that one: the statement in full, for all inputs, no condition. -/
import Derived.Test.YtablomjaaifgfaaOpenLost
import Derived.Test.YtablomjaaifgfaaInv
import Derived.Test.YtablomjaaifgfaaOpenInts
import Derived.Test.YtablomjaaifgfaaLawEnd
import Derived.ChangeShapes
import Derived.Great.BuildSlice
import Derived.Deep.AppendLies
namespace Go.Proofs.Ytablomjaaifgfaa
open Go.ChangeShapes Go.WideShapes Go.ChangeAt Go.RowKit

/-- What stands while two lists of counts are made, in whatever order. -/
def nF (L : List Int) (u : World) (s : Value) : Prop := ∃ g, s = .slice (some ⟨g, 0, none⟩) 32 32 ∧ u.heap[g]? = some (.cells (ints L).toArray 3 (0, 0))
def yF (ys : ByteArray) (yn : Int) (u : World) (s : Value) : Prop := ∃ b, s = .slice (some ⟨b, 0, none⟩) 1 1 ∧ u.heap[b]? = some (.cells #[.string ys, .int .i64 yn] 39 (0, 0))
def eF (B : Nat) (l : List En) (u : World) (s : Value) : Prop := u.ownsRow B 39 2 s l.length (ents l)
theorem nF.below {L : List Int} {u u' : World} {s : Value} (h : nF L u s) (hb : Below u.heap.size u u') : nF L u' s := by
  obtain ⟨g, h1, h2⟩ := h
  exact ⟨g, h1, heap_below hb h2⟩
theorem yF.below {ys : ByteArray} {yn : Int} {u u' : World} {s : Value} (h : yF ys yn u s) (hb : Below u.heap.size u u') : yF ys yn u' s := by
  obtain ⟨g, h1, h2⟩ := h
  exact ⟨g, h1, heap_below hb h2⟩
theorem eF.below {B : Nat} {l : List En} {u u' : World} {s : Value} (h : eF B l u s) (hb : Below u.heap.size u u') : eF B l u' s := ownsRow_keep h hb
theorem nF.grown {L : List Int} {u u' : World} {s v : Value} {B n : Nat} {xs : List Value} (h : nF L u s) (hg : u.grownBy u' v.ownBlock) (hv : u.ownsRow B 39 2 v n xs) : nF L u' s := by
  obtain ⟨g, h1, h2⟩ := h
  exact ⟨g, h1, (hg.block g (heap_lt h2) (fun e => own_ne_type hv h2 (by decide) g e.symm rfl)).trans h2⟩
structure LI (xv : Value) (X : List En) (ys : ByteArray) (yn : Int) (w2 : World) (D : Nat → Bool) (u : World) (s11 s12 s70 s71 s72 s73 s74 s75 s76 s77 : Value) : Prop where
  b : Below w2.heap.size w2 u
  f0 : D 0 = true → s70 = xv
  f1 : D 1 = true → nF (namesF X) u s71
  f2 : D 2 = true → s72 = xv
  f3 : D 3 = true → D 6 = false → eF w2.heap.size X u s73
  f4 : D 4 = true → s74 = .agg #[.string ys, .int .i64 yn]
  f5 : D 5 = true → D 6 = false → yF ys yn u s75
  f6 : D 6 = true → eF w2.heap.size (X ++ [(ys, yn)]) u s76
  f7 : D 7 = true → nF (namesF (X ++ [(ys, yn)])) u s77
  f8 : D 8 = true → D 1 = true ∧ s11 = s71
  f9 : D 9 = true → D 7 = true ∧ s12 = s77
section
variable {xv : Value} {X : List En} {ys : ByteArray} {yn : Int} {w2 : World} {D : Nat → Bool} {u u' : World} {s11 s12 s70 s71 s72 s73 s74 s75 s76 s77 : Value}
theorem LI.below (h : LI xv X ys yn w2 D u s11 s12 s70 s71 s72 s73 s74 s75 s76 s77) (hb : Below u.heap.size u u') : LI xv X ys yn w2 D u' s11 s12 s70 s71 s72 s73 s74 s75 s76 s77 :=
  ⟨h.b.trans (hb.mono h.b.size), h.f0, fun e => (h.f1 e).below hb, h.f2, fun e f => (h.f3 e f).below hb, h.f4, fun e f => (h.f5 e f).below hb, fun e => (h.f6 e).below hb, fun e => (h.f7 e).below hb, h.f8, h.f9⟩
theorem LI.op0 (h : LI xv X ys yn w2 D u s11 s12 s70 s71 s72 s73 s74 s75 s76 s77)  : LI xv X ys yn w2 (upd D 0) u s11 s12 xv s71 s72 s73 s74 s75 s76 s77 :=
  ⟨h.b, fun _ => rfl, fun e => h.f1 (of_upd e (by decide)), fun e => h.f2 (of_upd e (by decide)), fun e e6 => h.f3 (of_upd e (by decide)) (by rwa [upd_ne (by decide)] at e6), fun e => h.f4 (of_upd e (by decide)), fun e e6 => h.f5 (of_upd e (by decide)) (by rwa [upd_ne (by decide)] at e6), fun e => h.f6 (of_upd e (by decide)), fun e => h.f7 (of_upd e (by decide)), fun e => ⟨by rw [upd_ne (by decide)]; exact (h.f8 (of_upd e (by decide))).1, (h.f8 (of_upd e (by decide))).2⟩, fun e => ⟨by rw [upd_ne (by decide)]; exact (h.f9 (of_upd e (by decide))).1, (h.f9 (of_upd e (by decide))).2⟩⟩
theorem LI.op1 {v : Value} (h : LI xv X ys yn w2 D u s11 s12 s70 s71 s72 s73 s74 s75 s76 s77) (hD : D 1 = false) (hv : nF (namesF X) u v) : LI xv X ys yn w2 (upd D 1) u s11 s12 s70 v s72 s73 s74 s75 s76 s77 :=
  ⟨h.b, fun e => h.f0 (of_upd e (by decide)), fun _ => hv, fun e => h.f2 (of_upd e (by decide)), fun e e6 => h.f3 (of_upd e (by decide)) (by rwa [upd_ne (by decide)] at e6), fun e => h.f4 (of_upd e (by decide)), fun e e6 => h.f5 (of_upd e (by decide)) (by rwa [upd_ne (by decide)] at e6), fun e => h.f6 (of_upd e (by decide)), fun e => h.f7 (of_upd e (by decide)), fun e => absurd (h.f8 (of_upd e (by decide))).1 (by rw [hD]; simp), fun e => ⟨by rw [upd_ne (by decide)]; exact (h.f9 (of_upd e (by decide))).1, (h.f9 (of_upd e (by decide))).2⟩⟩
theorem LI.op2 (h : LI xv X ys yn w2 D u s11 s12 s70 s71 s72 s73 s74 s75 s76 s77)  : LI xv X ys yn w2 (upd D 2) u s11 s12 s70 s71 xv s73 s74 s75 s76 s77 :=
  ⟨h.b, fun e => h.f0 (of_upd e (by decide)), fun e => h.f1 (of_upd e (by decide)), fun _ => rfl, fun e e6 => h.f3 (of_upd e (by decide)) (by rwa [upd_ne (by decide)] at e6), fun e => h.f4 (of_upd e (by decide)), fun e e6 => h.f5 (of_upd e (by decide)) (by rwa [upd_ne (by decide)] at e6), fun e => h.f6 (of_upd e (by decide)), fun e => h.f7 (of_upd e (by decide)), fun e => ⟨by rw [upd_ne (by decide)]; exact (h.f8 (of_upd e (by decide))).1, (h.f8 (of_upd e (by decide))).2⟩, fun e => ⟨by rw [upd_ne (by decide)]; exact (h.f9 (of_upd e (by decide))).1, (h.f9 (of_upd e (by decide))).2⟩⟩
theorem LI.op3 {v : Value} (h : LI xv X ys yn w2 D u s11 s12 s70 s71 s72 s73 s74 s75 s76 s77) (hv : D 6 = false → eF w2.heap.size X u v) : LI xv X ys yn w2 (upd D 3) u s11 s12 s70 s71 s72 v s74 s75 s76 s77 :=
  ⟨h.b, fun e => h.f0 (of_upd e (by decide)), fun e => h.f1 (of_upd e (by decide)), fun e => h.f2 (of_upd e (by decide)), fun _ e6 => hv (by rwa [upd_ne (by decide)] at e6), fun e => h.f4 (of_upd e (by decide)), fun e e6 => h.f5 (of_upd e (by decide)) (by rwa [upd_ne (by decide)] at e6), fun e => h.f6 (of_upd e (by decide)), fun e => h.f7 (of_upd e (by decide)), fun e => ⟨by rw [upd_ne (by decide)]; exact (h.f8 (of_upd e (by decide))).1, (h.f8 (of_upd e (by decide))).2⟩, fun e => ⟨by rw [upd_ne (by decide)]; exact (h.f9 (of_upd e (by decide))).1, (h.f9 (of_upd e (by decide))).2⟩⟩
theorem LI.op4 (h : LI xv X ys yn w2 D u s11 s12 s70 s71 s72 s73 s74 s75 s76 s77)  : LI xv X ys yn w2 (upd D 4) u s11 s12 s70 s71 s72 s73 (.agg #[.string ys, .int .i64 yn]) s75 s76 s77 :=
  ⟨h.b, fun e => h.f0 (of_upd e (by decide)), fun e => h.f1 (of_upd e (by decide)), fun e => h.f2 (of_upd e (by decide)), fun e e6 => h.f3 (of_upd e (by decide)) (by rwa [upd_ne (by decide)] at e6), fun _ => rfl, fun e e6 => h.f5 (of_upd e (by decide)) (by rwa [upd_ne (by decide)] at e6), fun e => h.f6 (of_upd e (by decide)), fun e => h.f7 (of_upd e (by decide)), fun e => ⟨by rw [upd_ne (by decide)]; exact (h.f8 (of_upd e (by decide))).1, (h.f8 (of_upd e (by decide))).2⟩, fun e => ⟨by rw [upd_ne (by decide)]; exact (h.f9 (of_upd e (by decide))).1, (h.f9 (of_upd e (by decide))).2⟩⟩
theorem LI.op5 {v : Value} (h : LI xv X ys yn w2 D u s11 s12 s70 s71 s72 s73 s74 s75 s76 s77) (hv : yF ys yn u v) : LI xv X ys yn w2 (upd D 5) u s11 s12 s70 s71 s72 s73 s74 v s76 s77 :=
  ⟨h.b, fun e => h.f0 (of_upd e (by decide)), fun e => h.f1 (of_upd e (by decide)), fun e => h.f2 (of_upd e (by decide)), fun e e6 => h.f3 (of_upd e (by decide)) (by rwa [upd_ne (by decide)] at e6), fun e => h.f4 (of_upd e (by decide)), fun _ _ => hv, fun e => h.f6 (of_upd e (by decide)), fun e => h.f7 (of_upd e (by decide)), fun e => ⟨by rw [upd_ne (by decide)]; exact (h.f8 (of_upd e (by decide))).1, (h.f8 (of_upd e (by decide))).2⟩, fun e => ⟨by rw [upd_ne (by decide)]; exact (h.f9 (of_upd e (by decide))).1, (h.f9 (of_upd e (by decide))).2⟩⟩
theorem LI.op7 {v : Value} (h : LI xv X ys yn w2 D u s11 s12 s70 s71 s72 s73 s74 s75 s76 s77) (hD : D 7 = false) (hv : nF (namesF (X ++ [(ys, yn)])) u v) : LI xv X ys yn w2 (upd D 7) u s11 s12 s70 s71 s72 s73 s74 s75 s76 v :=
  ⟨h.b, fun e => h.f0 (of_upd e (by decide)), fun e => h.f1 (of_upd e (by decide)), fun e => h.f2 (of_upd e (by decide)), fun e e6 => h.f3 (of_upd e (by decide)) (by rwa [upd_ne (by decide)] at e6), fun e => h.f4 (of_upd e (by decide)), fun e e6 => h.f5 (of_upd e (by decide)) (by rwa [upd_ne (by decide)] at e6), fun e => h.f6 (of_upd e (by decide)), fun _ => hv, fun e => ⟨by rw [upd_ne (by decide)]; exact (h.f8 (of_upd e (by decide))).1, (h.f8 (of_upd e (by decide))).2⟩, fun e => absurd (h.f9 (of_upd e (by decide))).1 (by rw [hD]; simp)⟩
theorem LI.op8 (h : LI xv X ys yn w2 D u s11 s12 s70 s71 s72 s73 s74 s75 s76 s77) (e1 : D 1 = true) : LI xv X ys yn w2 (upd D 8) u s71 s12 s70 s71 s72 s73 s74 s75 s76 s77 :=
  ⟨h.b, fun e => h.f0 (of_upd e (by decide)), fun e => h.f1 (of_upd e (by decide)), fun e => h.f2 (of_upd e (by decide)), fun e e6 => h.f3 (of_upd e (by decide)) (by rwa [upd_ne (by decide)] at e6), fun e => h.f4 (of_upd e (by decide)), fun e e6 => h.f5 (of_upd e (by decide)) (by rwa [upd_ne (by decide)] at e6), fun e => h.f6 (of_upd e (by decide)), fun e => h.f7 (of_upd e (by decide)), fun _ => ⟨by rw [upd_ne (by decide)]; exact e1, rfl⟩, fun e => ⟨by rw [upd_ne (by decide)]; exact (h.f9 (of_upd e (by decide))).1, (h.f9 (of_upd e (by decide))).2⟩⟩
theorem LI.op9 (h : LI xv X ys yn w2 D u s11 s12 s70 s71 s72 s73 s74 s75 s76 s77) (e7 : D 7 = true) : LI xv X ys yn w2 (upd D 9) u s11 s77 s70 s71 s72 s73 s74 s75 s76 s77 :=
  ⟨h.b, fun e => h.f0 (of_upd e (by decide)), fun e => h.f1 (of_upd e (by decide)), fun e => h.f2 (of_upd e (by decide)), fun e e6 => h.f3 (of_upd e (by decide)) (by rwa [upd_ne (by decide)] at e6), fun e => h.f4 (of_upd e (by decide)), fun e e6 => h.f5 (of_upd e (by decide)) (by rwa [upd_ne (by decide)] at e6), fun e => h.f6 (of_upd e (by decide)), fun e => h.f7 (of_upd e (by decide)), fun e => ⟨by rw [upd_ne (by decide)]; exact (h.f8 (of_upd e (by decide))).1, (h.f8 (of_upd e (by decide))).2⟩, fun _ => ⟨by rw [upd_ne (by decide)]; exact e7, rfl⟩⟩
theorem LI.op6 {v v8 : Value} {xs : List Value} {n : Nat} (h : LI xv X ys yn w2 D u s11 s12 s70 s71 s72 s73 s74 s75 s76 s77) (hown : u.ownsRow w2.heap.size 39 2 v8 n xs) (hg : u.grownBy u' v8.ownBlock) (hv : eF w2.heap.size (X ++ [(ys, yn)]) u' v) : LI xv X ys yn w2 (upd D 6) u' s11 s12 s70 s71 s72 s73 s74 s75 v s77 :=
  ⟨Below.grown h.b hg h.b.size (fun q hq => (hown.lt q hq).1), fun e => h.f0 (of_upd e (by decide)), fun e => (h.f1 (of_upd e (by decide))).grown hg hown, fun e => h.f2 (of_upd e (by decide)), fun _ e6 => absurd e6 (by simp [upd_self]), fun e => h.f4 (of_upd e (by decide)), fun _ e6 => absurd e6 (by simp [upd_self]), fun _ => hv, fun e => (h.f7 (of_upd e (by decide))).grown hg hown, fun e => ⟨by rw [upd_ne (by decide)]; exact (h.f8 (of_upd e (by decide))).1, (h.f8 (of_upd e (by decide))).2⟩, fun e => ⟨by rw [upd_ne (by decide)]; exact (h.f9 (of_upd e (by decide))).1, (h.f9 (of_upd e (by decide))).2⟩⟩
end
/-- A call of a function of the program, by a contract that says of its result what it is. -/
theorem wp_call_rel {P : Program} {o : Oper} {a : Act} {w : World} {K : Act → World → Prop} {Q : Exit → Act → World → Prop} (f : FuncId) (xs : Array Operand) (ats : Array TypeId) (ho : o.op = .call { callee := .value (.func f), args := xs, argTypes := ats })
    (hf : ∀ args w, (callFunc f args).run P w = .ok (.enter f args) w) (args : Array Value) (hargs : #[] ++ xs.map a.eval ++ #[] = args) (R : Value → World → Prop)
    (hc : Calls P f args w fun e w' => ∃ v, e = .returned v ∧ R v w') (h : ∀ v w', R v w' → K (a.put o.dst v) w') : o.wp P a w K Q := by
  have e : execOp a.eval o = callFunc f (#[] ++ xs.map a.eval ++ #[]) := by
    obtain ⟨dst, op, ty, pos, after, guard⟩ := o
    simp only at ho
    subst ho
    rfl
  unfold Oper.wp
  rw [e, hargs, hf]
  exact hc.mono fun e w' ⟨v, he, hr⟩ => by subst he; exact h v w' hr

set_option maxRecDepth 100000 in
set_option maxHeartbeats 8000000 in
theorem orphanLost_raw (v hv xv : Value) (E : List Nd) (H : List Int) (X : List En) (ys : ByteArray) (yn : Int) (hl1 : E.length ≤ maxLen) (hl2 : H.length ≤ maxLen) (hl3 : X.length ≤ maxLen) (w : World) (h1 : RowAt w v 8 E.length (ncells E)) (h2 : IntsAt w hv H) (h3 : EntsAt w xv X) :
    Calls Try.prog 4 #[v, hv, xv, .agg #[.string ys, .int .i64 yn]] w fun e w' => e = .returned (.bool true) ∧ Below w.heap.size w w' := by
  unfold maxLen at hl1 hl2 hl3
  have H1 := Lib.hid h1
  have H2 := Lib.hid h2
  have H3 := Lib.hid h3
  obtain ⟨p, cp, hpv, HP⟩ := nodes_open h1
  obtain ⟨ph, ch, hph, _⟩ := ints_open h2
  obtain ⟨N, HN⟩ : ∃ N, Hid (E.length = N) := ⟨_, rfl⟩
  obtain ⟨M, HM⟩ : ∃ N, Hid (H.length = N) := ⟨_, rfl⟩
  obtain ⟨R, HR⟩ : ∃ N, Hid (N = X.length) := ⟨_, rfl⟩
  obtain ⟨px, cx, hxv, _⟩ := ents_open h3 R HR.out
  rw [HN.out] at hpv HP hl1
  rw [HM.out] at hph hl2
  rw [← HR.out] at hl3
  subst hpv hph hxv
  clear h1 h2 h3
  have HY0 := Lib.hid (heap_alloc_new w (.cells #[.string ys, .int .i64 yn] 39))
  have HBY : Hid (Below w.heap.size w (w.alloc (.cells #[.string ys, .int .i64 yn] 39))) := (Below.refl _ _).alloc (Nat.le_refl _) _
  go_enter Try.func4, Try.ntmps4
  go_wp2_with fail
  refine (cut_true _).mono ?_
  rintro e w1 ⟨rfl, hb1⟩
  have HY1 := Lib.hid (heap_below hb1 HY0.out)
  have HB1 := Lib.hid (Below.step HBY.out hb1)
  clear hb1 HY0 HBY
  by_cases c1 : 40 < (N : Int)
  · have b1 : decide (40 < (N : Int)) = true := by rw [decide_eq_true_iff]; exact c1
    go_wp2
    go_ret
    exact ⟨rfl, HB1.out⟩
  have b1 : decide (40 < (N : Int)) = false := by rw [decide_eq_false_iff_not]; exact c1
  by_cases c2 : 40 < (M : Int)
  · have b2 : decide (40 < (M : Int)) = true := by rw [decide_eq_true_iff]; exact c2
    go_wp2
    go_ret
    exact ⟨rfl, HB1.out⟩
  have b2 : decide (40 < (M : Int)) = false := by rw [decide_eq_false_iff_not]; exact c2
  by_cases c3 : 100 < (R : Int)
  · have b3 : decide (100 < (R : Int)) = true := by rw [decide_eq_true_iff]; exact c3
    go_wp2
    go_ret
    exact ⟨rfl, HB1.out⟩
  have b3 : decide (100 < (R : Int)) = false := by rw [decide_eq_false_iff_not]; exact c3
  have hN40 : N ≤ 40 := by omega
  have hM40 : M ≤ 40 := by omega
  have hR100 : R ≤ 100 := by omega
  have HLO := Lib.hid (lost_any (.slice p N cp) (.slice ph M ch) E H w1 (RowAt.below H1.out HB1.out) (RowAt.below H2.out HB1.out) (by rw [HN.out]; omega) (by rw [HM.out]; omega))
  rw [HN.out] at HLO
  obtain ⟨G, HG⟩ : ∃ G, Hid (lostK E H N = G) := ⟨_, rfl⟩
  have HMEM : Hid (∀ n ∈ G, ∃ i, ∃ hi : i < E.length, i < N ∧ n = (i : Int) + 1 ∧ lostB E[i] H n = true) := fun n hn => lostK_mem N (by rw [HN.out]; exact Nat.le_refl _) (by rw [HG.out]; exact hn)
  rw [HG.out] at HLO
  have hGl : G.length ≤ N := by rw [← HG.out]; exact lostK_len _ _ _
  clear c1 c2 c3
  go_wp2_with fail
  refine HLO.out.mono ?_
  rintro e w2 ⟨rv, rfl, ho2, hb2⟩
  have HB2 := Lib.hid (Below.step HB1.out hb2)
  have HY2 := Lib.hid (heap_below hb2 HY1.out)
  obtain ⟨qg, cg, hrv, hqg⟩ := owns_slice ho2
  obtain ⟨L, HL⟩ : ∃ L, Hid (G.length = L) := ⟨_, rfl⟩
  rw [HL.out] at hrv hqg hGl
  subst hrv
  have HQ := Lib.hid hqg
  clear ho2 hb2 hqg b1 b2 b3
  go_wp2
  go_loop [34] (fun i => ∃ k : Nat, k ≤ L ∧ i = .int .i64 k) (fun i => L - (intOf i).toNat)
  case atStart => exact ⟨0, Nat.zero_le _, rfl⟩
  case round =>
    obtain ⟨k, hk, rfl⟩ := hrel
    by_cases hlt : k < L
    · obtain ⟨gg, rfl, _, hc⟩ := HQ.out (by omega)
      have hkl : k < G.length := by rw [HL.out]; exact hlt
      obtain ⟨i, hi, hiN, hn, hb⟩ := HMEM.out G[k] (List.getElem_mem hkl)
      have hc0 := hc k (.int .i64 G[k]) (by simp [ints, List.getElem?_eq_getElem hkl])
      rw [hn] at hc0 hb
      obtain ⟨g, o, rfl, hg, hcE⟩ := HP.out (by omega)
      obtain ⟨d0, _, _, _, _, d5, _, _⟩ := ncells_at hcE i hi
      have hd0 := (HB2.out.cell (p := ⟨g, o + i * 8, none⟩) hg).trans d0
      have hd5 := (HB2.out.cell (p := ⟨g, o + i * 8 + 5, none⟩) hg).trans d5
      generalize E[i] = x at hd0 hd5 hb
      obtain ⟨xk, xm, xu, xg, xs, xl, xup, xq, xn, xc⟩ := x
      dsimp only at hd0 hd5
      unfold lostB at hb
      simp only [Bool.and_eq_true, Bool.not_eq_true'] at hb
      obtain ⟨⟨hbk, hbl⟩, hbc⟩ := hb
      have hbl2 : (xl != 0) = false := by simp [bne, hbl]
      have hbk2 : (xk != 0) = true := by simp [bne, hbk]
      have HCT := Lib.hid (containsInts_any (.slice ph M ch) H ((i : Int) + 1) w2 (RowAt.below H2.out HB2.out) (by rw [HM.out]; omega))
      rw [hbc] at HCT
      have e1 : decide ((i : Int) + 1 < 1) = false := by rw [decide_eq_false_iff_not]; omega
      have e2 : decide ((N : Int) < (i : Int) + 1) = false := by rw [decide_eq_false_iff_not]; omega
      have e3 : ¬ (i : Int) + 1 < 1 := by omega
      have e4 : ¬ (N : Int) < (i : Int) + 1 := by omega
      have e5 : (i : Int) + 1 - 1 = (i : Int) := by omega
      have e6 : IntKind.i64.wrap ((i : Int) + 1 - 1) = (i : Int) := by rw [e5]; exact IntWalk.i64_in _ (by omega)
      have e7 : (i : Int) < (N : Int) := by omega
      clear hc hn hcE d0 d5 hbc e5
      go_wp2_with fail
      refine HCT.out.mono ?_
      rintro e w' ⟨rfl, rfl⟩
      go_wp2
      go_round
      case rel => exact ⟨k + 1, by omega, by go_num⟩
      case measure => simp [intOf]; omega
    · clear HQ HMEM HG HL HLO
      go_wp2_with fail
      refine wp_region_inv (by kernel_rfl) (by kernel_rfl) (fun D a u => ∃ s11 s12 s70 s71 s72 s73 s74 s75 s76 s77 : Value, a = ⟨#[.slice p N cp, .slice ph M ch, .slice px R cx, .agg #[.string ys, .int .i64 yn], undef, undef, undef, .pointer (some ⟨w.heap.size, 0, none⟩), u8, undef, u10, s11, s12, undef, undef, .bool true, .bool false, .slice p N cp, .int .i64 (N : Int), .bool false, .bool false, .slice ph M ch, .int .i64 (M : Int), .bool false, .bool false, .bool false, .slice px R cx, .int .i64 (R : Int), .bool false, .bool false, .slice p N cp, .slice ph M ch, .slice qg L cg, .int .i64 (L : Int), .int .i64 (k : Int), .bool false, u36, u37, u38, u39, u40, u41, u42, u43, u44, u45, u46, u47, u48, u49, u50, u51, u52, u53, u54, u55, u56, u57, u58, u59, u60, u61, u62, u63, u64, u65, u66, u67, u68, u69, s70, s71, s72, s73, s74, s75, s76, s77, undef, undef, undef, undef, undef, undef, undef, undef, undef, undef, undef, undef, undef, undef, undef, undef, undef, undef, undef, undef, undef, undef, undef, undef, undef, undef, undef, undef, undef, undef, undef, undef], []⟩ ∧ LI (.slice px R cx) X ys yn w2 D u s11 s12 s70 s71 s72 s73 s74 s75 s76 s77) ?_ ?_ ?_
      · exact ⟨_, _, _, _, _, _, _, _, _, _, rfl, ⟨(Below.refl _ _).drew, by simp, by simp, by simp, by simp, by simp, by simp, by simp, by simp, by simp, by simp⟩⟩
      · intro D a u hII i o ho hD ha
        obtain ⟨s11, s12, s70, s71, s72, s73, s74, s75, s76, s77, rfl, hI⟩ := hII
        match i, ho, hD, ha with
        | 0, ho, hD, ha =>
          simp only [List.getElem?_cons_zero, Option.some.injEq] at ho
          subst ho
          refine step_plain rfl ?_
          refine wp_move_op (.tmp 2) rfl ?_
          exact ⟨_, _, _, _, _, _, _, _, _, _, rfl, hI.op0⟩
        | 1, ho, hD, ha =>
          simp only [List.getElem?_cons_zero, List.getElem?_cons_succ, Option.some.injEq] at ho
          subst ho
          refine step_plain rfl ?_
          have e0 : D 0 = true := ha ⟨0, .data⟩ (by simp) rfl
          obtain rfl := hI.f0 e0
          refine (wp_call_rel 16 #[.tmp 70, .const (.int .i64 32)] #[37, 3] rfl (fun _ _ => by kernel_rfl) #[.slice px R cx, .int .i64 32] (by kernel_rfl) (fun v w' => nF (namesF X) w' v ∧ Below u.heap.size u w') ((names_any (.slice px R cx) X u (RowAt.below H3.out (Below.step HB2.out hI.b)) (by rw [← HR.out]; omega)).mono fun e w' h => ?_) ?_)
          · obtain ⟨g, he, h1, _, hb⟩ := h
            exact ⟨_, he, ⟨g, rfl, h1⟩, hb⟩
          intro v w' hv
          exact ⟨_, _, _, _, _, _, _, _, _, _, rfl, (hI.below hv.2).op1 hD hv.1⟩
        | 2, ho, hD, ha =>
          simp only [List.getElem?_cons_zero, List.getElem?_cons_succ, Option.some.injEq] at ho
          subst ho
          refine step_plain rfl ?_
          refine wp_move_op (.tmp 2) rfl ?_
          exact ⟨_, _, _, _, _, _, _, _, _, _, rfl, hI.op2⟩
        | 3, ho, hD, ha =>
          simp only [List.getElem?_cons_zero, List.getElem?_cons_succ, Option.some.injEq] at ho
          subst ho
          refine step_plain rfl ?_
          have e2 : D 2 = true := ha ⟨2, .data⟩ (by simp) rfl
          obtain rfl := hI.f2 e2
          refine (wp_call_rel 17 #[.tmp 72] #[37] rfl (fun _ _ => by kernel_rfl) #[.slice px R cx] (by kernel_rfl) (fun v w' => w'.ownsRow u.heap.size 39 2 v X.length (ents X) ∧ Below u.heap.size u w') ((entsClone_any (.slice px R cx) X u (RowAt.below H3.out (Below.step HB2.out hI.b)) (by rw [← HR.out]; omega)).mono fun e w' h => ?_) ?_)
          · obtain ⟨v, he, h1, hb, _⟩ := h
            exact ⟨v, he, h1, hb⟩
          intro v w' hv
          exact ⟨_, _, _, _, _, _, _, _, _, _, rfl, (hI.below hv.2).op3 (fun _ => owns_base hv.1 hI.b.size)⟩
        | 4, ho, hD, ha =>
          simp only [List.getElem?_cons_zero, List.getElem?_cons_succ, Option.some.injEq] at ho
          subst ho
          refine step_plain rfl ?_
          refine wp_load_row 39 (.tmp 7) rfl w.heap.size rfl 39 #[.string ys, .int .i64 yn] (0, 0) _ (heap_below hI.b HY2.out) Try.underlying39 rfl (by kernel_rfl) ?_
          exact ⟨_, _, _, _, _, _, _, _, _, _, rfl, hI.op4⟩
        | 5, ho, hD, ha =>
          simp only [List.getElem?_cons_zero, List.getElem?_cons_succ, Option.some.injEq] at ho
          subst ho
          refine step_plain rfl ?_
          have e4 : D 4 = true := ha ⟨4, .data⟩ (by simp) rfl
          obtain rfl := hI.f4 e4
          obtain ⟨i0, hi0, hz0, hz1, hz2⟩ := info_parts entInfo
          refine wp_buildSlice 37 39 1 #[(0, .tmp 74)] rfl #[.string ys, .int .i64 yn] i0 _ entsT hi0 hz0 (by rw [hz1]; decide) (by rw [hz1]; decide) (by rw [hz1]; kernel_rfl) ?_
          exact ⟨_, _, _, _, _, _, _, _, _, _, rfl, (hI.below ((Below.refl _ _).alloc (Nat.le_refl _) _)).op5 ⟨u.heap.size, rfl, heap_alloc_new u _⟩⟩
        | 6, ho, hD, ha =>
          simp only [List.getElem?_cons_zero, List.getElem?_cons_succ, Option.some.injEq] at ho
          subst ho
          refine step_plain rfl ?_
          have e3 : D 3 = true := ha ⟨3, .data⟩ (by simp) rfl
          have e5 : D 5 = true := ha ⟨5, .data⟩ (by simp) rfl
          have h3 := hI.f3 e3 hD
          obtain ⟨yb, rfl, hyb⟩ := hI.f5 e5 hD
          obtain ⟨i0, hi0, hz0, hz1, hz2⟩ := info_parts entInfo
          refine wp_append_own u (.tmp 73) (.tmp 75) 37 rfl w2.heap.size 39 i0 (.agg #[.string { data := #[] }, .int .i64 0]) 2 24 entsT hi0 hz0 hz1 hz2 rfl (by decide) s73 X.length (ents X) rfl h3 ⟨yb, 0, none⟩ 1 1 [.string ys, .int .i64 yn] rfl rfl (World.news_of_block (cs := #[.string ys, .int .i64 yn]) hyb) (by simp [Value.oneCell']) (by rw [← HR.out]; unfold maxLen; omega) (by rw [← HR.out]; omega) hI.b.size ?_
          intro v w' hown hgrow _
          exact ⟨_, _, _, _, _, _, _, _, _, _, rfl, hI.op6 h3 hgrow (by unfold eF; rw [List.length_append, ents_append]; exact hown)⟩
        | 7, ho, hD, ha =>
          simp only [List.getElem?_cons_zero, List.getElem?_cons_succ, Option.some.injEq] at ho
          subst ho
          refine step_plain rfl ?_
          have e6 : D 6 = true := ha ⟨6, .data⟩ (by simp) rfl
          have h6 := hI.f6 e6
          refine (wp_call_rel 16 #[.tmp 76, .const (.int .i64 32)] #[37, 3] rfl (fun _ _ => by kernel_rfl) #[s76, .int .i64 32] (by kernel_rfl) (fun v w' => nF (namesF (X ++ [(ys, yn)])) w' v ∧ Below u.heap.size u w') ((names_any s76 (X ++ [(ys, yn)]) u (RowAt.of_owns h6) (by rw [List.length_append, ← HR.out]; simp; omega)).mono fun e w' h => ?_) ?_)
          · obtain ⟨g, he, h1, _, hb⟩ := h
            exact ⟨_, he, ⟨g, rfl, h1⟩, hb⟩
          intro v w' hv
          exact ⟨_, _, _, _, _, _, _, _, _, _, rfl, (hI.below hv.2).op7 hD hv.1⟩
        | 8, ho, hD, ha =>
          simp only [List.getElem?_cons_zero, List.getElem?_cons_succ, Option.some.injEq] at ho
          subst ho
          refine step_plain rfl ?_
          have e1 : D 1 = true := ha ⟨1, .data⟩ (by simp) rfl
          refine wp_assign_op (.tmp 71) rfl ?_
          exact ⟨_, _, _, _, _, _, _, _, _, _, rfl, hI.op8 e1⟩
        | 9, ho, hD, ha =>
          simp only [List.getElem?_cons_zero, List.getElem?_cons_succ, Option.some.injEq] at ho
          subst ho
          refine step_plain rfl ?_
          have e7 : D 7 = true := ha ⟨7, .data⟩ (by simp) rfl
          refine wp_assign_op (.tmp 77) rfl ?_
          exact ⟨_, _, _, _, _, _, _, _, _, _, rfl, hI.op9 e7⟩
        | i + 10, ho, hD, ha => simp at ho
      · intro D a u hII hall
        obtain ⟨s11, s12, s70, s71, s72, s73, s74, s75, s76, s77, rfl, hI⟩ := hII
        obtain ⟨ga, rfl, hga⟩ := hI.f1 (hall 1 (by decide))
        obtain ⟨gb, rfl, hgb⟩ := hI.f7 (hall 7 (by decide))
        obtain ⟨_, rfl⟩ := hI.f8 (hall 8 (by decide))
        obtain ⟨_, rfl⟩ := hI.f9 (hall 9 (by decide))
        have HGA := Lib.hid hga
        have HGB := Lib.hid hgb
        have HBU := Lib.hid hI.b
        clear hI hga hgb hall
        have HYU : Hid (u.heap[w.heap.size]? = some (.cells #[.string ys, .int .i64 yn] 39 (0, 0))) := heap_below HBU.out HY2.out
        have HBW : Hid (Below w.heap.size w u) := Below.step HB2.out HBU.out
        have HNA : Hid ((namesF X).length = 32 ∧ ∀ i, 0 ≤ (namesF X).getD i 0 ∧ (namesF X).getD i 0 ≤ 100) := by
          have h := namesF_take X X.length (Nat.le_refl _)
          rw [List.take_length] at h
          exact ⟨h.1, fun i => ⟨(h.2 i).1, Int.le_trans (h.2 i).2 (by rw [← HR.out]; omega)⟩⟩
        have HNB : Hid (namesF (X ++ [(ys, yn)]) = bumpL (namesF X) yn) := namesF_snoc _ _
        rw [HNB.out] at HGB
        clear HP HN HM HR H1 H2 H3 HY1 HB1 HY2 HB2
        generalize namesF X = A at *
        go_wp2
        go_loopw [90] (fun i wr => ∃ j : Nat, j ≤ 32 ∧ i = .int .i64 j ∧ Hid (wr.heap[ga]? = some (.cells (ints A).toArray 3 (0, 0)) ∧ wr.heap[gb]? = some (.cells (ints (bumpL A yn)).toArray 3 (0, 0)) ∧ wr.heap[w.heap.size]? = some (.cells #[.string ys, .int .i64 yn] 39 (0, 0))) ∧ Below w.heap.size w wr) (fun i _ => 32 - (intOf i).toNat)
        case atStart => exact ⟨0, by omega, rfl, ⟨HGA.out, HGB.out, HYU.out⟩, HBW.out⟩
        case round =>
          obtain ⟨j, hj, rfl, HF, HB⟩ := hrel
          by_cases hlt : j < 32
          · obtain ⟨ha, hb, hy⟩ := HF.out
            have hla := HNA.out.1
            have hlb : (bumpL A yn).length = 32 := by rw [bumpL_len]; exact hla
            obtain ⟨hb1, hb2⟩ := HNA.out.2 j
            have hbg := bump_get A yn j hlt hla
            have gA : A[j]? = some (A.getD j 0) := by rw [List.getD_eq_getElem?_getD, List.getElem?_eq_getElem (by omega)]; rfl
            have gB : (bumpL A yn)[j]? = some ((bumpL A yn).getD j 0) := by rw [List.getD_eq_getElem?_getD, List.getElem?_eq_getElem (by omega)]; rfl
            rw [hbg] at gB
            generalize A.getD j 0 = av at *
            have ca : wr.cell? ⟨ga, j, none⟩ = some (.int .i64 av) := by
              rw [cell_of_row _ _ _ _ _ _ ha]
              simp [ints, gA]
            have cb : wr.cell? ⟨gb, j, none⟩ = some (.int .i64 (av + if yn = (j : Int) + 1 then 1 else 0)) := by
              rw [cell_of_row _ _ _ _ _ _ hb]
              simp only [ints, List.getElem?_toArray, List.getElem?_map, gB, Option.map_some]
            have cy : wr.cell? ⟨w.heap.size, 1, none⟩ = some (.int .i64 yn) := cell_of_row _ _ _ _ _ _ hy
            have hjl : (j : Int) < 32 := by omega
            clear ha hb hy hla hlb hbg gA gB
            by_cases hyj : yn = (j : Int) + 1
            · rw [if_pos hyj] at cb
              have b1 : (yn == (j : Int) + 1) = true := by rw [beq_iff_eq]; exact hyj
              have b2 : IntKind.i64.wrap (av + 1) = av + 1 := IntWalk.i64_in _ (by omega)
              have b3 : (av + 1 != av + 1) = false := by simp
              clear hyj
              go_wp2
              go_quiet (fail)
              go_wp2
              go_roundw
              case rel => exact ⟨j + 1, by omega, by go_num, HF, below_di HB _⟩
              case measure => simp [intOf]; omega
            · rw [if_neg hyj, Int.add_zero] at cb
              have b1 : (yn == (j : Int) + 1) = false := by rw [beq_eq_false_iff_ne]; exact hyj
              have b2 : IntKind.i64.wrap (av + 0) = av := by rw [Int.add_zero]; exact IntWalk.i64_in _ (by omega)
              have b3 : (av != av) = false := by simp
              clear hyj
              go_wp2
              go_quiet (fail)
              go_wp2
              go_roundw
              case rel => exact ⟨j + 1, by omega, by go_num, HF, below_di HB _⟩
              case measure => simp [intOf]; omega
          · go_wp2
            go_ret
            exact ⟨rfl, HB⟩

-- CLOSING

set_option maxRecDepth 100000 in
theorem orphanLost_lifted (os : Os) (started : os.Started) (H : Type) (enc' : TypeId × Value → H) :
    ReturnsInHanded {} Try.checked os 4 .any (Rows.orphanLostSpec.pre6 enc' Try.prog Try.f4 Rows.orphanLostRow.domain false) (Rows.orphanLostSpec.post enc' Try.prog Try.f4 false true false false) := by
  refine returnsInHanded_of_change (C := Try.checked) Try.own started (by kernel_rfl) Try.func4
    (ChangeSpec.witness6 (enc := enc') (C := Try.checked) false ⟨#[], #[.slice none 0 0, .slice none 0 0, .slice none 0 0, .agg #[.string { data := #[] }, .int .i64 0]], []⟩ 8 (by kernel_rfl) (by kernel_rfl) (by kernel_rfl) (by kernel_rfl)) ?_
  intro W base args ds gs before hval0 hW hcnd _
  have hval : ∀ (j : Nat) t v, Try.f4.params[j]? = some t → args[j]? = some v → Value.okWide Try.prog W .any base t v := hval0
  have hW' := hW
  obtain ⟨p, q, hA0, hV, rfl, hfz, hnd⟩ := hW
  have hA : DataW.TrodAll enc' Try.prog W 0 (fun _ => true) true Try.f4.params.toList args.toList ds p := hA0
  rw [Try.params4] at hA hval
  obtain ⟨v0, v1, v2, v3, d0, d1, d2, d3, p0, p1, p2, p3, rfl, rfl, rfl, h0, h1, h2, h3⟩ := trodAll_four hA
  obtain ⟨rfl, rfl⟩ := trodVars_none hV
  obtain ⟨E, hE, hEl⟩ := open_nodesAt rfl Try.underlying36 Try.underlying24 (by kernel_rfl) (by kernel_rfl) rfl rfl rfl rfl rfl rfl rfl rfl (hval 0 36 v0 rfl rfl) h0
  obtain ⟨Hl, hH, hHl⟩ := open_intsAt (hval 1 22 v1 rfl rfl) h1
  obtain ⟨X, hX, hXl, hXs⟩ := open_entsAt (P := Try.prog) Try.underlying37 Try.underlying39 (by kernel_rfl) rfl rfl (by kernel_rfl) (by kernel_rfl) (by kernel_rfl) (by kernel_rfl) (hval 2 37 v2 rfl rfl) h2
  obtain ⟨ys, yn, rfl, hys, hyn⟩ := open_entAt (P := Try.prog) Try.underlying39 (by kernel_rfl) (by kernel_rfl) (by kernel_rfl) (by kernel_rfl) (hval 3 39 v3 rfl rfl) h3
  clear hA0 hval0
  refine (orphanLost_raw _ _ _ E Hl X ys yn hEl hHl hXl W hE hH hX).mono fun e W' ⟨he, hw⟩ => ?_
  subst he
  exact ⟨_, rfl, law_post 4 Try.laidOut (by kernel_rfl) rfl rfl Try.underlying4 hW' rfl hw⟩

theorem orphanLost_holds : Rows.OrphanLostSaid :=
  OpenClaim.holds_of_wide 4 Try.f4 rfl rfl rfl rfl rfl rfl rfl ⟨rfl, rfl, rfl, rfl, rfl⟩ rfl rfl rfl rfl rfl (by kernel_rfl) Try.func4 (by kernel_rfl)
    (of_decide_eq_true (by kernel_rfl)) (by unfold Func.isWrapper; first | (rw [if_pos (by decide +kernel)]; kernel_rfl) | (rw [if_neg (by decide +kernel)]; exact ⟨rfl, rfl⟩))
    (fun os started H enc _ => orphanLost_lifted os started H enc)

end Go.Proofs.Ytablomjaaifgfaa
