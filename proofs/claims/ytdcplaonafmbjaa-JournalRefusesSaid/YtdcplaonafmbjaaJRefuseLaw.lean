/- JournalRefuses: walked. -/
import Derived.Test.YtdcplaonafmbjaaJRefuse
import Derived.Test.YtdcplaonafmbjaaJMay
import Derived.Deep.DeepCutAuto
import Derived.Deep.CutBlock
import Derived.Lib.SlBytesConst
namespace Go.Proofs.Ytdcplaonafmbjaa
open Go.RowKit

/-- Good writes apart from the disk and its journal, at most three. -/
structure RefGood (w0 : World) (a : Addr) (gl : Nat) (F : Nat → Prop) (b : Nat) (E : List Jw) (v : Value) (w : World) : Prop where
  j : JAtF w0 a gl (freshE 20) 0 F w
  t : JwsTwo w b b v E
  g : GoodL (E.map jab)
  lb : LB (E.map jab)
  l : E.length ≤ 3
  f : ∀ i, F i → i < b
  gb : gl < b ∧ w0.heap.size ≤ b
  z : b ≤ w.heap.size
/-- Writes that are refused. -/
def RefBad (w0 : World) (a : Addr) (gl : Nat) (F : Nat → Prop) (v : Value) (r : Int) (w : World) : Prop :=
  ∃ E, JAtF w0 a gl (freshE 20) 0 F w ∧ RowAt w v 2 E.length (jcells E) ∧ (∀ x ∈ E, JwShape x) ∧ E.length ≤ 1000 ∧ rightR E = r
theorem Below.drewL {n : Nat} {a w : World} (h : Below n a.drew w) : Below n a w := ⟨h.os, h.tape, h.output, h.size, h.block⟩
section
variable {w0 w w6 w' : World} {a : Addr} {gl b n : Nat} {F : Nat → Prop} {E : List Jw} {v v' dv : Value} {D : List Int} {o : Obj}
theorem RefGood.bad (h : RefGood w0 a gl F b E v w) (hb : Below w.heap.size w w6) (hown : w'.ownsRow b 44 2 v' (E.length + 1) (jcells E ++ [.int .i64 (n : Int), dv])) (hgrow : (w6.alloc o).grownBy w' v.ownBlock) (hx : JwShape ⟨n, dv, D⟩) (hbad : 20 ≤ n ∨ (2 ≤ n ∧ n < 8) ∨ D.length ≠ 64) : RefBad w0 a gl F v' 1 w' := by
  refine ⟨E ++ [⟨n, dv, D⟩], (h.j.below hb).grown hgrow (fun q hq => ?_), ?_, fun x hx' => ?_, ?_, right_bad rfl h.g h.lb h.l _ hbad⟩
  · have h1 := (h.t.1.lt q hq).1
    have h2 := h.gb
    exact ⟨by omega, fun hc => by have := h.f q hc; omega, by omega⟩
  · have := RowAt.of_owns hown
    rw [List.length_append, jcells_append]
    exact this
  · rcases List.mem_append.1 hx' with h1 | h1
    · exact new_shape (h.t.2 x h1)
    · rw [List.mem_singleton] at h1; subst h1; exact hx
  · rw [List.length_append]; have := h.l; simp; omega
theorem JwsTwo.take {g q : Nat} (h : JwsTwo w b b (.slice (some ⟨g, 0, none⟩) 4 q) E) (hl : E.length = 4) : JwsTwo w b b (.slice (some ⟨g, 0, none⟩) 3 q) (E.take 3) := by
  have h3 : (E.take 3).length = 3 := by rw [List.length_take]; omega
  refine ⟨?_, fun x hx => h.2 x (List.mem_of_mem_take hx)⟩
  obtain ⟨h1, ⟨hc, _⟩ | ⟨g', cap, cur, hv, h4, h5, h6, h7, h8, h9⟩⟩ := h.1
  · cases hc
  · injection hv with e1 e2 e3
    injection e1 with e1
    injection e1 with e1
    subst e1 e3
    refine ⟨by rw [jcells_len], Or.inr ⟨g, q, cur, by rw [h3], h4, h5, by omega, h7, h8, ?_⟩⟩
    have e : jcells E = jcells (E.take 3) ++ jcells (E.drop 3) := by rw [← jcells_append, List.take_append_drop]
    have hk : (jcells (E.take 3)).length = 6 := by rw [jcells_len, h3]
    have h10 := congrArg (List.take 6) h9
    rw [List.take_take, e, List.take_append_of_le_length (by omega), List.take_of_length_le (l := jcells (E.take 3)) (by omega)] at h10
    rw [h3, ← h10]
    congr 1
    omega
theorem RefGood.take {g q : Nat} (h1 : JAtF w0 a gl (freshE 20) 0 F w) (h : JwsTwo w b b (.slice (some ⟨g, 0, none⟩) 4 q) E) (hg : GoodL (E.map jab)) (hlb : LB (E.map jab)) (hl : E.length = 4) (f : ∀ i, F i → i < b) (gb : gl < b ∧ w0.heap.size ≤ b) (z : b ≤ w.heap.size) : RefGood w0 a gl F b (E.take 3) (.slice (some ⟨g, 0, none⟩) 3 q) w := by
  have hm : ∀ x ∈ (E.take 3).map jab, x ∈ E.map jab := fun x hx => by
    rw [List.map_take] at hx; exact List.mem_of_mem_take hx
  refine ⟨h1, h.take hl, ⟨fun x hx => hg.n x (hm x hx), ?_, ?_⟩, fun x hx => hlb x (hm x hx), by rw [List.length_take]; omega, f, gb, z⟩
  · have := hg.d
    rw [List.map_take, List.map_take]
    exact (List.take_sublist _ _).nodup this
  · rw [List.length_map, List.length_take]; omega
end

set_option maxRecDepth 100000 in
set_option maxHeartbeats 8000000 in
theorem refuse_law (v : Value) (l : PutL) (bd : Int) (w : World) (h : PutsAt w v l) (hl : l.length ≤ maxLen) (hs : ∀ x, x ∈ l → x.2.size ≤ maxLen) :
    Calls Try.prog 5 #[v, .int .i64 bd] w fun e w' => e = .returned (.bool true) ∧ Below w.heap.size w w' := by
  obtain ⟨N, HN⟩ : ∃ N, Hid (N = l.length) := ⟨_, rfl⟩
  obtain ⟨p, cp, rfl, _⟩ := puts_open h N HN.out
  have H := Lib.hid h
  have HSS := Lib.hid hs
  have HLM := Lib.hid hl
  clear h hs hl
  go_enter Try.func5, Try.ntmps5
  go_wp2_with fail
  refine (told_true _).mono ?_
  rintro e w1 ⟨rfl, hb1⟩
  have H1 : Hid (PutsAt w1 (.slice p N cp) l) := RowAt.below H.out hb1
  go_wp2_with fail
  refine (light_any _ l _ H1.out HLM.out HSS.out).mono ?_
  cases hlt : lightB l with
  | false =>
    rintro e w2 ⟨rfl, hb2⟩
    have hB2 := Below.step hb1 hb2
    clear hlt
    go_wp2
    go_ret
    exact ⟨rfl, hB2⟩
  | true =>
    rintro e w2 ⟨rfl, hb2⟩
    have hB2 := Below.step hb1 hb2
    have H2 : Hid (PutsAt w2 (.slice p N cp) l) := RowAt.below H1.out hb2
    have hl60 : l.length ≤ 60 := by unfold lightB at hlt; simp at hlt; exact hlt.1
    rw [← HN.out] at hl60
    clear hb1 hb2 hlt
    go_wp2_with fail
    refine (new_any 20 20 rfl (by omega) (by omega) _).mono ?_
    rintro e w3 ⟨d, F0, rfl, hd, hF0, hb0, _⟩
    obtain ⟨a, rfl⟩ := hd.ptr
    have HO := Lib.hid (open_law hd hF0 hb0 fresh_dkw.bn (by rw [zeros_open]; exact goodL_nil) (by simp [freshE]))
    rw [open_fresh, seq_fresh] at HO
    clear hd hF0 hb0
    go_wp2_with fail
    refine HO.out.mono ?_
    rintro e w4 ⟨gl, rfl, hj, _, _⟩
    obtain ⟨F4, hj4⟩ := hj.named
    have HJ4 := Lib.hid hj4
    have hb4 : Below w2.heap.size w2 w4 := hj4.b
    have HWR := Lib.hid (writes_any _ l w4 (RowAt.below H2.out hb4) (by rw [← HN.out]; omega))
    have hF4 : ∀ i, F4 i → i < w4.heap.size := fun i hi => hj4.d.fin i hi
    have hg4 : gl < w4.heap.size ∧ w2.heap.size ≤ w4.heap.size := ⟨heap_lt hj4.l, hb4.size⟩
    clear hj hj4 HO
    go_wp2_with fail
    refine HWR.out.mono ?_
    rintro e w5 ⟨v5, E5, rfl, hJ5, hE5, hb5⟩
    have HJ5 := Lib.hid (HJ4.out.below hb5)
    have hgd := wrs_good l
    rw [← hE5] at hgd
    have HGD := Lib.hid hgd
    obtain ⟨p5, q5, rfl, hp5⟩ := owns_slice hJ5.1
    have hq5 : E5.length ≤ q5 := by
      obtain ⟨_, ⟨hc, h0⟩ | ⟨g', cap, cur, hv, _, _, h6, _⟩⟩ := hJ5.1
      · omega
      · injection hv with _ _ e3; omega
    have HT5 := Lib.hid hJ5
    have HZ5 := Lib.hid hb5.size
    have hm4 : E5.length ≤ 4 := by have := hgd.1.l; rwa [List.length_map] at this
    have HP5 := Lib.hid hp5
    have HF4 := Lib.hid hF4
    have HG4 := Lib.hid hg4
    obtain ⟨m, Hm⟩ : ∃ m, Hid (E5.length = m) := ⟨_, rfl⟩
    rw [Hm.out] at HT5 hq5 hm4 HP5 ⊢
    clear hJ5 hE5 hb5 hgd HWR hp5 hF4 hg4
    go_upto_if 41 with fail
    go_cut [8] (fun s8 wx => ∃ E, RefGood w2 a gl F4 w4.heap.size E s8 wx)
    case first =>
      by_cases h4 : m = 4
      · subst h4
        obtain ⟨g5, rfl, _⟩ := HP5.out (by omega)
        have hq3 : 3 ≤ q5 := by omega
        have hq3i : (3 : Int) ≤ (q5 : Int) := by omega
        go_wp2
        go_meet
        exact ⟨_, RefGood.take HJ5.out HT5.out HGD.out.1 HGD.out.2 Hm.out HF4.out HG4.out HZ5.out⟩
      · have h4i : ¬ (m : Int) = 4 := by omega
        go_wp2
        go_meet
        exact ⟨E5, HJ5.out, HT5.out, HGD.out.1, HGD.out.2, by rw [Hm.out]; omega, HF4.out, HG4.out, HZ5.out⟩
    case rest =>
    obtain ⟨E, hgd⟩ := hcut
    obtain ⟨p8, q8, rfl, _⟩ := jws_open (RowAt.of_owns hgd.t.1)
    have HG := Lib.hid hgd
    obtain ⟨m8, Hm8⟩ : ∃ m, Hid (E.length = m) := ⟨_, rfl⟩
    have hm8 : m8 ≤ 3 := by rw [← Hm8.out]; exact hgd.l
    have hwc : w4.heap.size ≤ wc.heap.size := hgd.z
    have HOW : Hid (wc.ownsRow w4.heap.size 44 2 (.slice p8 m8 q8) m8 (jcells E)) := by
      have := hgd.t.1
      rw [Hm8.out] at this
      exact this
    rw [Hm8.out] at HG ⊢
    obtain ⟨q4, Hq4⟩ : ∃ q, Hid (pkN bd 4 = q) := ⟨_, rfl⟩
    have hq4 : q4 < 4 := by rw [← Hq4.out]; exact pkN_lt bd 4 (by omega) (by omega)
    have HPK : Hid (∀ W : World, Calls Try.prog 23 #[.int .i64 bd, .int .i64 4] W fun e w' => e = .returned (.int .i64 (q4 : Int)) ∧ W = w') := fun W => by
      have := pickN bd 4 W (by omega) (by omega)
      rw [Hq4.out] at this
      exact this
    obtain ⟨q6, Hq6⟩ : ∃ q, Hid (pkN (N : Int) 6 = q) := ⟨_, rfl⟩
    have hq6 : q6 < 6 := by rw [← Hq6.out]; exact pkN_lt (N : Int) 6 (by omega) (by omega)
    have HPN : Hid (∀ W : World, Calls Try.prog 23 #[.int .i64 (N : Int), .int .i64 6] W fun e w' => e = .returned (.int .i64 (q6 : Int)) ∧ W = w') := fun W => by
      have := pickN (N : Int) 6 W (by omega) (by omega)
      rw [Hq6.out] at this
      exact this
    obtain ⟨n2, hn2⟩ : ∃ n, 2 + q6 = n := ⟨_, rfl⟩
    have hw2 : IntKind.i64.wrap (2 + (q6 : Int)) = (n2 : Int) := by rw [IntWalk.i64_in _ (by omega)]; omega
    obtain ⟨i0, hi0, hz0, hz1, hz2⟩ := info_parts jwInfo
    have HI0 := Lib.hid hi0
    have HIZ := Lib.hid hz0
    have HI1 := Lib.hid hz1
    have HI2 := Lib.hid hz2
    clear hgd hi0 hz0 hz1 hz2
    go_wp2_with fail
    refine (HPK.out _).mono ?_
    rintro e w' ⟨rfl, rfl⟩
    go_upto_block 0 with fail
    go_cut [8, 9] (fun s8 s9 wx => ∃ r : Int, s9 = .int .i64 r ∧ r ≠ 0 ∧ Hid (RefBad w2 a gl F4 s8 r wx))
    case first =>
      rcases (by omega : q4 = 0 ∨ q4 = 1 ∨ q4 = 2 ∨ q4 = 3) with rfl | rfl | rfl | rfl
      · go_wp2_with fail
        refine (HPN.out _).mono ?_
        rintro e w' ⟨rfl, rfl⟩
        go_wp2_with fail
        refine (sector_any jB _).mono ?_
        rintro e w6 ⟨v6, rfl, hv6⟩
        obtain ⟨g6, cap6, cur6, rfl, hc6, hg6, _, _, hh6, ht6, hb6⟩ := new_bytes64 hv6 (secS_len jB)
        have HB6 := Lib.hid hb6
        have hz6 : w4.heap.size ≤ w6.heap.size := Nat.le_trans hwc hb6.size
        clear hv6 hg6 hh6 ht6 hb6
        have HNB : Hid ((w6.alloc (.cells #[.int .i64 (n2 : Int), .slice (some ⟨g6, 0, none⟩) 64 cap6] 44)).heap[w6.heap.size]? = some (.cells #[.int .i64 (n2 : Int), .slice (some ⟨g6, 0, none⟩) 64 cap6] 44 (0, 0))) := heap_alloc_new _ _
        go_wp2_with (at_builtin; refine wpList_append_own _ rfl _ _ 35 rfl w4.heap.size 44 i0 (.agg #[.int .i64 0, .slice none 0 0]) 2 32 jwT HI0.out HIZ.out HI1.out HI2.out rfl (by decide) _ _ _ rfl ((owns_below HOW.out HB6.out).alloc _) ⟨_, 0, none⟩ 1 1 [.int .i64 (n2 : Int), .slice (some ⟨g6, 0, none⟩) 64 cap6] rfl rfl (World.news_of_block (cs := #[.int .i64 (n2 : Int), .slice (some ⟨g6, 0, none⟩) 64 cap6]) (t := 44) (fr := (0, 0)) HNB.out) (by simp [Value.oneCell']) (by unfold maxLen; omega) (by omega) (by simp; omega) ?_; intro v8 w8 hown hgrow _)
        have HBD : Hid (RefBad w2 a gl F4 v8 1 w8) := HG.out.bad HB6.out (by rw [Hm8.out]; exact hown) hgrow (D := secS jB) ⟨by show n2 < 256; omega, by rw [secS_len]; omega, _, cap6, by rw [secS_len]⟩ (Or.inr (Or.inl ⟨by omega, by omega⟩))
        clear hown hgrow
        go_wp2
        go_meet
        exact ⟨1, rfl, by omega, HBD⟩
      · go_wp2_with fail
        refine (sector_any jB _).mono ?_
        rintro e w6 ⟨v6, rfl, hv6⟩
        obtain ⟨g6, cap6, cur6, rfl, hc6, hg6, _, _, hh6, ht6, hb6⟩ := new_bytes64 hv6 (secS_len jB)
        have HB6 := Lib.hid hb6
        have hz6 : w4.heap.size ≤ w6.heap.size := Nat.le_trans hwc hb6.size
        clear hv6 hg6 hh6 ht6 hb6
        have HNB : Hid ((w6.alloc (.cells #[.int .i64 20, .slice (some ⟨g6, 0, none⟩) 64 cap6] 44)).heap[w6.heap.size]? = some (.cells #[.int .i64 20, .slice (some ⟨g6, 0, none⟩) 64 cap6] 44 (0, 0))) := heap_alloc_new _ _
        go_wp2_with (at_builtin; refine wpList_append_own _ rfl _ _ 35 rfl w4.heap.size 44 i0 (.agg #[.int .i64 0, .slice none 0 0]) 2 32 jwT HI0.out HIZ.out HI1.out HI2.out rfl (by decide) _ _ _ rfl ((owns_below HOW.out HB6.out).alloc _) ⟨_, 0, none⟩ 1 1 [.int .i64 20, .slice (some ⟨g6, 0, none⟩) 64 cap6] rfl rfl (World.news_of_block (cs := #[.int .i64 20, .slice (some ⟨g6, 0, none⟩) 64 cap6]) (t := 44) (fr := (0, 0)) HNB.out) (by simp [Value.oneCell']) (by unfold maxLen; omega) (by omega) (by simp; omega) ?_; intro v8 w8 hown hgrow _)
        have HBD : Hid (RefBad w2 a gl F4 v8 1 w8) := HG.out.bad HB6.out (by rw [Hm8.out]; exact hown) hgrow (n := 20) (D := secS jB) ⟨by show 20 < 256; omega, by rw [secS_len]; omega, _, cap6, by rw [secS_len]⟩ (Or.inl (by omega))
        clear hown hgrow
        go_wp2
        go_meet
        exact ⟨1, rfl, by omega, HBD⟩
      · have kc := Lib.run_convert_bytes_const (P := Try.prog) wc 42 5 #[.int .u8 106] 1 1 Try.underlying42 Try.underlying5
        have hz1 : (wc.alloc (.cells #[.int .u8 106] 5 (1, 2))).heap.size = wc.heap.size + 1 := by show (wc.heap.push _).size = _; simp
        have hnb := heap_alloc_new (wc.alloc (.cells #[.int .u8 106] 5 (1, 2))) (.cells #[.int .i64 0, .slice (some ⟨wc.heap.size, 0, none⟩) 1 1] 44)
        rw [hz1] at hnb
        have HNB := Lib.hid hnb
        clear hnb hz1
        go_wp2_with (at_builtin; refine wpList_append_own _ rfl _ _ 35 rfl w4.heap.size 44 i0 (.agg #[.int .i64 0, .slice none 0 0]) 2 32 jwT HI0.out HIZ.out HI1.out HI2.out rfl (by decide) _ _ _ rfl ((HOW.out.alloc _).alloc _) ⟨_, 0, none⟩ 1 1 [.int .i64 0, .slice (some ⟨wc.heap.size, 0, none⟩) 1 1] rfl rfl (World.news_of_block (cs := #[.int .i64 0, .slice (some ⟨wc.heap.size, 0, none⟩) 1 1]) (t := 44) (fr := (0, 0)) HNB.out) (by simp [Value.oneCell']) (by unfold maxLen; omega) (by omega) (by simp; omega) ?_; intro v8 w8 hown hgrow _)
        have HBD : Hid (RefBad w2 a gl F4 v8 1 w8) := HG.out.bad ((Below.refl _ _).alloc (Nat.le_refl _) _) (by rw [Hm8.out]; exact hown) hgrow (n := 0) (dv := .slice (some ⟨wc.heap.size, 0, none⟩) 1 1) (D := [106]) ⟨by show 0 < 256; omega, by simp, some ⟨wc.heap.size, 0, none⟩, 1, rfl⟩ (Or.inr (Or.inr (by simp)))
        clear hown hgrow
        go_wp2
        go_meet
        exact ⟨1, rfl, by omega, HBD⟩
      · go_wp2_with fail
        refine (sector_any jB _).mono ?_
        rintro e w6 ⟨v6, rfl, hv6⟩
        obtain ⟨g6, cap6, cur6, rfl, hc6, hg6, _, _, hh6, ht6, hb6⟩ := new_bytes64 hv6 (secS_len jB)
        have HB6 := Lib.hid hb6
        have hz6 : w4.heap.size ≤ w6.heap.size := Nat.le_trans hwc hb6.size
        clear hv6 hg6 hh6 ht6 hb6
        have HB7 : Hid (Below wc.heap.size wc (w6.alloc (.cells #[.int .i64 0, .slice (some ⟨g6, 0, none⟩) 64 cap6] 44))) := HB6.out.trans ((Below.refl _ _).alloc HB6.out.size _)
        have hnew := heap_alloc_new w6 (.cells #[.int .i64 0, .slice (some ⟨g6, 0, none⟩) 64 cap6] 44)
        have HRW := Lib.hid (repW_any w6.heap.size (some ⟨g6, 0, none⟩) cap6 (w6.alloc (.cells #[.int .i64 0, .slice (some ⟨g6, 0, none⟩) 64 cap6] 44)) (cell_of_row _ _ _ _ _ _ hnew) (cell_of_row _ _ _ _ _ _ hnew))
        clear hnew
        go_wp2_with fail
        refine HRW.out.mono ?_
        rintro e w7 ⟨rfl, hr7, hb7⟩
        have HBD : Hid (RefBad w2 a gl F4 (.slice (some ⟨(w6.alloc (.cells #[.int .i64 0, .slice (some ⟨g6, 0, none⟩) 64 cap6] 44)).heap.size, 0, none⟩) 2 2) 5 w7) := by
          refine ⟨[⟨0, .slice (some ⟨g6, 0, none⟩) 64 cap6, secS jB⟩, ⟨0, .slice (some ⟨g6, 0, none⟩) 64 cap6, secS jB⟩], HG.out.j.below (Below.step HB7.out hb7), ⟨rfl, Or.inr ⟨_, 0, 2, rfl, fun j x hx => ?_⟩⟩, fun x hx => ?_, by simp, right_twice _⟩
          · rw [cell_of_row _ _ _ _ _ _ hr7, Nat.zero_add]
            rw [← hx, ← Array.getElem?_toList]
            rfl
          · have hs : JwShape ⟨0, .slice (some ⟨g6, 0, none⟩) 64 cap6, secS jB⟩ := ⟨by show 0 < 256; omega, by rw [secS_len]; omega, _, cap6, by rw [secS_len]⟩
            simp at hx
            subst hx
            exact hs
        have hz6s : (w6.alloc (.cells #[.int .i64 0, .slice (some ⟨g6, 0, none⟩) 64 cap6] 44)).heap.size = w6.heap.size + 1 := by show (w6.heap.push _).size = _; simp
        rw [hz6s] at HBD
        clear hr7 hb7 HB7 HRW hz6s
        go_wp2
        go_meet
        exact ⟨5, rfl, by omega, HBD⟩
    case rest =>
    obtain ⟨r, rfl, hr0, HBD⟩ := hcut
    obtain ⟨E9, hj, hrow, hsh, hln, hrt⟩ := HBD.out
    obtain ⟨p9, q9, rfl, _⟩ := jws_open hrow
    have HIM := Lib.hid (image_at hj.d)
    have HJ9 := Lib.hid hj
    have HRW := Lib.hid hrow
    have HSH := Lib.hid hsh
    have HRT := Lib.hid hrt
    obtain ⟨m9, Hm9⟩ : ∃ m, Hid (E9.length = m) := ⟨_, rfl⟩
    rw [Hm9.out] at hln ⊢
    have hlen : 0 < (freshE 20).S.length := by simp [freshE]
    obtain ⟨B, HBB⟩ : ∃ B, Hid (B = bytesS (freshE 20).S) := ⟨_, rfl⟩
    obtain ⟨S0, HS0⟩ : ∃ S, Hid (S = (freshE 20).S) := ⟨_, rfl⟩
    rw [← HS0.out] at HBB HIM hlen
    have HL0 := Lib.hid hlen
    clear hj hrow hsh hrt hlen HBD
    go_wp2_with fail
    refine HIM.out.mono ?_
    rintro e w7 ⟨v7, rfl, hv7⟩
    have hJ7 := HJ9.out.below hv7.below
    have HV7 : Hid (BytesAt w7 v7 S0) := hv7.at
    have hc0 : (convert 42 9 v7).run Try.prog w7.drew = .ok (.string B) w7.drew := by
      rw [HBB.out]; exact conv_bytes (w := w7.drew) hv7.at HL0.out
    have hcm := commit_bad (w := w7.drew) hJ7.d.drew hJ7.l (.slice p9 E9.length q9) E9 (RowAt.below (w' := w7) HRW.out hv7.below) HSH.out (by rw [Hm9.out]; exact hln) r HRT.out hr0
    rw [Hm9.out] at hcm
    have HCM := Lib.hid hcm
    have HB7 : Hid (Below w.heap.size w w7.drew) := (Below.step (Below.step hB2 HJ9.out.b) hv7.below).drew
    have HJ7 := Lib.hid hJ7
    clear hv7 hJ7 hcm hln HIM
    go_wp2_with fail
    refine wp_region_noPanic ?_
    go_region_held_law (fun w' => (convert 42 9 v7).run Try.prog w' = .ok (.string B) w')
      (first
        | exact hc0
        | exact m1
        | exact m2
        | (go_keep; done))
      (first
        | (go_at_call 14; refine HCM.out.mono ?_; rintro e w8 ⟨rfl, hb8⟩
           have HB8 : Hid (Below w.heap.size w w8) := Below.step HB7.out hb8
           have hJ8 := HJ7.out.below (w' := w8) (Below.drewL hb8)
           have HWT := Lib.hid (waiting_at hJ8.d)
           have HIM := Lib.hid (image_at hJ8.d)
           rw [← HS0.out] at HIM
           have HJ8 := Lib.hid hJ8
           have HR8 : Hid (Below w7.heap.size w7 w8) := Below.drewL hb8
           have m1 : (convert 42 9 v7).run Try.prog w8 = .ok (.string B) w8 := by rw [HBB.out]; exact conv_bytes (RowAt.below HV7.out (Below.drewL hb8)) HL0.out
           clear hb8 hJ8)
        | (go_at_call 31; refine (HWT.out.mono (fun e w' h => (⟨h.1.trans (ret_i (by rfl)), h.2⟩ : e = .returned (.int .i64 0) ∧ w8 = w'))).mono ?_; rintro e w' ⟨rfl, rfl⟩)
        | (go_at_call 30; refine HIM.out.mono ?_; rintro e w9 ⟨v9, rfl, hv9⟩
           have hc9 : (convert 42 9 v9).run Try.prog w9 = .ok (.string B) w9 := by rw [HBB.out]; exact conv_bytes hv9.at HL0.out
           have HB9 : Hid (Below w.heap.size w w9) := Below.step HB8.out hv9.below
           have HSQ := Lib.hid (seq_at (HJ8.out.below hv9.below).l)
           have m2 : (convert 42 9 v7).run Try.prog w9 = .ok (.string B) w9 := by rw [HBB.out]; exact conv_bytes (RowAt.below (RowAt.below HV7.out HR8.out) hv9.below) HL0.out
           clear hv9)
        | (go_at_call 16; refine HSQ.out.mono ?_; rintro e w' ⟨rfl, rfl⟩))
    all_goals
      refine NoPanic.normal ?_
      go_wp2
      go_ret
      exact ⟨rfl, HB9.out⟩

end Go.Proofs.Ytdcplaonafmbjaa
