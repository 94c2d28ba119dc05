/- Entries sorted by name: what compares them; SortFunc. -/
import Derived.Test.YtheiaebmemcbhaaDoorDirW
import Derived.Test.YtheiaebmemcbhaaDoorDirSortLay
import Derived.Test.YtheiaebmemcbhaaDoorSortK
namespace Go.Proofs.YtheiaebmemcbhaaDoor
open Go.RowKit Go.Sort Go.Shelf

def encE (x : En) : List Value := [.string x.1, .int .i64 x.2]
def cfE (x y : En) : Int := cmpB x.1 y.1
theorem encE_len (x : En) : (encE x).length = 2 := rfl
theorem encE_one (x : En) : ∀ v ∈ encE x, v.oneCell' = true := by
  intro v hv
  simp [encE] at hv
  rcases hv with rfl | rfl <;> rfl
theorem cmp_neg (a b : ByteArray) : decide (cmpB a b < 0) = lexB a b := by
  unfold cmpB
  cases lexB a b with
  | true => rfl
  | false => by_cases h : a = b <;> simp [h]
theorem cmpE_swo : SWO (ltOf cfE) where
  irrefl x := by unfold ltOf cfE; rw [cmp_neg]; exact lex_irrefl _
  trans x y z h1 h2 := by
    unfold ltOf cfE at *
    rw [cmp_neg] at *
    exact lex_trans h1 h2
  ntrans x y z h1 h2 := by
    unfold ltOf cfE at *
    rw [cmp_neg] at *
    cases h : lexB x.1 z.1 with
    | false => rfl
    | true =>
      cases h3 : lexB y.1 x.1 with
      | true => rw [lex_trans h3 h] at h2; cases h2
      | false => rw [lex_total h1 h3] at h; rw [h] at h2; cases h2

set_option maxRecDepth 100000 in
set_option maxHeartbeats 1000000 in
theorem cmpE_any (x y : En) (W : World) :
    Calls Tryd.prog 28 #[.agg (encE x).toArray, .agg (encE y).toArray] W fun e w' => e = .returned (.int .i64 (cfE x y)) ∧ ∃ q os', w' = grow (W.drewN q) os' := by
  unfold cfE encE
  obtain ⟨x1, x2⟩ := x
  obtain ⟨y1, y2⟩ := y
  obtain ⟨r, Hr⟩ : ∃ r, Hid (cmpB x1 y1 = r) := ⟨_, rfl⟩
  have HC : Hid (∀ W : World, Calls Tryd.prog 29 #[.string x1, .string y1] W fun e w' => e = .returned (.int .i64 r) ∧ W = w') := fun W => by
    rw [← Hr.out]; exact compare_any x1 y1 W
  have hr : cmpB (x1, x2).1 (y1, y2).1 = r := Hr.out
  rw [hr]
  clear Hr hr
  have hn1 : ¬ W.heap.size = W.heap.size + 1 := by omega
  go_enter Tryd.func28, Tryd.ntmps28
  go_wp2_with fail
  refine (HC.out _).mono ?_
  rintro e w1 ⟨rfl, rfl⟩
  go_wp2
  go_ret
  exact ⟨rfl, 0, _, by rw [alloc_eq_grow, alloc_eq_grow, grow_grow]; rfl⟩
def SortE (base : Nat) (v : Value) (O : List En) (W : World) (e : Ending) (w' : World) : Prop := e = .returned (.tuple #[]) ∧ ∃ T : List En, T.Perm O ∧ T.Pairwise (fun a b => lexB b.1 a.1 = false) ∧ w'.ownsRow base 33 2 v O.length (ents T) ∧ W.grownBy w' v.ownBlock
theorem ents_enc (l : List En) : ents l = l.flatMap encE := rfl
theorem lay1_fid : ∀ (args : Array Value) (w : World), (callFunc 28 args).run Tryd.prog w = .ok (.enter 28 args) w := enters_of Tryd.func28 (by kernel_rfl) rfl
set_option maxRecDepth 100000 in
theorem sort_any (base : Nat) (v : Value) (O : List En) (W : World) (hown : W.ownsRow base 33 2 v O.length (ents O)) (hl : O.length ≤ 1000000) :
    Calls Tryd.prog 27 #[v, .func (.func 28) #[] #[]] W (SortE base v O W) := by
  have hown0 := hown
  obtain ⟨h0, ⟨rfl, hn⟩ | ⟨g, cap, cur, rfl, hg, hhp, hc, hm, hs, ht⟩⟩ := hown
  · have hO : O = [] := List.length_eq_zero_iff.1 hn
    refine (AnyF.slices_SortFunc_none Tryd.laysSortE none 0 (.func (.func 28) #[] #[]) W).mono fun e w' ⟨he, hw⟩ => ⟨he, O, List.Perm.refl _, ?_, ?_, ?_⟩
    · rw [hO]; exact List.Pairwise.nil
    · rw [hw]; exact hown0
    · rw [hw]; exact ⟨rfl, rfl, rfl, Nat.le_refl _, fun _ _ _ => rfl⟩
  · have hsz : O.toArray.size = O.length := by simp
    have hH : HoldsK encE 2 W g 0 O.toArray := holdsK_of encE_len hhp (by rw [hsz]; have e : O.toArray.toList.flatMap encE = ents O := rfl; rw [e]; exact ht)
    have hcmp : CmpLays Tryd.prog 28 #[] encE 2 cfE g 0 O.toArray.size W := fun m os dk _ x y => cmpE_any x y _
    have key := AnyQ.slices_SortFunc Tryd.laysSortE 2 Tryd.isAgg33 Tryd.sizeOf33 encE encE_len encE_one cfE cmpE_swo 28 #[] g 0 cap O.toArray W lay1_fid hcmp hH (heap_lt hhp) (by rw [hsz]; omega)
    rw [hsz] at key
    refine key.mono ?_
    rintro e w' ⟨he, d', n, os, hp, hso, rfl⟩
    have hd : d'.size = O.length := by rw [hp.1, hsz]
    have hdl : d'.toList.length = O.length := by simpa using hd
    have hcs : d'.size * 2 ≤ cur.size := by rw [hd, hs]; exact Nat.mul_le_mul_right _ hc
    obtain ⟨cur', k1, k2, k3⟩ := sortedK_block (enc := encE) (k := 2) encE_len (m := n) (os := os) hhp hcs
    refine ⟨he, d'.toList, ?_, ?_, ?_, sortedK_grown⟩
    · have := hp.2.2
      have e1 : (d'.extract 0 O.length).toList = d'.toList := by rw [← hd]; simp
      have e2 : (O.toArray.extract 0 O.length).toList = O := by simp
      rw [e1, e2] at this
      exact this
    · rw [List.pairwise_iff_getElem]
      intro i j hi hj hij
      rw [hdl] at hi hj
      have h1 := hso i j (Nat.zero_le _) hij hj
      rw [getElem!_pos d' i (by omega), getElem!_pos d' j (by omega)] at h1
      unfold ltOf cfE at h1
      rw [cmp_neg] at h1
      rw [Array.getElem_toList, Array.getElem_toList]
      exact h1
    · refine ⟨by rw [ents_len, hdl], Or.inr ⟨g, cap, cur', rfl, hg, k1, hc, hm, by rw [k2]; exact hs, ?_⟩⟩
      rw [hd] at k3
      exact k3
end Go.Proofs.YtheiaebmemcbhaaDoor
