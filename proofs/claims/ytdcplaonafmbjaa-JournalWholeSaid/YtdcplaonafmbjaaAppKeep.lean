/- append onto a row of one's own, where the old row is read as it was. -/
import Derived.Deep.AppendLies
import Derived.ArgAppend
import Derived.Test.YtdcplaonafmbjaaProg
namespace Go.Proofs.Ytdcplaonafmbjaa
open Go

section
variable {P : Program}
theorem run_append_keep (w : World) (t ty : TypeId) (base : Nat) (e : TypeId) (i : TypeInfo) (z : Value) (size bytes : Nat) (ht : P.underlying t = some (.slice e)) (hi : P.info? e = some i) (hz : i.zero = some z)
    (hsize : i.size = size) (hby : i.bytes = bytes) (hzs : z.cells.size = size) (hsz : 0 < size)
    (g0 n cap0 : Nat) (xs : List Value) (hown : w.ownsRow base e size (.slice (some ⟨g0, 0, none⟩) n cap0) n xs)
    (ad : Addr) (m c : Nat) (news : List Value) (hl : news.length = m * size) (hnews : ∀ j u, news[j]? = some u → w.cell? (ad.add j) = some u) (h1 : ∀ u ∈ news, u.oneCell' = true)
    (hm : 0 < m) (h63 : n + m ≤ maxLen) (hbytes : (n + m) * bytes ≤ 140737488355328) (hbase : base ≤ w.heap.size) (H : Nat) (hH : w.heap.size = H) :
    ∃ g cap w', (Builtin.append_ #[t, t] ty #[.slice (some ⟨g0, 0, none⟩) n cap0, .slice (some ad) m c]).run P w = .ok (.slice (some ⟨g, 0, none⟩) (n + m) cap) w' ∧
      w'.ownsRow base e size (.slice (some ⟨g, 0, none⟩) (n + m) cap) (n + m) (xs ++ news) ∧ w.grownBy w' (some g0) ∧ (g = g0 ∨ g = H) ∧ g < w'.heap.size ∧ ∀ (j : Nat) (x : Value), xs[j]? = some x → w'.cell? ⟨g0, j, none⟩ = some x := by
  obtain ⟨g, cap, w', hr, h2, h3, h4, h5⟩ := run_append_lies (P := P) w t ty base e i z size bytes ht hi hz hsize hby hzs hsz _ n xs hown ad m c news hl hnews h1 hm h63 hbytes hbase H hH
  have hadd : ∀ (b j : Nat), (⟨b, 0, none⟩ : Addr).add j = ⟨b, j, none⟩ := fun b j => by unfold Addr.add; split <;> simp_all
  have hcells : ∀ (j : Nat) (x : Value), xs[j]? = some x → w.cell? ⟨g0, j, none⟩ = some x := fun j x hx => by
    have := hown.cells (g := g0) rfl j x hx
    rwa [hadd] at this
  have hlt := hown.lt g0 rfl
  refine ⟨g, cap, w', hr, h2, h3, ?_, h5, fun j x hx => ?_⟩
  · rcases h4 with h4 | h4
    · exact Or.inl (by simpa [Value.ownBlock] using h4.symm)
    · exact Or.inr h4
  · rcases h4 with h4 | h4
    · have e1 : g = g0 := by simpa [Value.ownBlock] using h4.symm
      subst e1
      have := h2.cells (g := g) rfl j x (by rw [List.getElem?_append_left (List.getElem?_eq_some_iff.1 hx).1]; exact hx)
      rwa [hadd] at this
    · by_cases hroom : n + m ≤ cap0
      · exfalso
        obtain ⟨hxl, ⟨hv, _⟩ | ⟨g', cap', cur, hv, _, hh, hc, hmx, hs, ht'⟩⟩ := hown
        · injection hv with hv _ _
          cases hv
        · injection hv with e1 _ e3
          injection e1 with e1
          injection e1 with e1 _ _
          subst e1 e3
          have hr2 := run_append_room (P := P) w t ty e i ht hi g0 n cap0 cur hh ad m c news (by rw [hsize]; exact hl) hnews h1 hroom (by
            rw [hsize, hl, hs, ← Nat.add_mul]
            exact Nat.mul_le_mul_right _ hroom)
          rw [hr] at hr2
          injection hr2 with hr2 _
          injection hr2 with hr2 _ _
          injection hr2 with hr2
          injection hr2 with hr2 _ _
          omega
      · obtain ⟨v2, w2, hr2, _, hg2⟩ := run_append_arg_grows (P := P) w t ty e i z size bytes ht hi hz hsize hby hzs hsz ⟨g0, 0, none⟩ n cap0 xs (by obtain ⟨hxl, _⟩ := hown; exact hxl) (fun j u hu => by rw [hadd]; exact hcells j u hu) ad m c news hl hnews (by omega) h63 hbytes
        rw [hr] at hr2
        injection hr2 with _ hr2
        subst hr2
        exact (World.cell?_of_block (hg2.block g0 hlt.2 (by simp))).trans (hcells j x hx)
theorem step_append_keep {w : World} {ops : Array Oper} {o : Oper} {a : Act} {K : Act → World → Prop} {Q : Exit → Act → World → Prop} {E : Prop} (hgd : o.guard = none) (s x : Operand) (t : TypeId)
    (ho : o.op = .call { callee := .builtin .append, args := #[s, x], argTypes := #[t, t] })
    (base : Nat) (e : TypeId) (i : TypeInfo) (z : Value) (size bytes : Nat) (ht : P.underlying t = some (.slice e)) (hi : P.info? e = some i) (hz : i.zero = some z)
    (hsize : i.size = size) (hby : i.bytes = bytes) (hzs : z.cells.size = size) (hsz : 0 < size)
    (g0 n cap0 : Nat) (xs : List Value) (hs : a.eval s = .slice (some ⟨g0, 0, none⟩) n cap0) (hown : w.ownsRow base e size (.slice (some ⟨g0, 0, none⟩) n cap0) n xs)
    (ad : Addr) (m c : Nat) (news : List Value) (hx : a.eval x = .slice (some ad) m c) (hl : news.length = m * size) (hnews : ∀ j u, news[j]? = some u → w.cell? (ad.add j) = some u) (h1 : ∀ u ∈ news, u.oneCell' = true)
    (hm : 0 < m) (h63 : n + m ≤ maxLen) (hbytes : (n + m) * bytes ≤ 140737488355328) (hbase : base ≤ w.heap.size) (H : Nat) (hH : w.heap.size = H)
    (h : ∀ g cap w', w'.ownsRow base e size (.slice (some ⟨g, 0, none⟩) (n + m) cap) (n + m) (xs ++ news) → w.grownBy w' (some g0) → (g = g0 ∨ g = H) → g < w'.heap.size → (∀ (j : Nat) (x : Value), xs[j]? = some x → w'.cell? ⟨g0, j, none⟩ = some x) → K (a.put o.dst (.slice (some ⟨g, 0, none⟩) (n + m) cap)) w') :
    if Region.wanted o (yielded ops a.tmps) = true then Oper.wp P o a w K Q else E := by
  have hw : Region.wanted o (yielded ops a.tmps) = true := by simp [Region.wanted, hgd]
  rw [if_pos hw]
  obtain ⟨g, cap, w', hr, h2, h3, h4, h5, h6⟩ := run_append_keep (P := P) w t o.type base e i z size bytes ht hi hz hsize hby hzs hsz g0 n cap0 xs hown ad m c news hl hnews h1 hm h63 hbytes hbase H hH
  unfold Oper.wp execOp
  simp only [ho, resolve, invoke, builtin, Sem.run_bind, Sem.run_pure, Result.andThen_ok, List.map_toArray, List.map_cons, List.map_nil, hs, hx, hr]
  exact h g cap w' h2 h3 h4 h5 h6
end

end Go.Proofs.Ytdcplaonafmbjaa
