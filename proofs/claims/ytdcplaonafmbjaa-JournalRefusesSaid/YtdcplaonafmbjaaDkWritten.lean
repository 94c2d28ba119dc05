/- The fact written. -/
import Derived.Test.YtdcplaonafmbjaaDkSpun
import Derived.Deep.DrawnRows
import Derived.Deep.RegionHeldLaw
namespace Go.Proofs.Ytdcplaonafmbjaa
open Go.RowKit
attribute [local go_sem ↓] Go.wp_at_zero Go.wp_at_succ

section
variable {P : Program} {o : Oper} {a : Act} {w : World} {K : Act → World → Prop} {Q : Exit → Act → World → Prop}
theorem step_call_g {ops : Array Oper} {X : Prop} (hw : Region.wanted o (yielded ops a.tmps) = true) (f : FuncId) (xs : Array Operand) (ats : Array TypeId) (ho : o.op = .call { callee := .value (.func f), args := xs, argTypes := ats })
    (hf : ∀ args w, (callFunc f args).run P w = .ok (.enter f args) w) (args : Array Value) (hargs : #[] ++ xs.map a.eval ++ #[] = args) (R : Value → World → Prop)
    (hc : Calls P f args w fun e w' => ∃ v, e = .returned v ∧ R v w') (h : ∀ v w', R v w' → K (a.put o.dst v) w') : if Region.wanted o (yielded ops a.tmps) = true then Oper.wp P o a w K Q else X := by
  rw [if_pos hw]
  have e : execOp a.eval o = callFunc f (#[] ++ xs.map a.eval ++ #[]) := by
    obtain ⟨dst, op, ty, pos, after, guard⟩ := o
    simp only at ho
    subst ho
    rfl
  unfold Oper.wp
  rw [e, hargs, hf]
  exact hc.mono fun e w' ⟨v, he, hr⟩ => by subst he; exact h v w' hr
end

theorem OwnDisk.below {w w1 w2 : World} {d : Value} {st : Dk} {k : Nat} (h : OwnDisk w d st k w1) (hb : Below w1.heap.size w1 w2) : OwnDisk w d st k w2 := by
  obtain ⟨F, h1, h2, h3⟩ := h
  exact ⟨F, h1.below hb, h2, Below.step h3 hb⟩
theorem stringT : Try.prog.underlying 9 = some .string := by kernel_rfl
theorem byteT' : Try.prog.underlying 5 = some (.int .u8) := by kernel_rfl
/-- Bytes as a string. -/
theorem conv_bytes {w : World} {v : Value} {D : List Int} (h : BytesAt w v D) (h0 : 0 < D.length) : (convert 42 9 v).run Try.prog w = .ok (.string (bytesS D)) w := by
  obtain ⟨_, ⟨hn, _⟩ | ⟨g, o, c, rfl, hc⟩⟩ := h
  · omega
  exact run_string_of w 42 9 5 g o c D.length D rfl u8sT byteT' stringT hc
theorem bytes_take {w : World} {g n m cap cap' : Nat} {o : Nat} {D : List Int} (h : BytesAt w (.slice (some ⟨g, o, none⟩) n cap) D) (h0 : 0 < n) (hm : m ≤ n) : BytesAt w (.slice (some ⟨g, o, none⟩) m cap') (D.take m) := by
  obtain ⟨hl, ⟨hn, a0, c0, he⟩ | ⟨g', o', c, he, hc⟩⟩ := h
  · injection he with _ e2; omega
  · injection he with e1 e2 e3
    injection e1 with e1
    injection e1 with e4 e5
    subst e4 e5
    have el : (D.take m).length = m := by rw [List.length_take]; omega
    refine ⟨by rw [u8s_len]; omega, Or.inr ⟨g, o, cap', by rw [el], fun j x hx => hc j x ?_⟩⟩
    rw [u8s_take, List.getElem?_take] at hx
    split at hx
    · exact hx
    · cases hx

theorem nil_bools (w : World) : BoolsAt w (.slice none 0 0) [] := ⟨rfl, Or.inl ⟨rfl, none, 0, rfl⟩⟩
def abc : ByteArray := { data := #[97, 98, 99] }
theorem abc_sec : (secS abc).take 3 = [97, 98, 99] := by decide
theorem zeros_sec : sec (List.replicate 1024 0) 3 = secS { data := #[] } := by
  unfold sec
  rw [List.drop_replicate, List.take_replicate]
  rfl

theorem size_own {w w1 : World} {d : Value} {st : Dk} (h : OwnDisk w d st 16 w1) : Calls Try.prog 38 #[d] w1 fun e w' => ∃ v, e = .returned v ∧ v = .int .i64 16 ∧ w1 = w' := by
  obtain ⟨F, h1, _⟩ := h
  exact (size_at h1).mono fun e w' ⟨he, hw⟩ => ⟨_, he, rfl, hw⟩
set_option maxRecDepth 100000 in
set_option maxHeartbeats 2000000 in
theorem written_true (w : World) : Calls Try.prog 19 #[] w fun e w' => e = .returned (.bool true) ∧ Below w.heap.size w w' := by
  go_enter Try.func19, Try.ntmps19
  go_wp2_with fail
  refine (new_any 16 16 rfl (by omega) (by omega) _).mono ?_
  rintro e w1 ⟨d, F0, rfl, hd, hF0, hb0, _⟩
  obtain ⟨a, rfl⟩ := hd.ptr
  have H1 : Hid (OwnDisk w (.pointer (some a)) (freshE 16) 16 w1) := ⟨F0, hd, hF0, hb0⟩
  clear hd hF0 hb0
  go_wp2_with fail
  refine (sector_any abc _).mono ?_
  rintro e w2 ⟨v2, rfl, hv2⟩
  have HV2 := Lib.hid hv2
  clear hv2
  go_wp2_with fail
  obtain ⟨F1, hD1, hF1, hB1⟩ := H1.out
  refine (write_at (hD1.below HV2.out.below) 3 (by omega) _ (secS abc) (secS_len abc) (HV2.out.keep hD1.fin) (by simp [freshE])).mono ?_
  rintro e w3 ⟨rfl, hdid⟩
  have H3 : Hid (OwnDisk w (.pointer (some a)) (writeE (freshE 16) 3 (secS abc)) 16 w3) := OwnDisk.did hF1 (Below.step hB1 HV2.out.below) hdid
  clear hdid hD1 hF1 hB1
  go_wp2_with fail
  obtain ⟨F3, hD3, hF3, hB3⟩ := H3.out
  refine (read_at hD3 3 (by omega)).mono ?_
  rintro e w4 ⟨v4, rfl, hv4⟩
  have HV4 := Lib.hid hv4
  have H4 : Hid (OwnDisk w (.pointer (some a)) (writeE (freshE 16) 3 (secS abc)) 16 w4) := H3.out.below hv4.below
  clear hv4
  go_wp2_with fail
  refine ((waiting_at (hD3.below HV4.out.below)).mono (fun e w' h => (⟨h.1.trans (ret_i (by rfl)), h.2⟩ : e = .returned (.int .i64 1) ∧ w4 = w'))).mono ?_
  rintro e w' ⟨rfl, rfl⟩
  go_wp2_with fail
  refine (crash_at (hD3.below HV4.out.below) _ [] (fun w' _ => nil_bools w') (by simp)).mono ?_
  rintro e w5 ⟨rfl, hdid⟩
  have e4 : sec (writeE (freshE 16) 3 (secS abc)).N 3 = secS abc := sec_put_same (k := 16) (by simp only [freshE, List.length_replicate]) (by omega) (secS_len abc)
  have HB5 : Hid (BytesAt w5 v4 (secS abc)) := by rw [← e4]; exact HV4.out.keep hD3.fin w5 hdid.keeps
  obtain ⟨g4, cap4, cur4, hv4, ⟨_, hcap4⟩, _⟩ := HV4.out
  rw [e4, secS_len] at hv4 hcap4
  have hcap5 : (3 : Int) ≤ (cap4 : Int) := by omega
  subst hv4
  have H5 : Hid (OwnDisk w (.pointer (some a)) (crashE (writeE (freshE 16) 3 (secS abc)) []) 16 w5) := OwnDisk.did hF3 (Below.step hB3 HV4.out.below) hdid
  clear hdid hD3 hF3 hB3 HV4 H4 H3 HV2 H1 e4
  go_wp2_with fail
  obtain ⟨F5, hD5, hF5, hB5⟩ := H5.out
  refine (read_at hD5 3 (by omega)).mono ?_
  rintro e w6 ⟨v6, rfl, hv6⟩
  have e6 : sec (crashE (writeE (freshE 16) 3 (secS abc)) []).N 3 = secS { data := #[] } := zeros_sec
  rw [e6] at hv6
  have HV6 := Lib.hid hv6
  have H6 : Hid (OwnDisk w (.pointer (some a)) (crashE (writeE (freshE 16) 3 (secS abc)) []) 16 w6) := H5.out.below hv6.below
  have HB6 : Hid (BytesAt w6 (.slice (some ⟨g4, 0, none⟩) 64 cap4) (secS abc)) := RowAt.below HB5.out hv6.below
  have hc1 : (convert 42 9 (.slice (some ⟨g4, 0, none⟩) 3 cap4)).run Try.prog w6.drew = .ok (.string { data := #[97, 98, 99] }) w6.drew := by
    have := conv_bytes (w := w6.drew) (bytes_take (m := 3) (cap' := cap4) HB6.out (by omega) (by omega)) (by rw [abc_sec]; decide)
    rw [abc_sec] at this
    exact this
  obtain ⟨B, HBB⟩ : ∃ B, Hid (B = bytesS (secS { data := #[] })) := ⟨_, rfl⟩
  have hc2 : (convert 42 9 v6).run Try.prog w6.drew = .ok (.string B) w6.drew := by
    rw [HBB.out]
    exact conv_bytes (w := w6.drew) hv6.at (by rw [secS_len]; omega)
  clear hv6 e6 hD5 hF5 hB5 HB5 H5
  generalize crashE (writeE (freshE 16) 3 (secS abc)) [] = st6 at H6
  go_wp2_with fail
  refine wp_region_noPanic ?_
  go_region_held_law (fun w' => (convert 42 9 (.slice (some ⟨g4, 0, none⟩) 3 cap4)).run Try.prog w' = .ok (.string { data := #[97, 98, 99] }) w' ∧ (convert 42 9 v6).run Try.prog w' = .ok (.string B) w')
    (first
      | exact And.intro hc1 hc2
      | exact And.intro m1 m2
      | (go_keep; done))
    (first
      | (go_at_call 28; refine (sector_any { data := #[] } w6.drew).mono ?_; rintro e w7 ⟨v7, rfl, hv7⟩
         have hc3 : (convert 42 9 v7).run Try.prog w7 = .ok (.string B) w7 := by rw [HBB.out]; exact conv_bytes hv7.at (by rw [secS_len]; omega)
         have m2 : (convert 42 9 v6).run Try.prog w7 = .ok (.string B) w7 := by rw [HBB.out]; exact conv_bytes (RowAt.below (w := w6.drew) HV6.out.at hv7.below) (by rw [secS_len]; omega)
         have m1 : (convert 42 9 (.slice (some ⟨g4, 0, none⟩) 3 cap4)).run Try.prog w7 = .ok (.string { data := #[97, 98, 99] }) w7 := by
           have := conv_bytes (w := w7) (bytes_take (m := 3) (cap' := cap4) (RowAt.below (w := w6.drew) HB6.out hv7.below) (by omega) (by omega)) (by rw [abc_sec]; decide)
           rw [abc_sec] at this
           exact this
         have H7 : Hid (OwnDisk w (.pointer (some a)) st6 16 w7) := (OwnDisk.below (w1 := w6.drew) (by obtain ⟨F, h1, h2, h3⟩ := H6.out; exact ⟨F, h1.drew, h2, h3.drew⟩) hv7.below)
         clear hv7)
      | (go_at_call 38; refine (size_own H7.out).mono ?_; rintro e w8 ⟨v8, rfl, rfl, rfl⟩))
  all_goals
    refine NoPanic.normal ?_
    go_wp2
    go_ret
    exact ⟨rfl, by obtain ⟨F, _, _, h⟩ := H7.out; exact h⟩

end Go.Proofs.Ytdcplaonafmbjaa
