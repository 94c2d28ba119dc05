/- Part of the proofs of FsHoles: the texts HolesLaw. -/
import Derived.Test.YtpoglnpjadmbpaaGreatDoorMC7
set_option maxHeartbeats 16000000
namespace Go.Proofs.YtpoglnpjadmbpaaGreatDoor
open Go.RowKit
theorem ybss (s : Fs) (sz : Nat) (hs : qpo s sz) : qgp (hN sz).P s.k := fun p hp => by
 rw [hs.k, List.eq_of_mem_replicate hp]; decide
theorem ybmt {w : World} {gf : Nat} {F : Nat → Prop} {B : Nat} {a : Addr} (h : FsAt w gf hs1 F B a) (hB : B ≤ w.heap.size) (sz : Nat) (hsz : sz ≤ 512) :
  Calls Tryz.prog 17 #[.pointer (some ⟨gf, 0, none⟩), .int .i64 2, .int .i64 (sz : Int)] w
   (fun e w' => e = .returned (.int .i64 0) ∧ ∃ s', qpo s' sz ∧ FsAt w' gf s' F B a ∧ qac F w w') := by
 have n1 : hs1.nodes[1]? = some (newN 420 7 0) := by rw [qnd]; rfl
 by_cases h0 : sz = 0
 ·subst h0
  refine (qrt h (newN 420 7 0) n1 rfl 0 (by omega) rfl).mono ?_
  rintro e w1 ⟨rfl, hb⟩
  exact ⟨rfl, hs1, hole_0, h.below hb, qac.of_below hb⟩
 ·refine (ybvw h hB (newN 420 7 0) n1 rfl (fun p hp => by cases hp) qux.hr1 sz hsz (by show (0 : Int) ≠ _; omega) ybmv rfl 37 ybvy (by omega) (by omega) fX0 (by rw [qnd]; rfl) (hN sz) (ybst sz) qps.1 (ybfu sz hsz) qps.2.2.1 (qkd (ybfu sz hsz)) (qtz sz) (by rw [ybdo]; omega)).mono ?_
  rintro e w1 ⟨rfl, h1, k1⟩
  exact ⟨rfl, _, ybsq sz hsz h0, h1, k1⟩
theorem x_at (w : World) : qae (w.alloc (.cells #[.int .u8 120] 5 (1, 2))) (.slice (some ⟨w.heap.size, 0, none⟩) 1 1) [120] :=
 qaw (by decide) (heap_alloc_new _ _) rfl
theorem ybbu {s : Fs} {sz : Nat} (hs : qpo s sz) (hsz : sz ≤ 512) (X : Pn) (hX : X.P.length ≤ 8) : ∀ Y ∈ s.nodes.set 1 X, Y.P.length ≤ 8 := fun Y hY => by
 rcases List.mem_or_eq_of_mem_set hY with hY | rfl
 ·rw [hs.nodes] at hY
  rcases List.mem_cons.1 hY with rfl | hY
  ·decide
  ·rcases List.mem_cons.1 hY with rfl | hY
   ·show (List.replicate _ _).length ≤ 8
    rw [List.length_replicate]; exact qcq (by omega)
   ·rw [List.eq_of_mem_replicate hY]; decide
 ·exact hX
theorem ybxq {s : Fs} {sz : Nat} (hs : qpo s sz) : s.nodes[1]? = some (hN sz) := by rw [hs.nodes]; rfl
theorem ybsu {s : Fs} {sz : Nat} (hs : qpo s sz) : s.nodes.set 1 (hN sz) = s.nodes := by rw [hs.nodes]; rfl
theorem ybdn {w : World} {gf : Nat} {s : Fs} {F : Nat → Prop} {B : Nat} {a : Addr} (h : FsAt w gf s F B a) (hB : B ≤ w.heap.size) {sz : Nat} (hs : qpo s sz) (hsz : sz ≤ 512) (p : Nat) (hp : p < 512) (v : Value) (hv : qbp w v [120]) :
  Calls Tryz.prog 16 #[.pointer (some ⟨gf, 0, none⟩), .int .i64 2, .int .i64 (p : Int), v] w
   (fun e w' => e = .returned (.tuple #[.int .i64 1, .int .i64 0]) ∧ ∃ s', FsAt w' gf s' F B a ∧ qac F w w' ∧ qhb s'.nodes 7 32 = 1 ∧ ∀ Y ∈ s'.nodes, Y.P.length ≤ 8) := by
 have hw := ybim hs p
 refine (qwv h hB (hN sz) (ybxq hs) rfl (ybss s sz hs) (by show (List.replicate _ _).length ≤ 8; rw [List.length_replicate]; exact qcq (by omega)) sz rfl hsz p v [120] hv (by decide) (by show p + 1 ≤ 512; omega) (by rw [hs.fo]; exact ybmv) (ybfw s sz p) hw hs.rows 37 (by show hs1.fo.nd 0 0 = _; exact ybvy) (by omega) (by omega) (ybmv.use 54) fX0 (by rw [hs.nodes]; rfl) (hN2 sz p) rfl qps.1 (qzv sz p hsz hp) qps.2.2.1 (qkd (qzv sz p hsz hp)) (qpv hs p) (by have := hs.len; show s.todo.length + 1 ≤ 24; omega)).mono ?_
 rintro e w1 ⟨rfl, h1, k1⟩
 exact ⟨rfl, _, h1, k1, ybbv hs p hsz hp _, ybbu hs hsz (hN2 sz p) (by show (List.set _ _ _).length ≤ 8; rw [List.length_set, List.length_replicate]; exact qcq (by omega))⟩
set_option maxRecDepth 100000 in
theorem ybmu (n0 n1 : Int) (w : World) : Calls Tryz.prog 5 #[.int .i64 n0, .int .i64 n1] w (fun e w' => e = .returned (.bool true) ∧ Below w.heap.size w w') := by
 have HFL := Lib.hid (qrl w)
 have HFR := Lib.hid (fun W => qmy 80 (by omega) (by omega) W)
 obtain ⟨sz, hsz, hsz2⟩ := ybar n0 513 (by omega) (by omega)
 obtain ⟨p, hp, hp2⟩ := ybar n1 512 (by omega) (by omega)
 have HP0 : Hid (∀ W : World, Calls Tryz.prog 8 #[.int .i64 n0, .int .i64 513] W (fun e w' => e = .returned (.int .i64 (sz : Int)) ∧ W = w')) := fun W => by rw [← hsz]; exact qno n0 513 W (by omega) (by omega)
 have HP1 : Hid (∀ W : World, Calls Tryz.prog 8 #[.int .i64 n1, .int .i64 512] W (fun e w' => e = .returned (.int .i64 (p : Int)) ∧ W = w')) := fun W => by rw [← hp]; exact qno n1 512 W (by omega) (by omega)
 have HSZ : Hid (sz ≤ 512 ∧ p < 512) := ⟨by omega, by omega⟩
 clear hsz hsz2 hp hp2
 go_enter Tryz.func5, Tryz.ntmps5
 go_wp2_with fail
 refine HFL.out.mono ?_
 rintro e w1 ⟨rfl, hb1⟩
 have HB1 := Lib.hid hb1
 clear hb1
 go_wp2_with fail
 refine (HFR.out w1).mono ?_
 rintro e w2 ⟨gf, a, F, rfl, h2, hb2, hF2⟩
 have HB2 := Lib.hid (Below.step HB1.out hb2)
 have HF : Hid (∀ i, F i → w.heap.size ≤ i) := fun i hi => Nat.le_trans HB1.out.size (hF2 i hi)
 have HMK : Hid (Calls Tryz.prog 15 #[.pointer (some ⟨gf, 0, none⟩), .int .i64 1, .string ⟨#[97]⟩, .int .i64 1, .int .i64 420, .int .i64 7, .int .i64 0] w2
   (fun e w' => e = .returned (.tuple #[.int .i64 2, .int .i64 0]) ∧ FsAt w' gf hs1 F w2.heap.size a ∧ qac F w2 w')) := Lib.hid (ybdf h2 (Nat.le_refl _) qux (by omega) (by omega) (by omega))
 clear h2 hb2 hF2
 go_wp2_with fail
 refine HMK.out.mono ?_
 rintro e w3 ⟨rfl, h3, k3⟩
 have HK3 := Lib.hid k3
 have HCT := Lib.hid (ybmt h3 k3.size sz HSZ.out.1)
 clear h3 k3
 go_wp2_with fail
 refine (HP0.out w3).mono ?_
 rintro e w3' ⟨rfl, rfl⟩
 go_wp2_with fail
 refine HCT.out.mono ?_
 rintro e w4 ⟨rfl, s4, hs4, h4, k4⟩
 have HK4 : Hid (qac F w2 w4) := HK3.out.trans k4 (fun _ h => Or.inl h)
 have HS4 := Lib.hid hs4
 have HU4 : Hid (Calls Tryz.prog 19 #[.pointer (some ⟨gf, 0, none⟩), .int .i64 7] w4 (fun e w' => e = .returned (.tuple #[.int .i64 0, .int .i64 0]) ∧ Below w4.heap.size w4 w')) := by
  have := ybdh h4 (by rw [← ybsu hs4]; exact ybbu hs4 HSZ.out.1 (hN sz) (by show (List.replicate _ _).length ≤ 8; rw [List.length_replicate]; exact qcq (by have := HSZ.out.1; omega))) 7 (by omega)
  rw [ybqe hs4] at this
  exact this
 have HW4 := Lib.hid (fun (W : World) (v : Value) (hW : Below w4.heap.size w4 W) (hv : qbp W v [120]) => ybdn (h4.below hW) (Nat.le_trans HK4.out.size hW.size) hs4 HSZ.out.1 p HSZ.out.2 v hv)
 clear h4 k4 hs4
 go_wp2_with fail
 refine HU4.out.mono ?_
 rintro e w5 ⟨rfl, hb5⟩
 have HB5 := Lib.hid hb5
 clear hb5
 have kc := Lib.run_convert_bytes_const (P := Tryz.prog) w5 38 5 #[.int .u8 120] 1 1 Tryz.underlying38 Tryz.underlying5
 go_wp2_with fail
 refine (HP1.out w5).mono ?_
 rintro e w5' ⟨rfl, rfl⟩
 go_wp2_with fail
 refine (HW4.out _ _ (HB5.out.alloc HB5.out.size _) ?_).mono ?_
 ·exact ⟨x_at w5, fun q n c h => by injection h with h1 h2 h3; omega⟩
 rintro e w6 ⟨rfl, s6, h6, k6, u6, l6⟩
 have HK6 : Hid (qac F w2 w6) := (HK4.out.trans (qac.of_below (HB5.out.alloc HB5.out.size _)) (fun _ h => Or.inl h)).trans k6 (fun _ h => Or.inl h)
 have HU6 : Hid (Calls Tryz.prog 19 #[.pointer (some ⟨gf, 0, none⟩), .int .i64 7] w6 (fun e w' => e = .returned (.tuple #[.int .i64 1, .int .i64 0]) ∧ Below w6.heap.size w6 w')) := by
  have := ybdh h6 l6 7 (by omega)
  rw [u6] at this
  exact this
 clear h6 k6 u6 l6
 go_wp2_with fail
 refine HU6.out.mono ?_
 rintro e w7 ⟨rfl, hb7⟩
 have HBB : Hid (Below w.heap.size w w7) := Below.step (HB2.out.trans (HK6.out.to_below HF.out HB2.out.size)) hb7
 clear hb7
 go_wp2
 go_ret
 exact ⟨rfl, HBB.out⟩
end Go.Proofs.YtpoglnpjadmbpaaGreatDoor
