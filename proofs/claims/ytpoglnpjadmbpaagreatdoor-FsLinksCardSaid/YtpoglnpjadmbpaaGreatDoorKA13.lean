/- Part of the proofs of FsLinks: the texts DkOps2, Inode3, Inode4, Inode5. -/
import Derived.Test.YtpoglnpjadmbpaaGreatDoorKA10
import Derived.Test.YtpoglnpjadmbpaaGreatDoorKA11
import Derived.Deep.OwnRows
import Derived.Deep.DeepCutAuto
set_option maxHeartbeats 16000000
set_option maxRecDepth 100000
namespace Go.Proofs.YtpoglnpjadmbpaaGreatDoor
open Go.RowKit
theorem ybym (n:Nat):madeCells #[Value.int .u8 0] n=(u8s (List.replicate n 0)).toArray:=by
 apply Array.ext_getElem?
 intro i
 unfold madeCells u8s
 by_cases h:i<n
 ·simp[h,Nat.mod_one]
 ·simp[h]
theorem qht (n:Nat) (x:Int) (hx:x=n) (hn:n<=1000000) (W:World):(Instr.makeSlice 38 (.int .i64 x) (.int .i64 x)).run Tryz.prog W=.ok (.slice (some ⟨W.heap.size,0,none⟩) n n) (W.alloc (.cells (u8s (List.replicate n 0)).toArray 5)):=by
 subst hx
 rw[<-ybym]
 exact run_make_row' 38 5 (.int .u8 0) 1 u8sT qtd rfl .i64 .i64 n (by omega) (by omega) W
section
variable {w : World} {gd gs gn : Nat} {wt : Value} {E : List (Nat × Value)} {st : Dk} {L k : Nat} {F : Nat -> Prop}
end
def qgz (k m u g s l up:Int) (P:List Int):List Int:=
 if k=0 then List.replicate 32 0 else [k,m % 256,m / 256,u,g,s % 256,s / 256,l,up]++qeg (ofE P)++List.replicate 7 0
theorem ybwf (W:World):(Instr.makeSlice 38 (.int .i64 32) (.int .i64 32)).run Tryz.prog W=.ok (.slice (some ⟨W.heap.size,0,none⟩) 32 32) (W.alloc (.cells (byts (List.replicate 32 0)) 5)):=by kernel_rfl
theorem ybog (k m u g s l up:Int) (v:Value) (P:List Int) (w:World) (h:qao w v P) (hl:P.length<=1000000) (c:Int) (hc:Hid (qan k m u g s l up P=c)) (hc0:(c != 0)=true):
  Calls Tryz.prog 77 #[.agg #[.int .i64 k,.int .i64 m,.int .i64 u,.int .i64 g,.int .i64 s,.int .i64 l,.int .i64 up,v]] w fun e w'=>e=.returned (.tuple #[.slice none 0 0,.int .i64 c])/\Below w.heap.size w w':=by
 have HA:Hid (∀ o:Obj,Below w.heap.size w (w.alloc o)):=fun o=>(Below.refl _ _).alloc (Nat.le_refl _) o
 have H:Hid (∀ o:Obj,qao (w.alloc o) v P):=fun o=>qai.below h (HA.out o)
 clear h
 go_enter Tryz.func77,Tryz.ntmps77
 go_wp2_with fail
 refine (qou k m u g s l up v P _ (H.out _) hl).mono ?_
 rw[hc.out]
 rintro e w1 ⟨rfl,hb1⟩
 have hB:=Below.step (HA.out _) hb1
 clear hb1
 go_wp2
 go_ret2
 exact⟨rfl,hB⟩
def qlx (k m u g s l up:Int) (P:List Int) (w:World) (e:Ending) (w':World):Prop:=
 ∃ b,e=.returned (.tuple #[.slice (some ⟨b,0,none⟩) 32 32,.int .i64 0])/\w.heap.size<=b/\w'.heap[b]? = some (.cells (byts (qgz k m u g s l up P)) 5 (0,0))/\Below w.heap.size w w'
theorem ybiu (v:Value) (w:World) (h:qao w v []):
  Calls Tryz.prog 77 #[.agg #[.int .i64 0,.int .i64 0,.int .i64 0,.int .i64 0,.int .i64 0,.int .i64 0,.int .i64 0,v]] w (qlx 0 0 0 0 0 0 0 [] w):=by
 have HA:Hid (∀ o:Obj,Below w.heap.size w (w.alloc o)):=fun o=>(Below.refl _ _).alloc (Nat.le_refl _) o
 have H:Hid (∀ o:Obj,qao (w.alloc o) v []):=fun o=>qai.below h (HA.out o)
 obtain⟨Z0,HZ⟩:∃ Z,Hid (Z=byts (List.replicate 32 0)):=⟨_,rfl⟩
 have hmk:∀ W:World,(Instr.makeSlice 38 (.int .i64 32) (.int .i64 32)).run Tryz.prog W=.ok (.slice (some ⟨W.heap.size,0,none⟩) 32 32) (W.alloc (.cells Z0 5)):=fun W=>by rw[HZ.out];exact ybwf W
 clear h
 go_enter Tryz.func77,Tryz.ntmps77
 go_wp2_with fail
 refine (qou 0 0 0 0 0 0 0 v [] _ (H.out _) (by simp)).mono ?_
 have hr:qan 0 0 0 0 0 0 0 []=0:=rfl
 rw[hr]
 rintro e w1 ⟨rfl,hb1⟩
 have hB:=Below.step (HA.out _) hb1
 have k1:=qaa hb1 (heap_alloc_new w _)
 have c0:=(qag k1).1
 have hlt:=qac k1
 have HF:Hid ((w1.alloc (.cells Z0 5)).heap[w1.heap.size]? = some (.cells (byts (qgz 0 0 0 0 0 0 0 [])) 5 (0,0))):=by
  have e:qgz 0 0 0 0 0 0 0 []=List.replicate 32 0:=by unfold qgz;rw[if_pos rfl]
  rw[e,<-HZ.out];exact heap_alloc_new _ _
 clear hb1 hr k1
 go_wp2
 go_ret2
 exact⟨w1.heap.size,rfl,hB.size,HF.out,hB.alloc hB.size _⟩
-- GOOD
theorem ybrc (l:List Int) (i:Nat) (x:Int):(byts l).setIfInBounds i (.int .u8 x)=byts (l.set i x):=by
 unfold byts
 rw[List.setIfInBounds_toArray,List.map_set]
theorem qzt {k m u g s l up:Int} {P:List Int} (h:qan k m u g s l up P=0) (hk:¬ k=0):
  (1<=k/\k<=3)/\(0<=m/\m<=511)/\(0<=u/\u<=255)/\(0<=g/\g<=255)/\(0<=s/\s<=512)/\(0<=l/\l<=200)/\(0<=up/\up<=32)/\qca P=0/\(P.length:Int)=qcc s:=by
 unfold qan at h
 rw[if_neg hk]at h
 by_cases h1:k<0\/3<k\/m<0\/511<m\/u<0\/255<u\/g<0\/255<g\/l<0\/200<l
 ·rw[if_pos h1]at h;cases h
 rw[if_neg h1]at h
 by_cases h2:s<0\/512<s
 ·rw[if_pos h2]at h;cases h
 rw[if_neg h2]at h
 by_cases h3:(k=2/\(up<1\/32<up))\/(k ≠ 2/\up ≠ 0)
 ·rw[if_pos h3]at h;cases h
 rw[if_neg h3]at h
 by_cases h4:qca P ≠ 0
 ·rw[if_pos h4]at h;exact absurd h h4
 rw[if_neg h4]at h
 by_cases h5:(P.length:Int) ≠ qcc s
 ·rw[if_pos h5]at h;cases h
 refine⟨by omega,by omega,by omega,by omega,by omega,by omega,by omega,by omega,by omega⟩
def l5 (L:List Int) (y0 y1 y2 y3 y4:Int):List Int:=((((L.set 0 y0).set 1 y1).set 2 y2).set 3 y3).set 4 y4
def l4 (L:List Int) (y5 y6 y7 y8:Int):List Int:=(((L.set 5 y5).set 6 y6).set 7 y7).set 8 y8
def qfs (w:World) (b2 B b1:Nat) (o1 o2:Obj) (L:List Int) (W:World):Prop:=
 W.heap[B]? = some (.cells (byts L) 5 (0,0))/\W.heap[b1]? = some o1/\W.heap[b2]? = some o2/\Below w.heap.size w W
theorem qfs.set {w:World} {b2 B b1:Nat} {o1 o2:Obj} {L:List Int} {W:World} (h:qfs w b2 B b1 o1 o2 L W) (h1:b1 ≠ B) (h2:b2 ≠ B) (hw:w.heap.size<=B) (i:Nat) (y:Int):qfs w b2 B b1 o1 o2 (L.set i y) (W.setCell ⟨B,i,none⟩ (.int .u8 y)):=by
 refine⟨?_,(Below.heap_setCell _ _ _ b1 h1).trans h.2.1,(Below.heap_setCell _ _ _ b2 h2).trans h.2.2.1,h.2.2.2.setCell hw _⟩
 have:=heap_setCell_same _ _ i _ _ (.int .u8 y) h.1
 rw[ybrc]at this
 exact this
theorem qfs.drew {w:World} {b2 B b1:Nat} {o1 o2:Obj} {L:List Int} {W:World} (h:qfs w b2 B b1 o1 o2 L W):qfs w b2 B b1 o1 o2 L W.drew:=⟨h.1,h.2.1,h.2.2.1,h.2.2.2.drew⟩
theorem ybzs {w:World} {b2 B b1:Nat} {o1 o2:Obj} {L:List Int} {w2:World} (h:qfs w b2 B b1 o1 o2 L w2) (h1:b1 ≠ B) (h2:b2 ≠ B) (hw:w.heap.size<=B) (y0 y1 y2 y3 y4:Int):qfs w b2 B b1 o1 o2 (l5 L y0 y1 y2 y3 y4) (((((w2.setCell ⟨B,0,none⟩ (.int .u8 y0)).setCell ⟨B,1,none⟩ (.int .u8 y1)).setCell ⟨B,2,none⟩ (.int .u8 y2)).setCell ⟨B,3,none⟩ (.int .u8 y3)).setCell ⟨B,4,none⟩ (.int .u8 y4)).drew:=
 (((((h.set h1 h2 hw 0 y0).set h1 h2 hw 1 y1).set h1 h2 hw 2 y2).set h1 h2 hw 3 y3).set h1 h2 hw 4 y4).drew
theorem ybzr {w:World} {b2 B b1:Nat} {o1 o2:Obj} {L:List Int} {w2:World} (h:qfs w b2 B b1 o1 o2 L w2) (h1:b1 ≠ B) (h2:b2 ≠ B) (hw:w.heap.size<=B) (y0 y1 y2 y3:Int):qfs w b2 B b1 o1 o2 (l4 L y0 y1 y2 y3) ((((w2.setCell ⟨B,5,none⟩ (.int .u8 y0)).setCell ⟨B,6,none⟩ (.int .u8 y1)).setCell ⟨B,7,none⟩ (.int .u8 y2)).setCell ⟨B,8,none⟩ (.int .u8 y3)).drew:=
 ((((h.set h1 h2 hw 5 y0).set h1 h2 hw 6 y1).set h1 h2 hw 7 y2).set h1 h2 hw 8 y3).drew
theorem qfs.zero {w:World} {b2 B b1:Nat} {o1 o2:Obj} {y0 y1 y2 y3 y4:Int} {W:World} (h:qfs w b2 B b1 o1 o2 (l5 (List.replicate 32 0) y0 y1 y2 y3 y4) W) (j:Nat) (h5:5<=j) (hj:j<32):W.cell? ⟨B,j,none⟩=some (.int .u8 0):=by
 rw[cell_of_row _ _ _ _ _ _ h.1]
 unfold byts l5
 rw[List.getElem?_toArray,List.getElem?_map,List.getElem?_set_ne (by omega),List.getElem?_set_ne (by omega),List.getElem?_set_ne (by omega),List.getElem?_set_ne (by omega),List.getElem?_set_ne (by omega),List.getElem?_replicate,if_pos hj]
 rfl
theorem qfs.free {w:World} {b2 B b1:Nat} {o1 o2:Obj} {L:List Int} {W:World} (h:qfs w b2 B b1 o1 o2 L W) (j:Nat):W.frozen? ⟨B,j,none⟩=false:=frozen_of_row _ _ _ _ _ h.1
theorem qft {B:Nat} {a w:World} (h:Below B a w) {g:Nat} (hp:B<=g) (cs:Array Value):Below B a (w.setRow g cs):=
 ⟨h.os,h.tape,h.output,by simpa using h.size,fun i hi=>(setRow_other w g i cs (by omega)).trans (h.block i hi)⟩
theorem ybuc {k m u g s l up:Int} {P:List Int} (_hp:(qeg (ofE P)).length=16) (hk:¬ k=0):
  ((byts (l4 (l5 (List.replicate 32 0) k (m % 256) (m / 256) u g) (s % 256) (s / 256) l up)).toList.take 9++u8s (qeg (ofE P))++(byts (l4 (l5 (List.replicate 32 0) k (m % 256) (m / 256) u g) (s % 256) (s / 256) l up)).toList.drop (9+16)).toArray=byts (qgz k m u g s l up P):=by
 unfold qgz
 rw[if_neg hk]
 unfold byts
 rw[List.map_append,List.map_append]
 rfl
theorem ybiv (k m u g s l up : Int) (v : Value) (P : List Int) (w : World) (h : qao w v P) (hr : qan k m u g s l up P = 0) (hk : ¬ k = 0) :
    Calls Tryz.prog 77 #[.agg #[.int .i64 k, .int .i64 m, .int .i64 u, .int .i64 g, .int .i64 s, .int .i64 l, .int .i64 up, v]] w (qlx k m u g s l up P w) := by
  obtain ⟨⟨k0, k1⟩, ⟨m0, m1⟩, ⟨u0, u1⟩, ⟨g0, g1⟩, ⟨s0, s1⟩, ⟨l0, l1⟩, ⟨up0, up1⟩, hrE, hbl⟩ := qzt hr hk
  clear hbl
  have HA : Hid (∀ o : Obj, Below w.heap.size w (w.alloc o)) := fun o => (Below.refl _ _).alloc (Nat.le_refl _) o
  have H : Hid (∀ o : Obj, qao (w.alloc o) v P) := fun o => qai.below h (HA.out o)
  obtain ⟨Z0, HZ⟩ : ∃ Z, Hid (Z = byts (List.replicate 32 0)) := ⟨_, rfl⟩
  have hmk : ∀ W : World, (Instr.makeSlice 38 (.int .i64 32) (.int .i64 32)).run Tryz.prog W = .ok (.slice (some ⟨W.heap.size, 0, none⟩) 32 32) (W.alloc (.cells Z0 5)) := fun W => by rw [HZ.out]; exact ybwf W
  have HR := Lib.hid hr
  have HRE := Lib.hid hrE
  have hkb : (k == 0) = false := by simpa using hk
  have hkc : (k != 0) = true := by simpa using hk
  have HK := Lib.hid hk
  clear h hr hrE hk
  go_enter Tryz.func77, Tryz.ntmps77
  go_wp2_with fail
  refine (qou k m u g s l up v P _ (H.out _) (by have := qkb HRE.out; omega)).mono ?_
  rw [HR.out]
  rintro e w1 ⟨rfl, hb1⟩
  have hB1 := Below.step (HA.out _) hb1
  have q1 := qaa hb1 (heap_alloc_new w (.cells #[.int .i64 k, .int .i64 m, .int .i64 u, .int .i64 g, .int .i64 s, .int .i64 l, .int .i64 up, v] 103))
  have H1 : Hid (∀ o : Obj, qao (w1.alloc o) v P) := fun o => qai.below (qai.below (H.out _) hb1) ((Below.refl _ _).alloc (Nat.le_refl _) o)
  have Q1 := Lib.hid q1
  have c0 := (qag q1).1
  have c7 := (qag q1).2.2.2.2.2.2.2
  have hlt1 : w.heap.size < w1.heap.size := qac q1
  clear q1 hb1
  go_wp2_with fail
  refine (qsh _ P _ (H1.out _) HRE.out).mono ?_
  rintro e w2 ⟨b2, rfl, hg2, hh2, hb2⟩
  have q2 := qaa hb2 (qad Q1.out (.cells Z0 5))
  have r2 := qaa hb2 (heap_alloc_new w1 (.cells Z0 5))
  have hB2 : Below w.heap.size w w2 := Below.step (hB1.alloc hB1.size _) hb2
  have HH2 := Lib.hid hh2
  have hg2' : w1.heap.size < b2 := by have : (w1.alloc (.cells Z0 5)).heap.size = w1.heap.size + 1 := by simp
                                      omega
  have hlt2 : w1.heap.size < w2.heap.size := qac r2
  obtain ⟨B, HB⟩ : ∃ B, Hid (B = w1.heap.size) := ⟨_, rfl⟩
  rw [← HB.out] at r2 hlt2 hg2' ⊢
  have R2 := Lib.hid r2
  have HST : Hid (qfs w b2 B w.heap.size (.cells #[.int .i64 k, .int .i64 m, .int .i64 u, .int .i64 g, .int .i64 s, .int .i64 l, .int .i64 up, v] 103 (0, 0)) (.cells (byts (qeg (ofE P))) 5 (0, 0)) (List.replicate 32 0) w2) := ⟨by rw [← HZ.out]; exact r2, q2, HH2.out, hB2⟩
  obtain ⟨d0, d1, d2, d3, d4, d5, d6, d7⟩ := qag q2
  have hne : ¬ w.heap.size = B := by rw [HB.out]; omega
  have hBw : w.heap.size ≤ B := by rw [HB.out]; omega
  have hcx : ∀ j, j < 32 → w2.cell? ⟨B, j, none⟩ = some (.int .u8 0) := fun j hj => by
    rw [cell_of_row _ _ _ _ _ _ R2.out, HZ.out]
    unfold byts
    rw [List.getElem?_toArray, List.getElem?_map, List.getElem?_replicate, if_pos hj]
    rfl
  have x0 := hcx 0 (by omega)
  have x1 := hcx 1 (by omega)
  have x2 := hcx 2 (by omega)
  have x3 := hcx 3 (by omega)
  have x4 := hcx 4 (by omega)
  have fz : ∀ j, w2.frozen? ⟨B, j, none⟩ = false := fun j => frozen_of_row _ _ _ _ _ R2.out
  have f0 := fz 0
  have f1 := fz 1
  have f2 := fz 2
  have f3 := fz 3
  have f4 := fz 4
  clear c0 c7 r2 q2 hh2 hb2 hcx fz hmk hg2 hB2 hB1 R2 HH2 Q1 H1 HA H hlt1
  go_upto_region 10 with fail
  go_cut [5] (fun s5 wx => s5 = .slice (some ⟨B, 0, none⟩) 32 32 ∧ Hid (qfs w b2 B w.heap.size (.cells #[.int .i64 k, .int .i64 m, .int .i64 u, .int .i64 g, .int .i64 s, .int .i64 l, .int .i64 up, v] 103 (0, 0)) (.cells (byts (qeg (ofE P))) 5 (0, 0)) (l5 (List.replicate 32 0) k (m % 256) (m / 256) u g) wx))
  case first =>
    go_region
    all_goals
      go_wp2_with fail
      go_meet
      case rel => exact ⟨rfl, ybzs HST.out hne (by omega) hBw k (m % 256) (m / 256) u g⟩
  case rest =>
    obtain ⟨rfl, HS5⟩ := hcut
    clear d0 d1 d2 d3 d4 d5 d6 d7 x0 x1 x2 x3 x4 f0 f1 f2 f3 f4 HST
    obtain ⟨d0, d1, d2, d3, d4, d5, d6, d7⟩ := qag HS5.out.2.1
    have x5 := HS5.out.zero 5 (by omega) (by omega)
    have x6 := HS5.out.zero 6 (by omega) (by omega)
    have x7 := HS5.out.zero 7 (by omega) (by omega)
    have x8 := HS5.out.zero 8 (by omega) (by omega)
    have f5 := HS5.out.free 5
    have f6 := HS5.out.free 6
    have f7 := HS5.out.free 7
    have f8 := HS5.out.free 8
    go_upto_region 11 with fail
    go_cut [5] (fun s5 wx => s5 = .slice (some ⟨B, 0, none⟩) 32 32 ∧ Hid (qfs w b2 B w.heap.size (.cells #[.int .i64 k, .int .i64 m, .int .i64 u, .int .i64 g, .int .i64 s, .int .i64 l, .int .i64 up, v] 103 (0, 0)) (.cells (byts (qeg (ofE P))) 5 (0, 0)) (l4 (l5 (List.replicate 32 0) k (m % 256) (m / 256) u g) (s % 256) (s / 256) l up) wx))
    case first =>
      go_region
      all_goals
        go_wp2_with fail
        go_meet
        case rel => exact ⟨rfl, ybzr HS5.out hne (by omega) hBw (s % 256) (s / 256) l up⟩
    case rest =>
      obtain ⟨rfl, HS9⟩ := hcut
      clear d0 d1 d2 d3 d4 d5 d6 d7 x5 x6 x7 x8 f5 f6 f7 f8 HS5
      go_wp2_with fail
      have hpl : (qeg (ofE P)).length = 16 := qkq HRE.out
      have hrow := run_copy_row (P := Tryz.prog) wc 38 38 3 5 B 9 23 23 ⟨b2, 0, none⟩ 16 16 _ 5 (u8s (qeg (ofE P))) (by kernel_rfl) (by kernel_rfl) HS9.out.1 (by rw [qal, hpl]; rfl)
        (fun j x hx => by
          have hadd : (⟨b2, 0, none⟩ : Addr).add j = ⟨b2, j, none⟩ := by unfold Addr.add; split <;> simp_all
          rw [hadd, cell_of_row _ _ _ _ _ _ HS9.out.2.2.1]
          unfold byts
          rw [List.getElem?_toArray]
          exact hx) (by rw [qal, hpl]; simp [byts, l4, l5]) (qga _)
      rw [qal, hpl, ybuc hpl HK.out] at hrow
      have HP : Hid (qlx k m u g s l up P w (.returned (.tuple #[.slice (some ⟨B, 0, none⟩) 32 32, .int .i64 0])) (wc.setRow B (byts (qgz k m u g s l up P)))) :=
        ⟨B, rfl, hBw, setRow_heap _ _ _ _ _ _ HS9.out.1, qft HS9.out.2.2.2 hBw _⟩
      rw [hrow]
      clear hrow hpl
      go_wp2
      go_ret2
      exact HP.out
theorem or_nat (a b:Nat) (ha:a<256) (hb:b<256):bits .or .i64 (a:Int) ((b:Int)*256)=(a:Int)+(b:Int)*256:=by
 have e0:((b:Int)*256)=((b*256:Nat):Int):=by omega
 have h1:(BitVec.ofInt 64 (a:Int)).toNat=a:=by
  rw[BitVec.ofInt_natCast,BitVec.toNat_ofNat];exact Nat.mod_eq_of_lt (by omega)
 have h2:(BitVec.ofInt 64 ((b*256:Nat):Int)).toNat=b*256:=by
  rw[BitVec.ofInt_natCast,BitVec.toNat_ofNat];exact Nat.mod_eq_of_lt (by omega)
 rw[e0]
 show IntKind.i64.wrap ((BitVec.ofInt 64 (a:Int) ||| BitVec.ofInt 64 ((b*256:Nat):Int)).toNat:Int)=_
 have h3:a ||| b*256=b*256+a:=by
  have:=Nat.shiftLeft_add_eq_or_of_lt (i:=8) (b:=a) (by omega) b
  rw[Nat.shiftLeft_eq]at this
  rw[Nat.or_comm]
  exact this.symm
 rw[BitVec.toNat_or,h1,h2,h3,IntWalk.i64_in _ (by omega)]
 omega
theorem ybnv (a b:Int) (ha:0<=a) (ha1:a<=255) (hb:0<=b) (hb1:b<=255):bits .or .i64 a (b*256)=a+b*256:=by
 have:=or_nat a.toNat b.toNat (by omega) (by omega)
 rw[Int.toNat_of_nonneg ha,Int.toNat_of_nonneg hb]at this
 exact this
def midB (bs:List Int):List Int:=(bs.drop 9).take 16
def ptsN (bs:List Int):List Int:=(qfr (midB bs)).1
def qmr (bs:List Int):Prop:=bs.length=32/\qol (midB bs)/\qan (bs.getD 0 0) (bs.getD 1 0+bs.getD 2 0*256) (bs.getD 3 0) (bs.getD 4 0) (bs.getD 5 0+bs.getD 6 0*256) (bs.getD 7 0) (bs.getD 8 0) (ptsN bs)=0 /\
 qgz (bs.getD 0 0) (bs.getD 1 0+bs.getD 2 0*256) (bs.getD 3 0) (bs.getD 4 0) (bs.getD 5 0+bs.getD 6 0*256) (bs.getD 7 0) (bs.getD 8 0) (ptsN bs)=bs
def ybaw (B:Nat) (w:World) (v:Value) (P:List Int):Prop:=qao w v P/\∀ b,v.ownBlock=some b->B<=b
def ybkj (bs:List Int) (w:World) (e:Ending) (w':World):Prop:=
 (qmr bs/\∃ v,e=.returned (.tuple #[.agg #[.int .i64 (bs.getD 0 0),.int .i64 (bs.getD 1 0+bs.getD 2 0*256),.int .i64 (bs.getD 3 0),.int .i64 (bs.getD 4 0),.int .i64 (bs.getD 5 0+bs.getD 6 0*256),.int .i64 (bs.getD 7 0),.int .i64 (bs.getD 8 0),v],.int .i64 0])/\ybaw w.heap.size w' v (ptsN bs)/\Below w.heap.size w w') \/
 (¬ qmr bs/\e=.returned (.tuple #[.agg #[.int .i64 0,.int .i64 0,.int .i64 0,.int .i64 0,.int .i64 0,.int .i64 0,.int .i64 0,.slice none 0 0],.int .i64 3])/\Below w.heap.size w w')
theorem qxe (v:Value) (bs:List Int) (w:World) (h:qaf w v bs) (hn:bs.length ≠ 32) (hl:bs.length<=1000000):
  Calls Tryz.prog 111 #[v] w (ybkj bs w):=by
 have _:=hl
 obtain⟨N,HN⟩:∃ N,Hid (N=bs.length):=⟨_,rfl⟩
 obtain⟨q,cp,hu⟩:∃ p cp,v=.slice p N cp:=by
  rw[HN.out]
  obtain⟨_,⟨h0,a0,c0,rfl⟩ | ⟨g,o,cap,rfl,hc⟩⟩:=h
  ·exact⟨a0,c0,by rw[h0]⟩
  ·exact⟨_,cap,rfl⟩
 subst hu
 rw[<-HN.out]at hn hl
 have hn1:((N:Int) == 32)=false:=by rw[beq_eq_false_iff_ne];omega
 have hn2:((N:Int) != 32)=true:=by simpa using (by omega:¬ (N:Int)=32)
 have HNN:=Lib.hid hn
 clear h hn
 go_enter Tryz.func111,Tryz.ntmps111
 go_wp2
 refine bodyPost_ret (v:=.tuple #[.agg #[.int .i64 0,.int .i64 0,.int .i64 0,.int .i64 0,.int .i64 0,.int .i64 0,.int .i64 0,.slice none 0 0],.int .i64 3]) (by simp[results,Tryz.results111,go_sem]) rfl (Or.inr ⟨fun hg=>HNN.out (by rw[HN.out];exact hg.1),rfl,?_⟩)
 exact (Below.refl _ _).alloc (Nat.le_refl _) _
def eqB (a b:List Int):Bool:=decide (a=b)
theorem qdy (u v:Value) (a b:List Int) (w:World) (h1:qaf w u a) (h2:qaf w v b) (hab:a.length=b.length) (hl:a.length<=1000000):
  Calls Tryz.prog 34 #[u,v] w fun e w'=>e=.returned (.bool (eqB a b))/\Below w.heap.size w w':=by
 obtain⟨N,HN⟩:∃ N,Hid (N=a.length):=⟨_,rfl⟩
 have HNb:Hid (N=b.length):=by rw[HN.out];exact hab
 obtain⟨p,cp,hu,HP⟩:∃ p cp,u=.slice p N cp/\Hid (0<N->∃ g o,p=some ⟨g,o,none⟩/\∀ (j:Nat) (x:Value),(u8s a)[j]? = some x->w.cell? ⟨g,o+j,none⟩=some x):=by
  rw[HN.out]
  obtain⟨_,⟨h0,a0,c0,rfl⟩ | ⟨g,o,cap,rfl,hc⟩⟩:=h1
  ·exact⟨a0,c0,by rw[h0],fun h=>by omega⟩
  ·exact⟨_,cap,rfl,fun _=>⟨g,o,rfl,hc⟩⟩
 obtain⟨q,cq,hv,HQ⟩:∃ p cp,v=.slice p N cp/\Hid (0<N->∃ g o,p=some ⟨g,o,none⟩/\∀ (j:Nat) (x:Value),(u8s b)[j]? = some x->w.cell? ⟨g,o+j,none⟩=some x):=by
  rw[HNb.out]
  obtain⟨_,⟨h0,a0,c0,rfl⟩ | ⟨g,o,cap,rfl,hc⟩⟩:=h2
  ·exact⟨a0,c0,by rw[h0],fun h=>by omega⟩
  ·exact⟨_,cap,rfl,fun _=>⟨g,o,rfl,hc⟩⟩
 subst hu hv
 rw[<-HN.out]at hl
 clear h1 h2 hab
 go_enter Tryz.func34,Tryz.ntmps34
 go_wp2
 go_loopw [13] (fun i wr=>∃ k:Nat,k<=N/\i=.int .i64 k/\Hid (a.take k=b.take k)/\Below w.heap.size w wr) (fun i _=>N - (intOf i).toNat)
 case atStart=>exact⟨0,Nat.zero_le _,rfl,rfl,Below.refl _ _⟩
 case round=>
  obtain⟨k,hk,rfl,HE,HB⟩:=hrel
  by_cases hlt:k<N
  ·obtain⟨g,o,rfl,hc⟩:=HP.out (by omega)
   obtain⟨g',o',rfl,hc'⟩:=HQ.out (by omega)
   have hkl:k<a.length:=by rw[<-HN.out];exact hlt
   have hkb:k<b.length:=by rw[<-HNb.out];exact hlt
   have hp:=qcj a k hkl
   have hq:=qcj b k hkb
   obtain⟨x,hx⟩:∃ x,Hid (x=a[k]):=⟨a[k],rfl⟩
   obtain⟨y,hy⟩:∃ y,Hid (y=b[k]):=⟨b[k],rfl⟩
   rw[<-hx.out]at hp
   rw[<-hy.out]at hq
   have keep:∀ {x:Addr} {y:Value},w.cell? x=some y->wr.cell? x=some y:=fun h=>(HB.cell (block_lt_of_cell h)).trans h
   have c1:=keep (hc _ _ hp)
   have d1:=keep (hc' _ _ hq)
   have HC:=Lib.hid hc
   have HC':=Lib.hid hc'
   clear hc hc' hp hq keep
   have hlt2:(k:Int)<(N:Int):=by omega
   by_cases hxy:x=y
   ·have HE2:Hid (a.take (k+1)=b.take (k+1)):=by
     show _=_
     rw[<-List.take_append_getElem hkl,<-List.take_append_getElem hkb,HE.out,<-hx.out,<-hy.out,hxy]
    subst hxy
    go_wp2
    go_quiet (fail)
    go_wp2
    go_roundw
    case rel=>exact⟨k+1,by omega,by go_num,HE2,qba HB _⟩
    case measure=>simp[intOf];omega
   ·have HF:Hid (eqB a b=false):=by
     show _=_
     unfold eqB
     rw[decide_eq_false_iff_not]
     intro e
     apply hxy
     rw[hx.out,hy.out]
     subst e
     rfl
    have b1:(x == y)=false:=by simpa using hxy
    have b2:(x != y)=true:=by simpa using hxy
    have HXY:=Lib.hid hxy
    clear hxy
    go_wp2
    go_quiet (fail)
    go_wp2
    go_ret
    rw[HF.out]
    exact⟨rfl,qba HB _⟩
  ·have HF:Hid (eqB a b=true):=by
    show _=_
    unfold eqB
    rw[decide_eq_true_iff]
    have:=HE.out
    rw[List.take_of_length_le (by rw[<-HN.out];omega),List.take_of_length_le (by rw[<-HNb.out];omega)]at this
    exact this
   go_wp2
   go_ret
   rw[HF.out]
   exact⟨rfl,HB⟩
-- LONG
def ybwq (bs:List Int) (y0 ym y3 y4 ys y7 y8:Int) (w:World) (e:Ending) (w':World):Prop:=
 (qmr bs/\∃ v,e=.returned (.tuple #[.agg #[.int .i64 y0,.int .i64 ym,.int .i64 y3,.int .i64 y4,.int .i64 ys,.int .i64 y7,.int .i64 y8,v],.int .i64 0])/\ybaw w.heap.size w' v (ptsN bs)/\Below w.heap.size w w')\/(¬ qmr bs/\e=.returned (.tuple #[.agg #[.int .i64 0,.int .i64 0,.int .i64 0,.int .i64 0,.int .i64 0,.int .i64 0,.int .i64 0,.slice none 0 0],.int .i64 3])/\Below w.heap.size w w')
theorem ybil : (Tryz.prog.info? 103).map (·.size)=some 8:=by kernel_rfl
theorem qjv (a b c d e f g:Int) (v:Value) (hv:v.oneCell'=true):(#[Value.int .i64 a,.int .i64 b,.int .i64 c,.int .i64 d,.int .i64 e,.int .i64 f,.int .i64 g,v]:Array Value).all (·.oneCell')=true:=by
 rw[Array.all_eq_true_iff_forall_mem]
 intro x hx
 simp only[List.mem_toArray,List.mem_cons,List.not_mem_nil,or_false]at hx
 rcases hx with rfl | rfl | rfl | rfl | rfl | rfl | rfl | rfl <;> first | rfl | exact hv
theorem qyq {w:World} {v:Value} {P:List Int} (h:qao w v P) {g i:Nat} (hg:∀ n,w.cell? ⟨g,i,none⟩ ≠ some (.int .i64 n)) (x:Value):qao (w.setCell ⟨g,i,none⟩ x) v P:=by
 obtain⟨h1,h2⟩:=h
 refine⟨h1,h2.imp id ?_⟩
 rintro ⟨g',off,cap,hv,hc⟩
 refine⟨g',off,cap,hv,fun j y hy=>?_⟩
 have hj:=hc j y hy
 have hyi:∃ n,y=.int .i64 n:=by
  have:=(List.getElem?_eq_some_iff.1 hy).1
  simp only[ints,List.length_map]at this
  rw[qdn P j this]at hy
  exact⟨_,by injection hy with hy;exact hy.symm⟩
 obtain⟨n,rfl⟩:=hyi
 rw[World.cell?_setCell_other _ _ _ _ (by intro e;injection e with e1 e2;subst e1 e2;exact hg n hj)]
 exact hj
theorem ybck {w:World} {v:Value} {P:List Int} (h:qao w v P) {g:Nat} (hg:∀ b,v.ownBlock=some b->b ≠ g) (cs:Array Value):qao (w.setRow g cs) v P:=by
 obtain⟨h1,h2⟩:=h
 refine⟨h1,h2.imp id ?_⟩
 rintro ⟨g',off,cap,rfl,hc⟩
 exact⟨g',off,cap,rfl,fun j y hy=>(World.cell?_of_block (setRow_other w g g' cs (hg g' rfl))).trans (hc j y hy)⟩
theorem qkp (k m u g s l up:Int) (v:Value) (P:List Int) (w:World) (h:qao w v P) (hr:qan k m u g s l up P=0):
  Calls Tryz.prog 77 #[.agg #[.int .i64 k,.int .i64 m,.int .i64 u,.int .i64 g,.int .i64 s,.int .i64 l,.int .i64 up,v]] w (qlx k m u g s l up P w):=by
 by_cases hk:k=0
 ·subst hk
  unfold qan at hr
  rw[if_pos rfl]at hr
  by_cases hz:m=0/\u=0/\g=0/\s=0/\l=0/\up=0/\P.length=0
  ·obtain⟨rfl,rfl,rfl,rfl,rfl,rfl,hP⟩:=hz
   obtain rfl:P=[]:=List.length_eq_zero_iff.1 hP
   exact ybiu v w h
  ·rw[if_neg hz]at hr;cases hr
 ·exact ybiv k m u g s l up v P w h hr hk
theorem qew {k m u g s l up:Int} {P:List Int} (hr:qan k m u g s l up P=0):(qgz k m u g s l up P).length=32:=by
 unfold qgz
 by_cases hk:k=0
 ·rw[if_pos hk,List.length_replicate]
 ·rw[if_neg hk,List.length_append,List.length_append,qkq (qzt hr hk).2.2.2.2.2.2.2.1,List.length_replicate];rfl
theorem ybgk {w:World} {g n cap:Nat} {D:List Int} {t:TypeId} (hn:D.length=n) (h:w.heap[g]? = some (.cells (byts D) t (0,0))):qaf w (.slice (some ⟨g,0,none⟩) n cap) D:=by
 refine⟨by rw[qal,Nat.mul_one],Or.inr ⟨g,0,cap,by rw[hn],fun j x hx=>?_⟩⟩
 rw[Nat.zero_add,cell_of_row _ _ _ _ _ _ h]
 simpa[byts,u8s]using hx
theorem ybam (bs:List Int) (gb ob cap:Nat) (y0 y1 y2 y3 y4 y5 y6 y7 y8 ym ys:Int) (w:World) (hcap:32<=cap) (hbs:qaf w (.slice (some ⟨gb,ob,none⟩) 32 cap) bs) (hmid:∀ c,qaf w (.slice (some ⟨gb,ob+9,none⟩) 16 c) (midB bs)) (hn:bs.length=32) (hx:∀ x,x ∈ bs->0<=x/\x<=255)
  (Hm:Hid (ym=y1+y2*256)) (Hs:Hid (ys=y5+y6*256)) (hG:Hid (qmr bs ↔ qol (midB bs)/\qan y0 ym y3 y4 ys y7 y8 (ptsN bs)=0/\qgz y0 ym y3 y4 ys y7 y8 (ptsN bs)=bs))
  (c0:w.cell? ⟨gb,ob,none⟩=some (.int .u8 y0)) (c1:w.cell? ⟨gb,ob+1,none⟩=some (.int .u8 y1)) (c2:w.cell? ⟨gb,ob+2,none⟩=some (.int .u8 y2)) (c3:w.cell? ⟨gb,ob+3,none⟩=some (.int .u8 y3)) (c4:w.cell? ⟨gb,ob+4,none⟩=some (.int .u8 y4)) (c5:w.cell? ⟨gb,ob+5,none⟩=some (.int .u8 y5)) (c6:w.cell? ⟨gb,ob+6,none⟩=some (.int .u8 y6)) (c7:w.cell? ⟨gb,ob+7,none⟩=some (.int .u8 y7)) (c8:w.cell? ⟨gb,ob+8,none⟩=some (.int .u8 y8))
  (b0:0<=y0) (d0:y0<=255) (b1:0<=y1) (d1:y1<=255) (b2:0<=y2) (d2:y2<=255) (b3:0<=y3) (d3:y3<=255) (b4:0<=y4) (d4:y4<=255) (b5:0<=y5) (d5:y5<=255) (b6:0<=y6) (d6:y6<=255) (b7:0<=y7) (d7:y7<=255) (b8:0<=y8) (d8:y8<=255):
  Calls Tryz.prog 111 #[.slice (some ⟨gb,ob,none⟩) 32 cap] w (ybwq bs y0 ym y3 y4 ys y7 y8 w):=by
 have hgl:gb<w.heap.size:=block_lt_of_cell c0
 have hne:¬ gb=w.heap.size:=by omega
 have HBS:=Lib.hid hbs
 have HMID:=Lib.hid hmid
 have HN:=Lib.hid hn
 have HX:=Lib.hid hx
 clear hbs hmid hn hx
 go_enter Tryz.func111,Tryz.ntmps111
 go_upto_region 3 with fail
 go_cut [4] (fun s4 wx=>∃ g4,s4=.pointer (some ⟨g4,0,none⟩)/\w.heap.size<g4/\Hid (wx.heap[g4]? = some (.cells #[.int .i64 y0,.int .i64 ym,.int .i64 y3,.int .i64 y4,.int .i64 ys,.int .i64 y7,.int .i64 y8,(.slice none 0 0)] 103 (0,0)))/\Hid (wx.heap[w.heap.size]? = some (.cells #[.int .i64 0,.int .i64 0,.int .i64 0,.int .i64 0,.int .i64 0,.int .i64 0,.int .i64 0,.slice none 0 0] 103 (0,0)))/\Below w.heap.size w wx)
 case first=>
  have hw0:IntKind.i64.wrap y0=y0:=IntWalk.i64_in _ (by omega);have hw1:IntKind.i64.wrap y1=y1:=IntWalk.i64_in _ (by omega);have hw2:IntKind.i64.wrap y2=y2:=IntWalk.i64_in _ (by omega);have hw3:IntKind.i64.wrap y3=y3:=IntWalk.i64_in _ (by omega);have hw4:IntKind.i64.wrap y4=y4:=IntWalk.i64_in _ (by omega);have hw5:IntKind.i64.wrap y5=y5:=IntWalk.i64_in _ (by omega);have hw6:IntKind.i64.wrap y6=y6:=IntWalk.i64_in _ (by omega);have hw7:IntKind.i64.wrap y7=y7:=IntWalk.i64_in _ (by omega);have hw8:IntKind.i64.wrap y8=y8:=IntWalk.i64_in _ (by omega)
  have hw10:IntKind.i64.wrap (y2*256)=y2*256:=IntWalk.i64_in _ (by omega)
  have hw11:IntKind.i64.wrap (y6*256)=y6*256:=IntWalk.i64_in _ (by omega)
  have ho1:bits .or .i64 y1 (y2*256)=ym:=by rw[ybnv _ _ b1 d1 b2 d2,Hm.out]
  have ho2:bits .or .i64 y5 (y6*256)=ys:=by rw[ybnv _ _ b5 d5 b6 d6,Hs.out]
  go_region_held3 (fun w'=>w'.cell? ⟨gb,ob,none⟩=some (.int .u8 y0)/\w'.cell? ⟨gb,ob+1,none⟩=some (.int .u8 y1)/\w'.cell? ⟨gb,ob+2,none⟩=some (.int .u8 y2)/\w'.cell? ⟨gb,ob+3,none⟩=some (.int .u8 y3)/\w'.cell? ⟨gb,ob+4,none⟩=some (.int .u8 y4)/\w'.cell? ⟨gb,ob+5,none⟩=some (.int .u8 y5)/\w'.cell? ⟨gb,ob+6,none⟩=some (.int .u8 y6)/\w'.cell? ⟨gb,ob+7,none⟩=some (.int .u8 y7)/\w'.cell? ⟨gb,ob+8,none⟩=some (.int .u8 y8)) (go_keep) (fail)
  all_goals
   clear hw0 hw1 hw2 hw3 hw4 hw5 hw6 hw7 hw8 hw10 hw11 ho1 ho2
   go_wp2_with fail
   go_meet
   case rel=>
    have e:(w.alloc (.cells #[.int .i64 0,.int .i64 0,.int .i64 0,.int .i64 0,.int .i64 0,.int .i64 0,.int .i64 0,.slice none 0 0] 103)).heap.size=w.heap.size+1:=by simp
    refine⟨w.heap.size+1,rfl,by omega,?_,qad (heap_alloc_new w _) _,(((Below.refl _ _).alloc (Nat.le_refl _) _).alloc (by simp) _).drew⟩
    have:=heap_alloc_new (w.alloc (.cells #[.int .i64 0,.int .i64 0,.int .i64 0,.int .i64 0,.int .i64 0,.int .i64 0,.int .i64 0,.slice none 0 0] 103)) (.cells #[.int .i64 y0,.int .i64 ym,.int .i64 y3,.int .i64 y4,.int .i64 ys,.int .i64 y7,.int .i64 y8,(.slice none 0 0)] 103)
    rw[e]at this
    exact this
 case rest=>
  obtain⟨g4,rfl,hg4,H4,HR,hB⟩:=hcut
  clear c0 c1 c2 c3 c4 c5 c6 c7 c8
  have HM2:Hid (∀ c,qaf wc (.slice (some ⟨gb,ob+9,none⟩) 16 c) (midB bs)):=fun c=>qai.below (HMID.out c) hB
  have HB2:Hid (qaf wc (.slice (some ⟨gb,ob,none⟩) 32 cap) bs):=qai.below HBS.out hB
  have hcap2:(25:Int)<=(cap:Int):=by omega
  have hcap3:¬ cap=9:=by omega
  have hcap4:25<=cap:=by omega
  go_wp2_with fail
  refine (ybju _ (midB bs) _ (HM2.out _) (by unfold midB;rw[List.length_take];omega) (fun x hx=>HX.out x (List.mem_of_mem_drop (List.mem_of_mem_take hx)))).mono ?_
  rintro e w5 (⟨hg,r,rfl,hI,hb5,hnw⟩ | ⟨hg,rfl,hb5⟩)
  ·have HGB:=Lib.hid hg
   have HI5:Hid (qao w5 r (ptsN bs)):=hI
   have H5:Hid (w5.heap[g4]? = some (.cells #[.int .i64 y0,.int .i64 ym,.int .i64 y3,.int .i64 y4,.int .i64 ys,.int .i64 y7,.int .i64 y8,(.slice none 0 0)] 103 (0,0))):=qaa hb5 H4.out
   have HR5:Hid (w5.heap[w.heap.size]? = some (.cells #[.int .i64 0,.int .i64 0,.int .i64 0,.int .i64 0,.int .i64 0,.int .i64 0,.int .i64 0,.slice none 0 0] 103 (0,0))):=qaa hb5 HR.out
   have HB5:Hid (qaf w5 (.slice (some ⟨gb,ob,none⟩) 32 cap) bs):=qai.below HB2.out hb5
   have hB5:=Below.step hB hb5
   obtain⟨rp,rc,hre,hr1⟩:∃ p c,r=.slice p (ptsN bs).length c/\True:=by
    obtain⟨_,⟨h0,a0,c0,rfl⟩ | ⟨g,o,cap,rfl,hc⟩⟩:=hI
    ·exact⟨a0,c0,by rw[show (ptsN bs).length=0 from h0],trivial⟩
    ·exact⟨_,cap,rfl,trivial⟩
   obtain⟨np,Hnp⟩:∃ n,Hid (n=(ptsN bs).length):=⟨_,rfl⟩
   rw[<-Hnp.out]at hre
   subst hre
   have HNW:Hid (∀ b,(Value.slice rp np rc).ownBlock=some b->w.heap.size<b):=fun b hb=>by have:=hnw b hb;have:=qac H4.out;omega
   clear hg hI hb5 hr1 hnw
   have x7:=(qag H5.out).2.2.2.2.2.2.2
   have fz:w5.frozen? ⟨g4,7,none⟩=false:=frozen_of_row _ _ _ _ _ H5.out
   have hg4l:g4<w5.heap.size:=qac H5.out
   have H6:Hid ((w5.setCell ⟨g4,7,none⟩ (.slice rp np rc)).heap[g4]? = some (.cells #[.int .i64 y0,.int .i64 ym,.int .i64 y3,.int .i64 y4,.int .i64 ys,.int .i64 y7,.int .i64 y8,(.slice rp np rc)] 103 (0,0))):=heap_setCell_same _ _ 7 _ _ (.slice rp np rc) H5.out
   have HR6:Hid ((w5.setCell ⟨g4,7,none⟩ (.slice rp np rc)).heap[w.heap.size]? = some (.cells #[.int .i64 0,.int .i64 0,.int .i64 0,.int .i64 0,.int .i64 0,.int .i64 0,.int .i64 0,.slice none 0 0] 103 (0,0))):=(Below.heap_setCell _ _ _ _ (by show w.heap.size ≠ g4;omega)).trans HR5.out
   have HI6:Hid (qao (w5.setCell ⟨g4,7,none⟩ (.slice rp np rc)) (.slice rp np rc) (ptsN bs)):=qyq HI5.out (fun n h=>by rw[x7]at h;injection h with h;cases h) _
   have hB6:Below w.heap.size w (w5.setCell ⟨g4,7,none⟩ (.slice rp np rc)):=hB5.setCell (by show w.heap.size<=g4;omega) _
   have HB6:Hid (qaf (w5.setCell ⟨g4,7,none⟩ (.slice rp np rc)) (.slice (some ⟨gb,ob,none⟩) 32 cap) bs):=qai.below HBS.out hB6
   go_upto_region 8 with fail
   generalize w5.setCell ⟨g4,7,none⟩ (.slice rp np rc)=w6 at *
   obtain⟨q0,q1,q2,q3,q4,q5,q6,q7⟩:=qag H6.out
   clear x7 fz H5 HR5 HB5 HI5 hB5
   obtain⟨c,Hc⟩:∃ c,Hid (qan y0 ym y3 y4 ys y7 y8 (ptsN bs)=c):=⟨_,rfl⟩
   have hnl:(ptsN bs).length<=8:=by have:=qlo HGB.out.2.1;exact qkb this
   by_cases hc0:c=0
   ·subst hc0
    go_wp2_with fail
    refine (qkp y0 ym y3 y4 ys y7 y8 _ (ptsN bs) _ HI6.out Hc.out).mono ?_
    rintro e w7 ⟨gp,rfl,hgp,hhp,hb7⟩
    have H7:Hid (w7.heap[g4]? = some (.cells #[.int .i64 y0,.int .i64 ym,.int .i64 y3,.int .i64 y4,.int .i64 ys,.int .i64 y7,.int .i64 y8,(.slice rp np rc)] 103 (0,0))):=qaa hb7 H6.out
    have HR7:Hid (w7.heap[w.heap.size]? = some (.cells #[.int .i64 0,.int .i64 0,.int .i64 0,.int .i64 0,.int .i64 0,.int .i64 0,.int .i64 0,.slice none 0 0] 103 (0,0))):=qaa hb7 HR6.out
    have HI7:Hid (qao w7 (.slice rp np rc) (ptsN bs)):=qai.below HI6.out hb7
    have HB7:Hid (qaf w7 (.slice (some ⟨gb,ob,none⟩) 32 cap) bs):=qai.below HB6.out hb7
    have hB7:=Below.step hB6 hb7
    have hpl:=qew Hc.out
    have HPB:Hid (qaf w7 (.slice (some ⟨gp,0,none⟩) 32 32) (qgz y0 ym y3 y4 ys y7 y8 (ptsN bs))):=ybgk hpl hhp
    have HPL:=Lib.hid hpl
    clear q0 q1 q2 q3 q4 q5 q6 q7 hhp hb7 hpl H6 HR6 HI6 HB6 hB6
    go_wp2_with fail
    refine (qdy _ _ _ bs _ HPB.out HB7.out (by rw[HPL.out,HN.out]) (by rw[HPL.out];omega)).mono ?_
    obtain⟨q,Hq⟩:∃ q,Hid (eqB (qgz y0 ym y3 y4 ys y7 y8 (ptsN bs)) bs=q):=⟨_,rfl⟩
    rw[Hq.out]
    rintro e w8 ⟨rfl,hb8⟩
    have H8:Hid (w8.heap[g4]? = some (.cells #[.int .i64 y0,.int .i64 ym,.int .i64 y3,.int .i64 y4,.int .i64 ys,.int .i64 y7,.int .i64 y8,(.slice rp np rc)] 103 (0,0))):=qaa hb8 H7.out
    have HR8:Hid (w8.heap[w.heap.size]? = some (.cells #[.int .i64 0,.int .i64 0,.int .i64 0,.int .i64 0,.int .i64 0,.int .i64 0,.int .i64 0,.slice none 0 0] 103 (0,0))):=qaa hb8 HR7.out
    have HI8:Hid (qao w8 (.slice rp np rc) (ptsN bs)):=qai.below HI7.out hb8
    have hB8:=Below.step hB7 hb8
    clear hb8 H7 HR7 HI7 HB7 hB7
    cases q with
    | true=>
     have HGOOD:Hid (qmr bs):=hG.out.2 ⟨HGB.out,Hc.out,of_decide_eq_true Hq.out⟩
     obtain⟨q0,q1,q2,q3,q4,q5,q6,q7⟩:=qag H8.out
     have HZ:Hid ((w8.setRow w.heap.size #[.int .i64 y0,.int .i64 ym,.int .i64 y3,.int .i64 y4,.int .i64 ys,.int .i64 y7,.int .i64 y8,(.slice rp np rc)]).heap[w.heap.size]? = some (.cells #[.int .i64 y0,.int .i64 ym,.int .i64 y3,.int .i64 y4,.int .i64 ys,.int .i64 y7,.int .i64 y8,(.slice rp np rc)] 103 (0,0))):=setRow_heap _ _ _ _ _ _ HR8.out
     have HBZ:Hid (Below w.heap.size w (w8.setRow w.heap.size #[.int .i64 y0,.int .i64 ym,.int .i64 y3,.int .i64 y4,.int .i64 ys,.int .i64 y7,.int .i64 y8,(.slice rp np rc)])):=qft hB8 (Nat.le_refl _) _
     have HIZ:Hid (qao (w8.setRow w.heap.size #[.int .i64 y0,.int .i64 ym,.int .i64 y3,.int .i64 y4,.int .i64 ys,.int .i64 y7,.int .i64 y8,(.slice rp np rc)]) (.slice rp np rc) (ptsN bs)):=ybck HI8.out (fun b hb=>by have:=HNW.out b hb;omega) _
     go_wp2_with (refine wpList_store_row rfl 103 (.tmp 2) (.tmp 78) rfl w.heap.size #[.int .i64 y0,.int .i64 ym,.int .i64 y3,.int .i64 y4,.int .i64 ys,.int .i64 y7,.int .i64 y8,(.slice rp np rc)] rfl rfl 103 _ HR8.out ybil rfl (qjv _ _ _ _ _ _ _ _ rfl) ?_)
     obtain⟨z0,z1,z2,z3,z4,z5,z6,z7⟩:=qag HZ.out
     refine bodyPost_ret (v:=.tuple #[.agg #[.int .i64 y0,.int .i64 ym,.int .i64 y3,.int .i64 y4,.int .i64 ys,.int .i64 y7,.int .i64 y8,(.slice rp np rc)],.int .i64 0]) (by simp[results,Tryz.results111,go_sem,z0,z1,z2,z3,z4,z5,z6,z7]) rfl (Or.inl ⟨HGOOD.out,_,rfl,⟨HIZ.out,fun b hb=>Nat.le_of_lt (HNW.out b hb)⟩,HBZ.out⟩)
    | false=>
     have HNG:Hid (¬ qmr bs):=fun hgd=>by
      have:=(hG.out.1 hgd).2.2
      exact absurd (decide_eq_true this) (by have:=Hq.out;unfold eqB at this;rw[this];simp)
     have HZ:Hid ((w8.setRow w.heap.size #[.int .i64 0,.int .i64 0,.int .i64 0,.int .i64 0,.int .i64 0,.int .i64 0,.int .i64 0,.slice none 0 0]).heap[w.heap.size]? = some (.cells #[.int .i64 0,.int .i64 0,.int .i64 0,.int .i64 0,.int .i64 0,.int .i64 0,.int .i64 0,.slice none 0 0] 103 (0,0))):=setRow_heap _ _ _ _ _ _ HR8.out
     have HBZ:Hid (Below w.heap.size w (w8.setRow w.heap.size #[.int .i64 0,.int .i64 0,.int .i64 0,.int .i64 0,.int .i64 0,.int .i64 0,.int .i64 0,.slice none 0 0])):=qft hB8 (Nat.le_refl _) _
     go_wp2_with (refine wpList_store_row rfl 103 (.tmp 2) (.tmp 77) rfl w.heap.size #[.int .i64 0,.int .i64 0,.int .i64 0,.int .i64 0,.int .i64 0,.int .i64 0,.int .i64 0,.slice none 0 0] rfl rfl 103 _ HR8.out ybil rfl (qjv _ _ _ _ _ _ _ _ rfl) ?_)
     obtain⟨z0,z1,z2,z3,z4,z5,z6,z7⟩:=qag HZ.out
     refine bodyPost_ret (v:=.tuple #[.agg #[.int .i64 0,.int .i64 0,.int .i64 0,.int .i64 0,.int .i64 0,.int .i64 0,.int .i64 0,.slice none 0 0],.int .i64 3]) (by simp[results,Tryz.results111,go_sem,z0,z1,z2,z3,z4,z5,z6,z7]) rfl (Or.inr ⟨HNG.out,rfl,HBZ.out⟩)
   ·have HNG:Hid (¬ qmr bs):=fun hgd=>hc0 (by rw[<-Hc.out];exact (hG.out.1 hgd).2.1)
    have n1:(c == 0)=false:=by simpa using hc0
    have n2:(c != 0)=true:=by simpa using hc0
    have HC0:=Lib.hid hc0
    clear hc0
    go_wp2_with fail
    refine (ybog y0 ym y3 y4 ys y7 y8 _ (ptsN bs) _ HI6.out (by omega) c Hc n2).mono ?_
    rintro e w7 ⟨rfl,hb7⟩
    have HR7:Hid (w7.heap[w.heap.size]? = some (.cells #[.int .i64 0,.int .i64 0,.int .i64 0,.int .i64 0,.int .i64 0,.int .i64 0,.int .i64 0,.slice none 0 0] 103 (0,0))):=qaa hb7 HR6.out
    have hB7:=Below.step hB6 hb7
    clear q0 q1 q2 q3 q4 q5 q6 q7 hb7 H6 HR6 HI6 HB6 hB6
    have HZ:Hid ((w7.setRow w.heap.size #[.int .i64 0,.int .i64 0,.int .i64 0,.int .i64 0,.int .i64 0,.int .i64 0,.int .i64 0,.slice none 0 0]).heap[w.heap.size]? = some (.cells #[.int .i64 0,.int .i64 0,.int .i64 0,.int .i64 0,.int .i64 0,.int .i64 0,.int .i64 0,.slice none 0 0] 103 (0,0))):=setRow_heap _ _ _ _ _ _ HR7.out
    have HBZ:Hid (Below w.heap.size w (w7.setRow w.heap.size #[.int .i64 0,.int .i64 0,.int .i64 0,.int .i64 0,.int .i64 0,.int .i64 0,.int .i64 0,.slice none 0 0])):=qft hB7 (Nat.le_refl _) _
    go_wp2_with (refine wpList_store_row rfl 103 (.tmp 2) (.tmp 77) rfl w.heap.size #[.int .i64 0,.int .i64 0,.int .i64 0,.int .i64 0,.int .i64 0,.int .i64 0,.int .i64 0,.slice none 0 0] rfl rfl 103 _ HR7.out ybil rfl (qjv _ _ _ _ _ _ _ _ rfl) ?_)
    obtain⟨z0,z1,z2,z3,z4,z5,z6,z7⟩:=qag HZ.out
    refine bodyPost_ret (v:=.tuple #[.agg #[.int .i64 0,.int .i64 0,.int .i64 0,.int .i64 0,.int .i64 0,.int .i64 0,.int .i64 0,.slice none 0 0],.int .i64 3]) (by simp[results,Tryz.results111,go_sem,z0,z1,z2,z3,z4,z5,z6,z7]) rfl (Or.inr ⟨HNG.out,rfl,HBZ.out⟩)
  ·have HNG:Hid (¬ qmr bs):=fun hgd=>hg hgd.2.1
   have HR5:Hid (w5.heap[w.heap.size]? = some (.cells #[.int .i64 0,.int .i64 0,.int .i64 0,.int .i64 0,.int .i64 0,.int .i64 0,.int .i64 0,.slice none 0 0] 103 (0,0))):=qaa hb5 HR.out
   have hB5:=Below.step hB hb5
   clear hg hb5
   have HZ:Hid ((w5.setRow w.heap.size #[.int .i64 0,.int .i64 0,.int .i64 0,.int .i64 0,.int .i64 0,.int .i64 0,.int .i64 0,.slice none 0 0]).heap[w.heap.size]? = some (.cells #[.int .i64 0,.int .i64 0,.int .i64 0,.int .i64 0,.int .i64 0,.int .i64 0,.int .i64 0,.slice none 0 0] 103 (0,0))):=setRow_heap _ _ _ _ _ _ HR5.out
   have HBZ:Hid (Below w.heap.size w (w5.setRow w.heap.size #[.int .i64 0,.int .i64 0,.int .i64 0,.int .i64 0,.int .i64 0,.int .i64 0,.int .i64 0,.slice none 0 0])):=qft hB5 (Nat.le_refl _) _
   go_wp2_with (refine wpList_store_row rfl 103 (.tmp 2) (.tmp 61) rfl w.heap.size #[.int .i64 0,.int .i64 0,.int .i64 0,.int .i64 0,.int .i64 0,.int .i64 0,.int .i64 0,.slice none 0 0] rfl rfl 103 _ HR5.out ybil rfl (qjv _ _ _ _ _ _ _ _ rfl) ?_)
   obtain⟨z0,z1,z2,z3,z4,z5,z6,z7⟩:=qag HZ.out
   refine bodyPost_ret (v:=.tuple #[.agg #[.int .i64 0,.int .i64 0,.int .i64 0,.int .i64 0,.int .i64 0,.int .i64 0,.int .i64 0,.slice none 0 0],.int .i64 3]) (by simp[results,Tryz.results111,go_sem,z0,z1,z2,z3,z4,z5,z6,z7]) rfl (Or.inr ⟨HNG.out,rfl,HBZ.out⟩)
theorem ybdu (v:Value) (bs:List Int) (w:World) (h:qaf w v bs) (hl:bs.length<=1000000) (hx:∀ x,x ∈ bs->0<=x/\x<=255) (hcap:∃ p c,v=.slice p bs.length c/\bs.length<=c):
  Calls Tryz.prog 111 #[v] w (ybkj bs w):=by
 by_cases hn:bs.length=32
 ·have hb:=h
  obtain⟨_,⟨h0,_⟩ | ⟨gb,ob,cap,rfl,hc⟩⟩:=h
  ·omega
  obtain⟨p,c,hv,hcp⟩:=hcap
  injection hv with _ _ hv3
  subst hv3
  rw[hn]at hcp
  have cell:∀ j,j<32->w.cell? ⟨gb,ob+j,none⟩=some (.int .u8 (bs.getD j 0)):=fun j hj=>by
   have:=hc j _ (qcj bs j (by omega))
   rw[this,List.getD_eq_getElem?_getD,List.getElem?_eq_getElem (by omega)];rfl
  have bd:∀ j,j<32->0<=bs.getD j 0/\bs.getD j 0<=255:=fun j hj=>by
   rw[List.getD_eq_getElem?_getD,List.getElem?_eq_getElem (by omega)]
   exact hx _ (List.getElem_mem _)
  have hmid:∀ c,qaf w (.slice (some ⟨gb,ob+9,none⟩) 16 c) (midB bs):=fun c=>by
   have hml:(midB bs).length=16:=by unfold midB;rw[List.length_take,List.length_drop];omega
   refine⟨by rw[qal,Nat.mul_one],Or.inr ⟨gb,ob+9,c,by rw[hml],fun j x hxj=>?_⟩⟩
   have hj:=(List.getElem?_eq_some_iff.1 hxj).1
   rw[qal,hml]at hj
   rw[Nat.add_assoc]
   refine hc (9+j) x ?_
   unfold midB at hxj
   rw[qdf,qdq,List.getElem?_take,if_pos hj,List.getElem?_drop]at hxj
   exact hxj
  rw[hn]at hb ⊢
  refine (ybam bs gb ob cap _ _ _ _ _ _ _ _ _ (bs.getD 1 0+bs.getD 2 0*256) (bs.getD 5 0+bs.getD 6 0*256) w hcp hb hmid hn hx rfl rfl ⟨fun h=>⟨h.2.1,h.2.2.1,h.2.2.2⟩,fun h=>⟨hn,h.1,h.2.1,h.2.2⟩⟩ (cell 0 (by omega)) (cell 1 (by omega)) (cell 2 (by omega)) (cell 3 (by omega)) (cell 4 (by omega)) (cell 5 (by omega)) (cell 6 (by omega)) (cell 7 (by omega)) (cell 8 (by omega))
   (bd 0 (by omega)).1 (bd 0 (by omega)).2 (bd 1 (by omega)).1 (bd 1 (by omega)).2 (bd 2 (by omega)).1 (bd 2 (by omega)).2 (bd 3 (by omega)).1 (bd 3 (by omega)).2 (bd 4 (by omega)).1 (bd 4 (by omega)).2 (bd 5 (by omega)).1 (bd 5 (by omega)).2 (bd 6 (by omega)).1 (bd 6 (by omega)).2 (bd 7 (by omega)).1 (bd 7 (by omega)).2 (bd 8 (by omega)).1 (bd 8 (by omega)).2).mono fun e w' hr=>?_
  exact hr
 ·exact qxe v bs w h hn hl
-- NOTED
theorem ybhz {w:World} {v:Value} {P:List Int} (h:qao w v P) (n:Nat) (hn:n=P.length):∃ p c,v=.slice p n c:=by
 subst hn
 obtain⟨_,⟨h0,a0,c0,rfl⟩ | ⟨g,o,cap,rfl,hc⟩⟩:=h
 ·exact⟨a0,c0,by rw[h0]⟩
 ·exact⟨_,cap,rfl⟩
end Go.Proofs.YtpoglnpjadmbpaaGreatDoor
