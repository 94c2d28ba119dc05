/- Part of the proofs of FsLinks: the texts ExtEq, ExtRun, Inode, ExtAtP, ExtPts, ExtUnp, Quota. -/
import Derived.Test.YtpoglnpjadmbpaaGreatDoorKA8
import Derived.Deep.QuietTactic
import Derived.BigQuiet
import Derived.IntWalk
set_option maxHeartbeats 16000000
set_option maxRecDepth 100000
namespace Go.Proofs.YtpoglnpjadmbpaaGreatDoor
open Go.RowKit
theorem qba {B:Nat} {a w:World} (h:Below B a w) (n:Nat):Below B a (w.drewN n):=⟨h.os,h.tape,h.output,h.size,h.block⟩
theorem ybyg : (Tryz.prog.info? 3).map (fun i=>(i.zero,i.size,i.bytes))=some (some (.int .i64 0),1,8):=by kernel_rfl
theorem intsT : Tryz.prog.underlying 32=some (.slice 3):=by kernel_rfl
def qcc (s:Int):Int:=if s<=0 then 0 else (s - 1) / 64+1
theorem qhx (s:Int) (w:World) (h0: -9223372036854775808<=s) (h1:s<=9223372036854775807):
  Calls Tryz.prog 50 #[.int .i64 s] w fun e w'=>e=.returned (.int .i64 (qcc s))/\w=w':=by
 by_cases h:s<=0
 ·have HF:Hid (qcc s=0):=by show _=_;unfold qcc;rw[if_pos h]
  go_enter Tryz.func50,Tryz.ntmps50
  go_wp2
  go_ret
  exact⟨qbb HF.out.symm,rfl⟩
 ·have HF:Hid (qcc s=(s - 1) / 64+1):=by show _=_;unfold qcc;rw[if_neg h]
  go_enter Tryz.func50,Tryz.ntmps50
  go_wp2
  go_ret
  exact⟨qbb HF.out.symm,rfl⟩
def qan (k m u g s l up:Int) (P:List Int):Int:=
 if k=0 then (if m=0/\u=0/\g=0/\s=0/\l=0/\up=0/\P.length=0 then 0 else 3)
 else if k<0\/3<k\/m<0\/511<m\/u<0\/255<u\/g<0\/255<g\/l<0\/200<l then 1
 else if s<0\/512<s then 2
 else if (k=2/\(up<1\/32<up))\/(k ≠ 2/\up ≠ 0) then 12
 else if qca P ≠ 0 then qca P
 else if (P.length:Int) ≠ qcc s then 3 else 0
theorem ybjg (k m u g s l up:Int) (v:Value) (P:List Int) (w:World) (h:qao w v P) (hl:P.length<=1000000) (hk:k=0):
  Calls Tryz.prog 97 #[.agg #[.int .i64 k,.int .i64 m,.int .i64 u,.int .i64 g,.int .i64 s,.int .i64 l,.int .i64 up,v]] w fun e w'=>e=.returned (.int .i64 (qan k m u g s l up P))/\Below w.heap.size w w':=by
 obtain⟨N,HN⟩:∃ N,Hid (N=P.length):=⟨_,rfl⟩
 obtain⟨p,cp,hu⟩:∃ p cp,v=.slice p N cp:=by
  rw[HN.out]
  obtain⟨_,⟨h0,a0,c0,rfl⟩ | ⟨g,o,cap,rfl,hc⟩⟩:=h
  ·exact⟨a0,c0,by rw[h0]⟩
  ·exact⟨_,cap,rfl⟩
 subst hu
 have HA:Hid (∀ o:Obj,Below w.heap.size w (w.alloc o)):=fun o=>(Below.refl _ _).alloc (Nat.le_refl _) o
 have H:Hid (∀ o:Obj,qao (w.alloc o) (.slice p N cp) P):=fun o=>qai.below h (HA.out o)
 rw[<-HN.out]at hl
 clear h
 subst hk
 by_cases hm:m=0
 rotate_left
 ·have b1:(m == 0)=false:=by simpa using hm
  have b2:(m != 0)=true:=by simpa using hm
  have HZ:=Lib.hid hm
  clear hm
  have HF:Hid (qan 0 m u g s l up P=3):=by show _=_;unfold qan;rw[if_pos rfl,if_neg (fun hc=>HZ.out (by omega))]
  go_enter Tryz.func97,Tryz.ntmps97
  go_wp2
  go_ret
  exact⟨qbb HF.out.symm,HA.out _⟩
 subst hm
 by_cases hu:u=0
 rotate_left
 ·have b1:(u == 0)=false:=by simpa using hu
  have b2:(u != 0)=true:=by simpa using hu
  have HZ:=Lib.hid hu
  clear hu
  have HF:Hid (qan 0 0 u g s l up P=3):=by show _=_;unfold qan;rw[if_pos rfl,if_neg (fun hc=>HZ.out (by omega))]
  go_enter Tryz.func97,Tryz.ntmps97
  go_wp2
  go_ret
  exact⟨qbb HF.out.symm,HA.out _⟩
 subst hu
 by_cases hg:g=0
 rotate_left
 ·have b1:(g == 0)=false:=by simpa using hg
  have b2:(g != 0)=true:=by simpa using hg
  have HZ:=Lib.hid hg
  clear hg
  have HF:Hid (qan 0 0 0 g s l up P=3):=by show _=_;unfold qan;rw[if_pos rfl,if_neg (fun hc=>HZ.out (by omega))]
  go_enter Tryz.func97,Tryz.ntmps97
  go_wp2
  go_ret
  exact⟨qbb HF.out.symm,HA.out _⟩
 subst hg
 by_cases hs:s=0
 rotate_left
 ·have b1:(s == 0)=false:=by simpa using hs
  have b2:(s != 0)=true:=by simpa using hs
  have HZ:=Lib.hid hs
  clear hs
  have HF:Hid (qan 0 0 0 0 s l up P=3):=by show _=_;unfold qan;rw[if_pos rfl,if_neg (fun hc=>HZ.out (by omega))]
  go_enter Tryz.func97,Tryz.ntmps97
  go_wp2
  go_ret
  exact⟨qbb HF.out.symm,HA.out _⟩
 subst hs
 by_cases hl:l=0
 rotate_left
 ·have b1:(l == 0)=false:=by simpa using hl
  have b2:(l != 0)=true:=by simpa using hl
  have HZ:=Lib.hid hl
  clear hl
  have HF:Hid (qan 0 0 0 0 0 l up P=3):=by show _=_;unfold qan;rw[if_pos rfl,if_neg (fun hc=>HZ.out (by omega))]
  go_enter Tryz.func97,Tryz.ntmps97
  go_wp2
  go_ret
  exact⟨qbb HF.out.symm,HA.out _⟩
 subst hl
 by_cases hup:up=0
 rotate_left
 ·have b1:(up == 0)=false:=by simpa using hup
  have b2:(up != 0)=true:=by simpa using hup
  have HZ:=Lib.hid hup
  clear hup
  have HF:Hid (qan 0 0 0 0 0 0 up P=3):=by show _=_;unfold qan;rw[if_pos rfl,if_neg (fun hc=>HZ.out (by omega))]
  go_enter Tryz.func97,Tryz.ntmps97
  go_wp2
  go_ret
  exact⟨qbb HF.out.symm,HA.out _⟩
 subst hup
 by_cases hN:N=0
 ·have HF:Hid (qan 0 0 0 0 0 0 0 P=0):=by show _=_;unfold qan;rw[if_pos rfl,if_pos (by rw[<-HN.out];omega)]
  subst hN
  go_enter Tryz.func97,Tryz.ntmps97
  go_wp2
  go_ret
  exact⟨qbb HF.out.symm,HA.out _⟩
 ·have HF:Hid (qan 0 0 0 0 0 0 0 P=3):=by show _=_;unfold qan;rw[if_pos rfl,if_neg (by rw[<-HN.out];omega)]
  have hN2:¬ (N:Int)=0:=by omega
  have b1:((N:Int) == 0)=false:=by simpa using hN2
  have b2:((N:Int) != 0)=true:=by simpa using hN2
  have HH:=Lib.hid hN2
  have HG:=Lib.hid hN
  clear hN hN2
  go_enter Tryz.func97,Tryz.ntmps97
  go_wp2
  go_ret
  exact⟨qbb HF.out.symm,HA.out _⟩
theorem ybot (k m u g s l up:Int) (v:Value) (P:List Int) (w:World) (h:qao w v P) (hl:P.length<=1000000) (hk:¬ k=0) (hc:k<0\/3<k\/m<0\/511<m\/u<0\/255<u\/g<0\/255<g\/l<0\/200<l):
  Calls Tryz.prog 97 #[.agg #[.int .i64 k,.int .i64 m,.int .i64 u,.int .i64 g,.int .i64 s,.int .i64 l,.int .i64 up,v]] w fun e w'=>e=.returned (.int .i64 (qan k m u g s l up P))/\Below w.heap.size w w':=by
 have _:=hl
 obtain⟨N,HN⟩:∃ N,Hid (N=P.length):=⟨_,rfl⟩
 obtain⟨p,cp,hu⟩:∃ p cp,v=.slice p N cp:=by
  rw[HN.out]
  obtain⟨_,⟨h0,a0,c0,rfl⟩ | ⟨g,o,cap,rfl,hc⟩⟩:=h
  ·exact⟨a0,c0,by rw[h0]⟩
  ·exact⟨_,cap,rfl⟩
 subst hu
 have HA:Hid (∀ o:Obj,Below w.heap.size w (w.alloc o)):=fun o=>(Below.refl _ _).alloc (Nat.le_refl _) o
 have H:Hid (∀ o:Obj,qao (w.alloc o) (.slice p N cp) P):=fun o=>qai.below h (HA.out o)
 rw[<-HN.out]at hl
 clear h
 have HCC:=Lib.hid hc
 clear hc
 have k1:(k == 0)=false:=by simpa using hk
 have k2:(k != 0)=true:=by simpa using hk
 by_cases c0:k<0
 ·have HK:=Lib.hid hk
  clear hk
  have HF:Hid (qan k m u g s l up P=1):=by show _=_;unfold qan;rw[if_neg HK.out,if_pos (by omega)]
  go_enter Tryz.func97,Tryz.ntmps97
  go_wp2
  go_ret
  exact⟨qbb HF.out.symm,HA.out _⟩
 by_cases c1:3<k
 ·have HK:=Lib.hid hk
  clear hk
  have HF:Hid (qan k m u g s l up P=1):=by show _=_;unfold qan;rw[if_neg HK.out,if_pos (by omega)]
  go_enter Tryz.func97,Tryz.ntmps97
  go_wp2
  go_ret
  exact⟨qbb HF.out.symm,HA.out _⟩
 by_cases c2:m<0
 ·have HK:=Lib.hid hk
  clear hk
  have HF:Hid (qan k m u g s l up P=1):=by show _=_;unfold qan;rw[if_neg HK.out,if_pos (by omega)]
  go_enter Tryz.func97,Tryz.ntmps97
  go_wp2
  go_ret
  exact⟨qbb HF.out.symm,HA.out _⟩
 by_cases c3:511<m
 ·have HK:=Lib.hid hk
  clear hk
  have HF:Hid (qan k m u g s l up P=1):=by show _=_;unfold qan;rw[if_neg HK.out,if_pos (by omega)]
  go_enter Tryz.func97,Tryz.ntmps97
  go_wp2
  go_ret
  exact⟨qbb HF.out.symm,HA.out _⟩
 by_cases c4:u<0
 ·have HK:=Lib.hid hk
  clear hk
  have HF:Hid (qan k m u g s l up P=1):=by show _=_;unfold qan;rw[if_neg HK.out,if_pos (by omega)]
  go_enter Tryz.func97,Tryz.ntmps97
  go_wp2
  go_ret
  exact⟨qbb HF.out.symm,HA.out _⟩
 by_cases c5:255<u
 ·have HK:=Lib.hid hk
  clear hk
  have HF:Hid (qan k m u g s l up P=1):=by show _=_;unfold qan;rw[if_neg HK.out,if_pos (by omega)]
  go_enter Tryz.func97,Tryz.ntmps97
  go_wp2
  go_ret
  exact⟨qbb HF.out.symm,HA.out _⟩
 by_cases c6:g<0
 ·have HK:=Lib.hid hk
  clear hk
  have HF:Hid (qan k m u g s l up P=1):=by show _=_;unfold qan;rw[if_neg HK.out,if_pos (by omega)]
  go_enter Tryz.func97,Tryz.ntmps97
  go_wp2
  go_ret
  exact⟨qbb HF.out.symm,HA.out _⟩
 by_cases c7:255<g
 ·have HK:=Lib.hid hk
  clear hk
  have HF:Hid (qan k m u g s l up P=1):=by show _=_;unfold qan;rw[if_neg HK.out,if_pos (by omega)]
  go_enter Tryz.func97,Tryz.ntmps97
  go_wp2
  go_ret
  exact⟨qbb HF.out.symm,HA.out _⟩
 by_cases c8:l<0
 ·have HK:=Lib.hid hk
  clear hk
  have HF:Hid (qan k m u g s l up P=1):=by show _=_;unfold qan;rw[if_neg HK.out,if_pos (by omega)]
  go_enter Tryz.func97,Tryz.ntmps97
  go_wp2
  go_ret
  exact⟨qbb HF.out.symm,HA.out _⟩
 by_cases c9:200<l
 ·have HK:=Lib.hid hk
  clear hk
  have HF:Hid (qan k m u g s l up P=1):=by show _=_;unfold qan;rw[if_neg HK.out,if_pos (by omega)]
  go_enter Tryz.func97,Tryz.ntmps97
  go_wp2
  go_ret
  exact⟨qbb HF.out.symm,HA.out _⟩
 exact absurd HCC.out (by omega)
theorem ybdi (k m u g s l up:Int) (v:Value) (P:List Int) (w:World) (h:qao w v P) (hl:P.length<=1000000) (hk:¬ k=0) (c0:¬ k<0) (c1:¬ 3<k) (c2:¬ m<0) (c3:¬ 511<m) (c4:¬ u<0) (c5:¬ 255<u) (c6:¬ g<0) (c7:¬ 255<g) (c8:¬ l<0) (c9:¬ 200<l) (hc:s<0\/512<s):
  Calls Tryz.prog 97 #[.agg #[.int .i64 k,.int .i64 m,.int .i64 u,.int .i64 g,.int .i64 s,.int .i64 l,.int .i64 up,v]] w fun e w'=>e=.returned (.int .i64 (qan k m u g s l up P))/\Below w.heap.size w w':=by
 have _:=hl
 obtain⟨N,HN⟩:∃ N,Hid (N=P.length):=⟨_,rfl⟩
 obtain⟨p,cp,hu⟩:∃ p cp,v=.slice p N cp:=by
  rw[HN.out]
  obtain⟨_,⟨h0,a0,c0,rfl⟩ | ⟨g,o,cap,rfl,hc⟩⟩:=h
  ·exact⟨a0,c0,by rw[h0]⟩
  ·exact⟨_,cap,rfl⟩
 subst hu
 have HA:Hid (∀ o:Obj,Below w.heap.size w (w.alloc o)):=fun o=>(Below.refl _ _).alloc (Nat.le_refl _) o
 have H:Hid (∀ o:Obj,qao (w.alloc o) (.slice p N cp) P):=fun o=>qai.below h (HA.out o)
 rw[<-HN.out]at hl
 clear h
 have HCC:=Lib.hid hc
 clear hc
 have k1:(k == 0)=false:=by simpa using hk
 have k2:(k != 0)=true:=by simpa using hk
 have HK:=Lib.hid hk
 clear hk
 by_cases d0:s<0
 ·have HF:Hid (qan k m u g s l up P=2):=by show _=_;unfold qan;rw[if_neg HK.out,if_neg (by omega),if_pos (by omega)]
  go_enter Tryz.func97,Tryz.ntmps97
  go_wp2
  go_ret
  exact⟨qbb HF.out.symm,HA.out _⟩
 by_cases d1:512<s
 ·have HF:Hid (qan k m u g s l up P=2):=by show _=_;unfold qan;rw[if_neg HK.out,if_neg (by omega),if_pos (by omega)]
  go_enter Tryz.func97,Tryz.ntmps97
  go_wp2
  go_ret
  exact⟨qbb HF.out.symm,HA.out _⟩
 exact absurd HCC.out (by omega)
theorem ybou (k m u g s l up:Int) (v:Value) (P:List Int) (w:World) (h:qao w v P) (hl:P.length<=1000000) (hk:¬ k=0) (c0:¬ k<0) (c1:¬ 3<k) (c2:¬ m<0) (c3:¬ 511<m) (c4:¬ u<0) (c5:¬ 255<u) (c6:¬ g<0) (c7:¬ 255<g) (c8:¬ l<0) (c9:¬ 200<l) (d0:¬ s<0) (d1:¬ 512<s) (hc:(k=2/\(up<1\/32<up))\/(k ≠ 2/\up ≠ 0)):
  Calls Tryz.prog 97 #[.agg #[.int .i64 k,.int .i64 m,.int .i64 u,.int .i64 g,.int .i64 s,.int .i64 l,.int .i64 up,v]] w fun e w'=>e=.returned (.int .i64 (qan k m u g s l up P))/\Below w.heap.size w w':=by
 have _:=hl
 obtain⟨N,HN⟩:∃ N,Hid (N=P.length):=⟨_,rfl⟩
 obtain⟨p,cp,hu⟩:∃ p cp,v=.slice p N cp:=by
  rw[HN.out]
  obtain⟨_,⟨h0,a0,c0,rfl⟩ | ⟨g,o,cap,rfl,hc⟩⟩:=h
  ·exact⟨a0,c0,by rw[h0]⟩
  ·exact⟨_,cap,rfl⟩
 subst hu
 have HA:Hid (∀ o:Obj,Below w.heap.size w (w.alloc o)):=fun o=>(Below.refl _ _).alloc (Nat.le_refl _) o
 have H:Hid (∀ o:Obj,qao (w.alloc o) (.slice p N cp) P):=fun o=>qai.below h (HA.out o)
 rw[<-HN.out]at hl
 clear h
 have k1:(k == 0)=false:=by simpa using hk
 have k2:(k != 0)=true:=by simpa using hk
 have HK:=Lib.hid hk
 clear hk
 have HCC:=Lib.hid hc
 clear hc
 by_cases hk2:k=2
 ·subst hk2
  by_cases e0:up<1
  ·have HF:Hid (qan 2 m u g s l up P=12):=by show _=_;unfold qan;rw[if_neg HK.out,if_neg (by omega),if_neg (by omega),if_pos (Or.inl (by omega))]
   go_enter Tryz.func97,Tryz.ntmps97
   go_wp2
   go_ret
   exact⟨qbb HF.out.symm,HA.out _⟩
  by_cases e1:32<up
  ·have HF:Hid (qan 2 m u g s l up P=12):=by show _=_;unfold qan;rw[if_neg HK.out,if_neg (by omega),if_neg (by omega),if_pos (Or.inl (by omega))]
   go_enter Tryz.func97,Tryz.ntmps97
   go_wp2
   go_ret
   exact⟨qbb HF.out.symm,HA.out _⟩
  exact absurd HCC.out (by omega)
 ·have hq1:(k == 2)=false:=by simpa using hk2
  have hq2:(k != 2)=true:=by simpa using hk2
  have HK2:=Lib.hid hk2
  clear hk2
  by_cases hup:up=0
  ·exact absurd HCC.out (by have:=HK2.out;omega)
  ·have u1:(up == 0)=false:=by simpa using hup
   have u2:(up != 0)=true:=by simpa using hup
   have HUP:=Lib.hid hup
   clear hup
   have HF:Hid (qan k m u g s l up P=12):=by show _=_;unfold qan;rw[if_neg HK.out,if_neg (by omega),if_neg (by omega),if_pos (Or.inr ⟨HK2.out,HUP.out⟩)]
   go_enter Tryz.func97,Tryz.ntmps97
   go_wp2
   go_ret
   exact⟨qbb HF.out.symm,HA.out _⟩
theorem qtu (k m u g s l up:Int) (v:Value) (P:List Int) (w:World) (h:qao w v P) (hl:P.length<=1000000) (hk:¬ k=0) (c0:¬ k<0) (c1:¬ 3<k) (c2:¬ m<0) (c3:¬ 511<m) (c4:¬ u<0) (c5:¬ 255<u) (c6:¬ g<0) (c7:¬ 255<g) (c8:¬ l<0) (c9:¬ 200<l) (d0:¬ s<0) (d1:¬ 512<s) (hk2:k=2) (e0:¬ up<1) (e1:¬ 32<up):
  Calls Tryz.prog 97 #[.agg #[.int .i64 k,.int .i64 m,.int .i64 u,.int .i64 g,.int .i64 s,.int .i64 l,.int .i64 up,v]] w fun e w'=>e=.returned (.int .i64 (qan k m u g s l up P))/\Below w.heap.size w w':=by
 obtain⟨N,HN⟩:∃ N,Hid (N=P.length):=⟨_,rfl⟩
 obtain⟨p,cp,hu⟩:∃ p cp,v=.slice p N cp:=by
  rw[HN.out]
  obtain⟨_,⟨h0,a0,c0,rfl⟩ | ⟨g,o,cap,rfl,hc⟩⟩:=h
  ·exact⟨a0,c0,by rw[h0]⟩
  ·exact⟨_,cap,rfl⟩
 subst hu
 have HA:Hid (∀ o:Obj,Below w.heap.size w (w.alloc o)):=fun o=>(Below.refl _ _).alloc (Nat.le_refl _) o
 have H:Hid (∀ o:Obj,qao (w.alloc o) (.slice p N cp) P):=fun o=>qai.below h (HA.out o)
 rw[<-HN.out]at hl
 clear h
 subst hk2
 have k1:((2:Int) == 0)=false:=by simp
 have k2:((2:Int) != 0)=true:=by simp
 have HK:=Lib.hid hk
 clear hk
 have HR:Hid (qan 2 m u g s l up P=if qca P ≠ 0 then qca P else if (P.length:Int) ≠ qcc s then 3 else 0):=by show _=_;unfold qan;rw[if_neg HK.out,if_neg (by omega),if_neg (by omega),if_neg (by omega)]
 obtain⟨r,Hr⟩:∃ r,Hid (qca P=r):=⟨_,rfl⟩
 by_cases hr0:r=0
 ·subst hr0
  obtain⟨bk,Hbk⟩:∃ b,Hid (qcc s=b):=⟨_,rfl⟩
  have HBL:Hid (∀ W:World,Calls Tryz.prog 50 #[.int .i64 s] W fun e w'=>e=.returned (.int .i64 bk)/\w'=W):=fun W=>by
   have:=qhx s W (by omega) (by omega)
   rw[Hbk.out]at this;exact this.mono fun _ _ h=>⟨h.1,h.2.symm⟩
  by_cases hbk:(N:Int)=bk
  ·have HF:Hid (qan 2 m u g s l up P=0):=by show _=_;rw[HR.out,if_neg (fun hc=>hc Hr.out),if_neg (fun hc=>hc (by rw[<-HN.out,Hbk.out];exact hbk))]
   subst hbk
   go_enter Tryz.func97,Tryz.ntmps97
   go_wp2_with fail
   refine (qha _ P _ (H.out _) (by rw[<-HN.out];omega)).mono ?_
   rw[Hr.out]
   rintro e w' ⟨rfl,rfl⟩
   go_wp2_with fail
   go_quiet ((go_at_call 50;exact Calls.quiet_of_same (HBL.out _)))
   go_wp2
   go_ret
   exact⟨qbb HF.out.symm,below_drewN (HA.out _) _⟩
  ·have HF:Hid (qan 2 m u g s l up P=3):=by show _=_;rw[HR.out,if_neg (fun hc=>hc Hr.out),if_pos (fun hc=>hbk (by rw[<-HN.out,Hbk.out]at hc;exact hc))]
   have n1:((N:Int) == bk)=false:=by simpa using hbk
   have n2:((N:Int) != bk)=true:=by simpa using hbk
   have HBK:=Lib.hid hbk
   clear hbk
   go_enter Tryz.func97,Tryz.ntmps97
   go_wp2_with fail
   refine (qha _ P _ (H.out _) (by rw[<-HN.out];omega)).mono ?_
   rw[Hr.out]
   rintro e w' ⟨rfl,rfl⟩
   go_wp2_with fail
   go_quiet ((go_at_call 50;exact Calls.quiet_of_same (HBL.out _)))
   go_wp2
   go_ret
   exact⟨qbb HF.out.symm,below_drewN (HA.out _) _⟩
 ·have HF:Hid (qan 2 m u g s l up P=r):=by show _=_;rw[HR.out,if_pos (by rw[Hr.out];exact hr0),Hr.out]
  have r1:(r == 0)=false:=by simpa using hr0
  have r2:(r != 0)=true:=by simpa using hr0
  have HR0:=Lib.hid hr0
  clear hr0
  go_enter Tryz.func97,Tryz.ntmps97
  go_wp2_with fail
  refine (qha _ P _ (H.out _) (by rw[<-HN.out];omega)).mono ?_
  rw[Hr.out]
  rintro e w' ⟨rfl,rfl⟩
  go_wp2
  go_ret
  exact⟨qbb HF.out.symm,HA.out _⟩
theorem ybjf (k m u g s l up:Int) (v:Value) (P:List Int) (w:World) (h:qao w v P) (hl:P.length<=1000000) (hk:¬ k=0) (c0:¬ k<0) (c1:¬ 3<k) (c2:¬ m<0) (c3:¬ 511<m) (c4:¬ u<0) (c5:¬ 255<u) (c6:¬ g<0) (c7:¬ 255<g) (c8:¬ l<0) (c9:¬ 200<l) (d0:¬ s<0) (d1:¬ 512<s) (hk2:¬ k=2) (hup:up=0):
  Calls Tryz.prog 97 #[.agg #[.int .i64 k,.int .i64 m,.int .i64 u,.int .i64 g,.int .i64 s,.int .i64 l,.int .i64 up,v]] w fun e w'=>e=.returned (.int .i64 (qan k m u g s l up P))/\Below w.heap.size w w':=by
 obtain⟨N,HN⟩:∃ N,Hid (N=P.length):=⟨_,rfl⟩
 obtain⟨p,cp,hu⟩:∃ p cp,v=.slice p N cp:=by
  rw[HN.out]
  obtain⟨_,⟨h0,a0,c0,rfl⟩ | ⟨g,o,cap,rfl,hc⟩⟩:=h
  ·exact⟨a0,c0,by rw[h0]⟩
  ·exact⟨_,cap,rfl⟩
 subst hu
 have HA:Hid (∀ o:Obj,Below w.heap.size w (w.alloc o)):=fun o=>(Below.refl _ _).alloc (Nat.le_refl _) o
 have H:Hid (∀ o:Obj,qao (w.alloc o) (.slice p N cp) P):=fun o=>qai.below h (HA.out o)
 rw[<-HN.out]at hl
 clear h
 subst hup
 have k1:(k == 0)=false:=by simpa using hk
 have k2:(k != 0)=true:=by simpa using hk
 have HK:=Lib.hid hk
 clear hk
 have hq1:(k == 2)=false:=by simpa using hk2
 have hq2:(k != 2)=true:=by simpa using hk2
 have HK2:=Lib.hid hk2
 clear hk2
 have HR:Hid (qan k m u g s l 0 P=if qca P ≠ 0 then qca P else if (P.length:Int) ≠ qcc s then 3 else 0):=by show _=_;unfold qan;rw[if_neg HK.out,if_neg (by omega),if_neg (by omega),if_neg (by have:=HK2.out;omega)]
 obtain⟨r,Hr⟩:∃ r,Hid (qca P=r):=⟨_,rfl⟩
 by_cases hr0:r=0
 ·subst hr0
  obtain⟨bk,Hbk⟩:∃ b,Hid (qcc s=b):=⟨_,rfl⟩
  have HBL:Hid (∀ W:World,Calls Tryz.prog 50 #[.int .i64 s] W fun e w'=>e=.returned (.int .i64 bk)/\w'=W):=fun W=>by
   have:=qhx s W (by omega) (by omega)
   rw[Hbk.out]at this;exact this.mono fun _ _ h=>⟨h.1,h.2.symm⟩
  by_cases hbk:(N:Int)=bk
  ·have HF:Hid (qan k m u g s l 0 P=0):=by show _=_;rw[HR.out,if_neg (fun hc=>hc Hr.out),if_neg (fun hc=>hc (by rw[<-HN.out,Hbk.out];exact hbk))]
   subst hbk
   go_enter Tryz.func97,Tryz.ntmps97
   go_wp2_with fail
   refine (qha _ P _ (H.out _) (by rw[<-HN.out];omega)).mono ?_
   rw[Hr.out]
   rintro e w' ⟨rfl,rfl⟩
   go_wp2_with fail
   go_quiet ((go_at_call 50;exact Calls.quiet_of_same (HBL.out _)))
   go_wp2
   go_ret
   exact⟨qbb HF.out.symm,below_drewN (HA.out _) _⟩
  ·have HF:Hid (qan k m u g s l 0 P=3):=by show _=_;rw[HR.out,if_neg (fun hc=>hc Hr.out),if_pos (fun hc=>hbk (by rw[<-HN.out,Hbk.out]at hc;exact hc))]
   have n1:((N:Int) == bk)=false:=by simpa using hbk
   have n2:((N:Int) != bk)=true:=by simpa using hbk
   have HBK:=Lib.hid hbk
   clear hbk
   go_enter Tryz.func97,Tryz.ntmps97
   go_wp2_with fail
   refine (qha _ P _ (H.out _) (by rw[<-HN.out];omega)).mono ?_
   rw[Hr.out]
   rintro e w' ⟨rfl,rfl⟩
   go_wp2_with fail
   go_quiet ((go_at_call 50;exact Calls.quiet_of_same (HBL.out _)))
   go_wp2
   go_ret
   exact⟨qbb HF.out.symm,below_drewN (HA.out _) _⟩
 ·have HF:Hid (qan k m u g s l 0 P=r):=by show _=_;rw[HR.out,if_pos (by rw[Hr.out];exact hr0),Hr.out]
  have r1:(r == 0)=false:=by simpa using hr0
  have r2:(r != 0)=true:=by simpa using hr0
  have HR0:=Lib.hid hr0
  clear hr0
  go_enter Tryz.func97,Tryz.ntmps97
  go_wp2_with fail
  refine (qha _ P _ (H.out _) (by rw[<-HN.out];omega)).mono ?_
  rw[Hr.out]
  rintro e w' ⟨rfl,rfl⟩
  go_wp2
  go_ret
  exact⟨qbb HF.out.symm,HA.out _⟩
theorem qou (k m u g s l up:Int) (v:Value) (P:List Int) (w:World) (h:qao w v P) (hl:P.length<=1000000):
  Calls Tryz.prog 97 #[.agg #[.int .i64 k,.int .i64 m,.int .i64 u,.int .i64 g,.int .i64 s,.int .i64 l,.int .i64 up,v]] w fun e w'=>e=.returned (.int .i64 (qan k m u g s l up P))/\Below w.heap.size w w':=by
 by_cases hk:k=0
 ·exact ybjg k m u g s l up v P w h hl hk
 by_cases ha:k<0\/3<k\/m<0\/511<m\/u<0\/255<u\/g<0\/255<g\/l<0\/200<l
 ·exact ybot k m u g s l up v P w h hl hk ha
 by_cases hs:s<0\/512<s
 ·exact ybdi k m u g s l up v P w h hl hk (by omega) (by omega) (by omega) (by omega) (by omega) (by omega) (by omega) (by omega) (by omega) (by omega) hs
 by_cases hd:(k=2/\(up<1\/32<up))\/(k ≠ 2/\up ≠ 0)
 ·exact ybou k m u g s l up v P w h hl hk (by omega) (by omega) (by omega) (by omega) (by omega) (by omega) (by omega) (by omega) (by omega) (by omega) (by omega) (by omega) hd
 by_cases h2:k=2
 ·exact qtu k m u g s l up v P w h hl hk (by omega) (by omega) (by omega) (by omega) (by omega) (by omega) (by omega) (by omega) (by omega) (by omega) (by omega) (by omega) h2 (by omega) (by omega)
 ·exact ybjf k m u g s l up v P w h hl hk (by omega) (by omega) (by omega) (by omega) (by omega) (by omega) (by omega) (by omega) (by omega) (by omega) (by omega) (by omega) h2 (by omega)
def exp1 (x:Int × Int):List Int:=(List.range x.2.toNat).map fun i:Nat=>if x.1=0 then (0:Int) else x.1+(i:Int)
def badX (x:Int × Int):Bool:=decide (x.1<0) || decide (256<=x.1) || decide (x.2<1) || decide (8<x.2) || (decide (0<x.1) && decide (256<x.1+x.2))
def ptsR : List (Int × Int)->List Int->List Int × Int
 | [],acc=>(acc,0)
 | x :: r,acc=>if badX x then ([],1) else if 8<acc.length+(exp1 x).length then ([],2) else ptsR r (acc++exp1 x)
theorem qya (x:Int × Int) (j:Nat) (hj:(j:Int)<x.2):(exp1 x).take (j+1)=(exp1 x).take j++[if x.1=0 then 0 else x.1+j]:=by
 have hl:j<(exp1 x).length:=by simp[exp1];omega
 rw[<-List.take_append_getElem hl]
 congr 2
 simp[exp1]
theorem qul {w w':World} {base:Nat} {e e':TypeId} {size:Nat} {v:Value} {n:Nat} {xs:List Value} {g:Nat} {cs:Array Value} {fr:Nat × Nat} (h:w.ownsRow base e size v n xs) (hg:w.grownBy w' v.ownBlock)
  (hb:w.heap[g]? = some (.cells cs e' fr)) (hne:e ≠ e'):w'.heap[g]? = some (.cells cs e' fr):=by
 rw[hg.block g (qac hb) ?_]
 ·exact hb
 ·intro heq
  obtain⟨_,⟨rfl,_⟩ | ⟨g',cap,cur,rfl,_,hh,_⟩⟩:=h
  ·cases heq
  ·cases heq
   rw[hh]at hb
   injection hb with hb
   injection hb with _ hb _
   exact hne hb
def PtsRes (l:List (Int × Int)) (w:World) (e:Ending) (w':World):Prop:=
 ((ptsR l []).2=0/\∃ v,e=.returned (.tuple #[v,.int .i64 0])/\w'.ownsRow w.heap.size 3 1 v (ptsR l []).1.length (ints (ptsR l []).1)/\Below w.heap.size w w') \/
 ((ptsR l []).2 ≠ 0/\e=.returned (.tuple #[.slice none 0 0,.int .i64 (ptsR l []).2])/\Below w.heap.size w w')
theorem quu (v:Value) (l:List (Int × Int)) (w:World) (h:qai w v 2 l.length (qbw l)) (hl:l.length<=1000000) (hx:∀ x,x ∈ l -> -9223372036854775808<=x.1/\x.1<=9223372036854775807 /\ -9223372036854775808<=x.2/\x.2<=9223372036854775807):
  Calls Tryz.prog 187 #[v] w (PtsRes l w):=by
 obtain⟨i0,hi,hz0,hz1,hz2⟩:=info_parts ybyg
 have HI:=Lib.hid hi
 have HZ0:=Lib.hid hz0
 have HZ1:=Lib.hid hz1
 have HZ2:=Lib.hid hz2
 clear hi hz0 hz1 hz2
 obtain⟨N,HN⟩:∃ N,Hid (N=l.length):=⟨_,rfl⟩
 rw[<-HN.out]at h hl
 obtain⟨p,cp,hu,HP⟩:∃ p cp,v=.slice p N cp/\Hid (0<N->∃ g o,p=some ⟨g,o,none⟩/\∀ (j:Nat) (x:Value),(qbw l)[j]? = some x->w.cell? ⟨g,o+j,none⟩=some x):=by
  obtain⟨_,⟨h0,a0,c0,rfl⟩ | ⟨g,o,cap,rfl,hc⟩⟩:=h
  ·exact⟨a0,c0,by rw[h0],fun h=>by omega⟩
  ·exact⟨_,cap,rfl,fun _=>⟨g,o,rfl,hc⟩⟩
 subst hu
 have HX:=Lib.hid hx
 clear h hx
 go_enter Tryz.func187,Tryz.ntmps187
 go_wp2
 go_loopw [4,10] (fun o i wr=>∃ (k:Nat) (acc:List Int),k<=N/\i=.int .i64 k/\acc.length<=8/\Hid (ptsR (l.drop k) acc=ptsR l [])/\Hid (wr.ownsRow w.heap.size 3 1 o acc.length (ints acc))/\Below w.heap.size w wr) (fun _ i _=>N - (intOf i).toNat)
 case atStart=>exact⟨0,[],Nat.zero_le _,rfl,by simp,rfl,World.ownsRow_nil _ _ _ _,Below.refl _ _⟩
 case round=>
  obtain⟨k,acc,hk,rfl,hacc,HR,HO,HB⟩:=hrel
  by_cases hlt:k<N
  ·obtain⟨g,o,rfl,hc⟩:=HP.out (by omega)
   have hkl:k<l.length:=by rw[<-HN.out];exact hlt
   have hp:=qzm l k hkl
   obtain⟨a,ha⟩:∃ a,Hid (a=l[k].1):=⟨l[k].1,rfl⟩
   obtain⟨n,hn⟩:∃ n,Hid (n=l[k].2):=⟨l[k].2,rfl⟩
   have hr:=HX.out _ (List.getElem_mem hkl)
   rw[<-ha.out,<-hn.out]at hp hr
   obtain⟨ha0,ha1,hn0,hn1⟩:=hr
   have keep:∀ {x:Addr} {y:Value},w.cell? x=some y->wr.cell? x=some y:=fun h=>(HB.cell (block_lt_of_cell h)).trans h
   have c1:=keep (hc _ _ hp.1)
   have c2:=keep (hc _ _ hp.2)
   have HC:=Lib.hid hc
   clear hc hp keep
   rw[<-Nat.add_assoc]at c2
   have hlt2:(k:Int)<(N:Int):=by omega
   have HS:Hid (ptsR l []=if badX (a,n) then ([],1) else if 8<acc.length+(exp1 (a,n)).length then ([],2) else ptsR (l.drop (k+1)) (acc++exp1 (a,n))):=by
    rw[<-HR.out,List.drop_eq_getElem_cons hkl,ptsR,ha.out,hn.out];exact rfl
   have HB4:Below w.heap.size w (wr.alloc (Obj.cells #[Value.int IntKind.i64 a,Value.int IntKind.i64 n] 221)):=HB.alloc HB.size _
   by_cases hbad:badX (a,n)=true
   ·have HF:Hid ((ptsR l []).2=1):=by rw[HS.out,if_pos hbad];exact rfl
    have HBB:=Lib.hid hbad
    by_cases q1:a<0
    ·clear hbad
     go_wp2
     go_ret2
     exact Or.inr ⟨by rw[HF.out];decide,by rw[HF.out];rfl,HB4⟩
    ·by_cases q2:256<=a
     ·clear hbad
      go_wp2
      go_ret2
      exact Or.inr ⟨by rw[HF.out];decide,by rw[HF.out];rfl,HB4⟩
     ·by_cases q3:n<1
      ·clear hbad
       go_wp2
       go_ret2
       exact Or.inr ⟨by rw[HF.out];decide,by rw[HF.out];rfl,HB4⟩
      ·by_cases q4:8<n
       ·clear hbad
        go_wp2
        go_ret2
        exact Or.inr ⟨by rw[HF.out];decide,by rw[HF.out];rfl,HB4⟩
       ·have q5:0<a:=by simp[badX]at hbad;omega
        have q6:256<a+n:=by simp[badX]at hbad;omega
        clear hbad
        go_wp2
        go_ret2
        exact Or.inr ⟨by rw[HF.out];decide,by rw[HF.out];rfl,HB4⟩
   ·have hb1:0<=a:=by simp[badX]at hbad;omega
    have hb2:a<256:=by simp[badX]at hbad;omega
    have hb3:1<=n:=by simp[badX]at hbad;omega
    have hb4:n<=8:=by simp[badX]at hbad;omega
    have hb5:0<a->a+n<=256:=by simp[badX]at hbad;omega
    have HBAD:=Lib.hid hbad
    clear hbad
    by_cases hq:0<a
    all_goals
     have hb6:a+n<=512:=by omega
     have hb7:¬ (256:Int)<a+n\/¬ (0:Int)<a:=by omega
     first | (have hb8:¬ (256:Int)<a+n:=by omega) | skip
     obtain⟨wo,hwo⟩:∃ wo:World,wo=wr:=⟨_,rfl⟩
     subst hwo
     go_wp2
     go_loopw [4,47] (fun o i wi=>∃ j:Nat,(j:Int)<=n/\i=.int .i64 j/\Hid (wi.ownsRow w.heap.size 3 1 o (acc.length+j) (ints (acc++(exp1 (a,n)).take j)))/\Below w.heap.size w wi/\Hid (wi.heap[wo.heap.size]? = some (.cells #[.int .i64 a,.int .i64 n] 221 (0,0)))) (fun _ i _=>(n - intOf i).toNat)
     case atStart=>
      refine⟨0,by omega,rfl,?_,HB4,heap_alloc_new _ _⟩
      simp only[List.take_zero,List.append_nil,Nat.add_zero]
      exact HO.out.alloc _
     case round=>
      obtain⟨j,hj,rfl,HO2,HB2,HS2⟩:=hrel
      have d1:wr.cell? ⟨wo.heap.size,0,none⟩=some (.int .i64 a):=cell_of_row _ _ _ _ _ _ HS2.out
      have d2:wr.cell? ⟨wo.heap.size,1,none⟩=some (.int .i64 n):=cell_of_row _ _ _ _ _ _ HS2.out
      by_cases hjn:(j:Int)<n
      ·by_cases hz:a=0
       ·have hab:(a == 0)=true:=by simpa using hz
        have HZ:=Lib.hid hz
        clear hz
        have hlt':=(HO2.out.alloc (.cells #[.int .i64 a] 3)).lt
        go_wp2_with (first
         | (at_builtin;refine wpList_append_own _ rfl _ _ 32 rfl w.heap.size 3 i0 (.int .i64 0) 1 8 intsT HI.out HZ0.out HZ1.out HZ2.out rfl (by decide) _ _ _ rfl (HO2.out.alloc _) ⟨wr.heap.size,0,none⟩ 1 1 [.int .i64 a] rfl rfl (fun j u hu=>qig _ #[.int .i64 a] _ j u hu) (fun u hu=>by simp at hu;subst hu;rfl) (by unfold maxLen;omega) (by omega) (by have:=HB2.size;simp;omega) ?_;intro v' w4 hown hgrow _))
        have HO4:Hid (w4.ownsRow w.heap.size 3 1 v' (acc.length+(j+1)) (ints (acc++(exp1 (a,n)).take (j+1)))):=by
         rw[qya (a,n) j hjn]
         rw[if_pos HZ.out,<-HZ.out]
         have e:ints (acc++(List.take j (exp1 (a,n))++[a]))=ints (acc++List.take j (exp1 (a,n)))++[.int .i64 a]:=by simp[ints]
         rw[e];exact hown
        have HB5:Below w.heap.size w w4:=Below.grown (HB2.alloc HB2.size _) hgrow (by have:=HB2.size;simp;omega) (fun r hr=>(hlt' r hr).1)
        have HS5:Hid (w4.heap[wo.heap.size]? = some (.cells #[.int .i64 a,.int .i64 n] 221 (0,0))):=qul (HO2.out.alloc _) hgrow (qad HS2.out _) (by decide)
        clear hown hgrow hlt'
        go_wp2
        go_roundw
        case rel=>exact⟨j+1,by omega,by go_num,HO4,HB5,HS5⟩
        case measure=>simp[intOf];omega
       ·have hab:(a == 0)=false:=by simpa using hz
        have HZ:=Lib.hid hz
        clear hz
        have hsum:IntKind.i64.wrap (a+(j:Int))=a+(j:Int):=IntWalk.i64_in _ (by omega)
        have HSUM:=Lib.hid hsum
        clear hsum
        have hlt':=(HO2.out.alloc (.cells #[.int .i64 (a+j)] 3)).lt
        go_wp2_with (first
         | (at_builtin;refine wpList_append_own _ rfl _ _ 32 rfl w.heap.size 3 i0 (.int .i64 0) 1 8 intsT HI.out HZ0.out HZ1.out HZ2.out rfl (by decide) _ _ _ rfl (HO2.out.alloc _) ⟨wr.heap.size,0,none⟩ 1 1 [.int .i64 (a+j)] rfl rfl (fun jj u hu=>qig _ #[.int .i64 (a+j)] _ jj u hu) (fun u hu=>by simp at hu;subst hu;rfl) (by unfold maxLen;omega) (by omega) (by have:=HB2.size;simp;omega) ?_;intro v' w4 hown hgrow _))
        have HO4:Hid (w4.ownsRow w.heap.size 3 1 v' (acc.length+(j+1)) (ints (acc++(exp1 (a,n)).take (j+1)))):=by
         rw[qya (a,n) j hjn]
         rw[if_neg HZ.out]
         have e:ints (acc++(List.take j (exp1 (a,n))++[(a+j)]))=ints (acc++List.take j (exp1 (a,n)))++[.int .i64 (a+j)]:=by simp[ints]
         rw[e];exact hown
        have HB5:Below w.heap.size w w4:=Below.grown (HB2.alloc HB2.size _) hgrow (by have:=HB2.size;simp;omega) (fun r hr=>(hlt' r hr).1)
        have HS5:Hid (w4.heap[wo.heap.size]? = some (.cells #[.int .i64 a,.int .i64 n] 221 (0,0))):=qul (HO2.out.alloc _) hgrow (qad HS2.out _) (by decide)
        clear hown hgrow hlt'
        go_wp2
        go_roundw
        case rel=>exact⟨j+1,by omega,by go_num,HO4,HB5,HS5⟩
        case measure=>simp[intOf];omega
      ·obtain⟨q2,cq2,hv2,_⟩:=qat HO2.out
       subst hv2
       have hle:(exp1 (a,n)).length=j:=by simp[exp1];omega
       have HTK:Hid ((exp1 (a,n)).take j=exp1 (a,n)):=by rw[<-hle];exact List.take_length
       have HLE:=Lib.hid hle
       clear hle
       by_cases h8:8<acc.length+j
       ·have HF:Hid ((ptsR l []).2=2):=by rw[HS.out,if_neg HBAD.out,if_pos (by rw[HLE.out];exact h8)];exact rfl
        go_wp2
        go_ret2
        exact Or.inr ⟨by rw[HF.out];decide,by rw[HF.out];rfl,HB2⟩
       ·have HF:Hid (ptsR (l.drop (k+1)) (acc++exp1 (a,n))=ptsR l []):=by rw[HS.out,if_neg HBAD.out,if_neg (by rw[HLE.out];exact h8)];exact rfl
        have HO4:Hid (wr.ownsRow w.heap.size 3 1 (.slice q2 (acc.length+j) cq2) (acc++exp1 (a,n)).length (ints (acc++exp1 (a,n)))):=by
         have:=HO2.out
         rw[HTK.out]at this
         rw[List.length_append,HLE.out];exact this
        have hacc2:(acc++exp1 (a,n)).length<=8:=by rw[List.length_append,HLE.out];omega
        go_wp2
        go_roundw
        case rel=>exact⟨k+1,acc++exp1 (a,n),by omega,by go_num,hacc2,HF,HO4,HB2⟩
        case measure=>simp[intOf];omega
  ·have HF:Hid (ptsR l []=(acc,0)):=by
    rw[<-HR.out,List.drop_of_length_le (by rw[<-HN.out];omega)];exact rfl
   go_wp2
   go_ret2
   refine Or.inl ⟨by rw[HF.out],_,rfl,?_,HB⟩
   rw[HF.out];exact HO.out
def qkf : List Int->List (Int × Int)
 | a :: n :: r=>if 0<n then (a,n) :: qkf r else []
 | _=>[]
theorem ybjj (bs:List Int) (k:Nat) (h:2*k+1<bs.length):qkf (bs.drop (2*k))=if 0<bs[2*k+1] then (bs[2*k],bs[2*k+1]) :: qkf (bs.drop (2*(k+1))) else []:=by
 rw[List.drop_eq_getElem_cons (show 2*k<bs.length by omega),List.drop_eq_getElem_cons h,qkf]
 rfl
def qfr (bs:List Int):List Int × Int:=ptsR (qkf bs) []
def qol (bs:List Int):Prop:=bs.length=16/\(qfr bs).2=0/\qeg (ofE (qfr bs).1)=bs
theorem ybxm {x:Int × Int} (h:badX x=false):∀ p,p ∈ exp1 x->0<=p/\p<=255:=by
 intro p hp
 simp only[exp1,List.mem_map,List.mem_range]at hp
 obtain⟨i,hi,rfl⟩:=hp
 simp[badX]at h
 split <;> omega
theorem quv : ∀ (l:List (Int × Int)) (acc:List Int),acc.length<=8->(∀ p,p ∈ acc->0<=p/\p<=255)->(ptsR l acc).2=0->(ptsR l acc).1.length<=8/\∀ p,p ∈ (ptsR l acc).1->0<=p/\p<=255
 | [],acc,h1,h2,_=>⟨h1,h2⟩
 | x :: r,acc,h1,h2,h3=>by
  unfold ptsR at h3 ⊢
  split at h3
  ·simp at h3
  ·rename_i hb
   rw[if_neg hb]
   split at h3
   ·simp at h3
   ·rename_i h8
    rw[if_neg h8]
    refine quv r (acc++exp1 x) (by simp at *;omega) (fun p hp=>?_) h3
    rcases List.mem_append.1 hp with hp | hp
    ·exact h2 p hp
    ·exact ybxm (by simpa using hb) p hp
theorem ybuo {l:List Int} (h1:l.length<=8) (h2:∀ p,p ∈ l->0<=p/\p<=255):qca l=0:=by
 unfold qca
 rw[if_neg (by omega),if_neg]
 intro h
 obtain⟨p,hp,hb⟩:=List.any_eq_true.1 h
 have:=h2 p hp
 simp[badP]at hb
 omega
theorem qlo {bs:List Int} (h:(qfr bs).2=0):qca (qfr bs).1=0:=by
 have:=quv (qkf bs) [] (by simp) (by simp) h
 exact ybuo this.1 this.2
theorem qqy (ns:List Int):(qch ns).data.toList=ns.map fun n=>UInt8.ofNat n.toNat:=by
 have key:∀ (l:List Int) (r:ByteArray),(l.foldl (fun r n=>r.push (UInt8.ofNat n.toNat)) r).data.toList=r.data.toList++l.map fun n=>UInt8.ofNat n.toNat:=by
  intro l
  induction l with
  | nil=>intro r;simp
  | cons a l ih=>intro r;rw[List.foldl_cons,ih];simp[ByteArray.push]
 simpa[qch]using key ns ByteArray.empty
theorem quc {a b:List Int} (ha:∀ x,x ∈ a->0<=x/\x<=255) (hb:∀ x,x ∈ b->0<=x/\x<=255) (h:qch a=qch b):a=b:=by
 have h1:a.map (fun n=>UInt8.ofNat n.toNat)=b.map fun n=>UInt8.ofNat n.toNat:=by rw[<-qqy,<-qqy,h]
 have key:∀ (a b:List Int),(∀ x,x ∈ a->0<=x/\x<=255)->(∀ x,x ∈ b->0<=x/\x<=255)->a.map (fun n=>UInt8.ofNat n.toNat)=b.map (fun n=>UInt8.ofNat n.toNat)->a=b:=by
  intro a
  induction a with
  | nil=>intro b _ _ h;cases b <;> simp_all
  | cons x a ih=>
   intro b ha hb h
   cases b with
   | nil=>simp at h
   | cons y b=>
    simp only[List.map_cons,List.cons.injEq]at h
    have hx:=ha x (by simp)
    have hy:=hb y (by simp)
    have e:x=y:=by
     have:=congrArg UInt8.toNat h.1
     simp only[UInt8.toNat_ofNat']at this
     omega
    rw[e,ih b (fun z hz=>ha z (by simp[hz])) (fun z hz=>hb z (by simp[hz])) h.2]
 exact key a b ha hb h1
theorem qwt (l:List (Int × Int)) (k:Nat) (hk:k<l.length):(qbw l)[k*2]? = some (.int .i64 l[k].1)/\(qbw l)[k*2+1]? = some (.int .i64 l[k].2):=by
 have e:l=l.take k++(l[k] :: l.drop (k+1)):=by rw[List.getElem_cons_drop,List.take_append_drop]
 have hl:(qbw (l.take k)).length=k*2:=by rw[qsi,List.length_take];omega
 have e2:qbw l=qbw (l.take k)++(.int .i64 l[k].1 :: .int .i64 l[k].2 :: qbw (l.drop (k+1))):=by
  conv=>lhs;rw[e]
  rw[qdm]
  rfl
 rw[e2]
 constructor
 ·rw[List.getElem?_append_right (by omega),hl,Nat.sub_self];rfl
 ·rw[List.getElem?_append_right (by omega),hl,show k*2+1 - k*2=1 by omega];rfl
theorem qva {w:World} {v:Value} {l:List (Int × Int)} (h:qai w v 2 l.length (qbw l)):∃ a c,v=.slice a l.length c/\(0<l.length->∃ g o,a=some ⟨g,o,none⟩/\g<w.heap.size/\∀ k (hk:k<l.length),w.cell? ⟨g,o+k*2,none⟩=some (.int .i64 l[k].1)/\w.cell? ⟨g,o+k*2+1,none⟩=some (.int .i64 l[k].2)):=by
 obtain⟨_,⟨h1,a,c,rfl⟩ | ⟨g,o,c,rfl,hc⟩⟩:=h
 ·exact⟨a,c,by rw[h1],fun h=>by omega⟩
 ·refine⟨_,c,rfl,fun h0=>⟨g,o,rfl,?_,fun k hk=>?_⟩⟩
  ·exact block_lt_of_cell (hc 0 _ (qwt l 0 h0).1)
  ·exact⟨hc _ _ (qwt l k hk).1,by rw[Nat.add_assoc];exact hc _ _ (qwt l k hk).2⟩
end Go.Proofs.YtpoglnpjadmbpaaGreatDoor
