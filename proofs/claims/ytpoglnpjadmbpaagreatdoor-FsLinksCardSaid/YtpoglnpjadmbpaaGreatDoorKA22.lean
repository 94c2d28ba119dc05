/- Part of the proofs of FsLinks: the texts DirSort. -/
import Derived.Test.YtpoglnpjadmbpaaGreatDoorKA12
import Derived.Test.YtpoglnpjadmbpaaGreatDoorKA20
set_option maxHeartbeats 16000000
set_option maxRecDepth 100000
namespace Go.Proofs.YtpoglnpjadmbpaaGreatDoor
open Go.RowKit Go.Sort Go.Shelf
def encE (x:En):List Value:=[.string x.1,.int .i64 x.2]
def cfE (x y:En):Int:=cmpB x.1 y.1
theorem qvv (x:En):(encE x).length=2:=rfl
theorem ybro (x:En):∀ v ∈ encE x,v.oneCell'=true:=by
 intro v hv
 simp[encE]at hv
 rcases hv with rfl | rfl <;> rfl
theorem qof (a b:ByteArray):decide (cmpB a b<0)=lexB a b:=by
 unfold cmpB
 cases lexB a b with
 | true=>rfl
 | false=>by_cases h:a=b <;> simp[h]
theorem ybrf : SWO (ltOf cfE) where
 irrefl x:=by unfold ltOf cfE;rw[qof];exact qej _
 trans x y z h1 h2:=by
  unfold ltOf cfE at *
  rw[qof]at *
  exact qgv h1 h2
 ntrans x y z h1 h2:=by
  unfold ltOf cfE at *
  rw[qof]at *
  cases h:lexB x.1 z.1 with
  | false=>rfl
  | true=>
   cases h3:lexB y.1 x.1 with
   | true=>rw[qgv h3 h]at h2;cases h2
   | false=>rw[qic h1 h3]at h;rw[h]at h2;cases h2
theorem ybre (x y:En) (W:World):
  Calls Tryz.prog 120 #[.agg (encE x).toArray,.agg (encE y).toArray] W fun e w'=>e=.returned (.int .i64 (cfE x y))/\∃ q os',w'=grow (W.drewN q) os':=by
 unfold cfE encE
 obtain⟨x1,x2⟩:=x
 obtain⟨y1,y2⟩:=y
 obtain⟨r,Hr⟩:∃ r,Hid (cmpB x1 y1=r):=⟨_,rfl⟩
 have HC:Hid (∀ W:World,Calls Tryz.prog 121 #[.string x1,.string y1] W fun e w'=>e=.returned (.int .i64 r)/\W=w'):=fun W=>by
  rw[<-Hr.out];exact qra x1 y1 W
 have hr:cmpB (x1,x2).1 (y1,y2).1=r:=Hr.out
 rw[hr]
 clear Hr hr
 have hn1:¬ W.heap.size=W.heap.size+1:=by omega
 go_enter Tryz.func120,Tryz.ntmps120
 go_wp2_with fail
 refine (HC.out _).mono ?_
 rintro e w1 ⟨rfl,rfl⟩
 go_wp2
 go_ret
 exact⟨rfl,0,_,by rw[alloc_eq_grow,alloc_eq_grow,grow_grow];rfl⟩
def SortE (base:Nat) (v:Value) (O:List En) (W:World) (e:Ending) (w':World):Prop:=e=.returned (.tuple #[])/\∃ T:List En,T.Perm O/\T.Pairwise (fun a b=>lexB b.1 a.1=false)/\w'.ownsRow base 100 2 v O.length (ents T)/\W.grownBy w' v.ownBlock
theorem ybsw : ∀ (args:Array Value) (w:World),(callFunc 120 args).run Tryz.prog w=.ok (.enter 120 args) w:=enters_of Tryz.func120 (by kernel_rfl) rfl
theorem ybus (base:Nat) (v:Value) (O:List En) (W:World) (hown:W.ownsRow base 100 2 v O.length (ents O)) (hl:O.length<=1000000):
  Calls Tryz.prog 119 #[v,.func (.func 120) #[] #[]] W (SortE base v O W):=by
 have hown0:=hown
 obtain⟨h0,⟨rfl,hn⟩ | ⟨g,cap,cur,rfl,hg,hhp,hc,hm,hs,ht⟩⟩:=hown
 ·have hO:O=[]:=List.length_eq_zero_iff.1 hn
  refine (AnyF.slices_SortFunc_none Tryz.laysSortE none 0 (.func (.func 120) #[] #[]) W).mono fun e w' ⟨he,hw⟩=>⟨he,O,List.Perm.refl _,?_,?_,?_⟩
  ·rw[hO];exact List.Pairwise.nil
  ·rw[hw];exact hown0
  ·rw[hw];exact⟨rfl,rfl,rfl,Nat.le_refl _,fun _ _ _=>rfl⟩
 ·have hsz:O.toArray.size=O.length:=by simp
  have hH:HoldsK encE 2 W g 0 O.toArray:=qrs qvv hhp (by rw[hsz];have e:O.toArray.toList.flatMap encE=ents O:=rfl;rw[e];exact ht)
  have hcmp:CmpLays Tryz.prog 120 #[] encE 2 cfE g 0 O.toArray.size W:=fun m os dk _ x y=>ybre x y _
  have key:=AnyQ.slices_SortFunc Tryz.laysSortE 2 Tryz.isAgg100 Tryz.sizeOf100 encE qvv ybro cfE ybrf 120 #[] g 0 cap O.toArray W ybsw hcmp hH (qac hhp) (by rw[hsz];omega)
  rw[hsz]at key
  refine key.mono ?_
  rintro e w' ⟨he,d',n,os,hp,hso,rfl⟩
  have hd:d'.size=O.length:=by rw[hp.1,hsz]
  have hdl:d'.toList.length=O.length:=by simpa using hd
  have hcs:d'.size*2<=cur.size:=by rw[hd,hs];exact Nat.mul_le_mul_right _ hc
  obtain⟨cur',k1,k2,k3⟩:=qjc (enc:=encE) (k:=2) qvv (m:=n) (os:=os) hhp hcs
  refine⟨he,d'.toList,?_,?_,?_,qjd⟩
  ·have:=hp.2.2
   have e1:(d'.extract 0 O.length).toList=d'.toList:=by rw[<-hd];simp
   have e2:(O.toArray.extract 0 O.length).toList=O:=by simp
   rw[e1,e2]at this
   exact this
  ·rw[List.pairwise_iff_getElem]
   intro i j hi hj hij
   rw[hdl]at hi hj
   have h1:=hso i j (Nat.zero_le _) hij hj
   rw[getElem!_pos d' i (by omega),getElem!_pos d' j (by omega)]at h1
   unfold ltOf cfE at h1
   rw[qof]at h1
   rw[Array.getElem_toList,Array.getElem_toList]
   exact h1
  ·refine⟨by rw[qfo,hdl],Or.inr ⟨g,cap,cur',rfl,hg,k1,hc,hm,by rw[k2];exact hs,?_⟩⟩
   rw[hd]at k3
   exact k3
end Go.Proofs.YtpoglnpjadmbpaaGreatDoor
