/- Part of the proofs of FsLinks: the texts JwSort, LiftSort, LiftOps, LiftRun, GOpen. -/
import Derived.Test.YtpoglnpjadmbpaaGreatDoorKA15
import Derived.Test.YtpoglnpjadmbpaaGreatDoorKA18
import Derived.Test.YtpoglnpjadmbpaaGreatDoorKA20
set_option maxHeartbeats 16000000
set_option maxRecDepth 100000
namespace Go.Proofs.YtpoglnpjadmbpaaGreatDoor
open Go.RowKit Go.Sort Go.Shelf
abbrev Js := Fin 256 × Option Addr × Nat × Nat
def encS (x:Js):List Value:=[.int .i64 (x.1.val:Int),.slice x.2.1 x.2.2.1 x.2.2.2]
def cfS (x y:Js):Int:=(x.1.val:Int) - (y.1.val:Int)
theorem qqa (x:Js):(encS x).length=2:=rfl
theorem ybrq (x:Js):∀ v ∈ encS x,v.oneCell'=true:=by
 intro v hv
 simp[encS]at hv
 rcases hv with rfl | rfl <;> rfl
theorem ybwz : SWO (ltOf cfS) where
 irrefl x:=by unfold ltOf cfS;simp
 trans x y z h1 h2:=by unfold ltOf cfS at *;simp at *;omega
 ntrans x y z h1 h2:=by unfold ltOf cfS at *;simp at *;omega
theorem ybrg (x y:Js) (W:World):
  Calls Tryz.prog 109 #[.agg (encS x).toArray,.agg (encS y).toArray] W fun e w'=>e=.returned (.int .i64 (cfS x y))/\∃ q os',w'=grow (W.drewN q) os':=by
 unfold cfS encS
 obtain⟨⟨x1,hx⟩,x2,x3,x4⟩:=x
 obtain⟨⟨y1,hy⟩,y2,y3,y4⟩:=y
 have i1:IntKind.i64.wrap ((x1:Int) - (y1:Int))=(x1:Int) - (y1:Int):=IntWalk.i64_in _ (by omega)
 have hn1:¬ W.heap.size=W.heap.size+1:=by omega
 go_enter Tryz.func109,Tryz.ntmps109
 go_wp2
 go_ret
 exact⟨rfl,0,_,by rw[alloc_eq_grow,alloc_eq_grow,grow_grow];rfl⟩
def SortS (base:Nat) (v:Value) (O:List Js) (W:World) (e:Ending) (w':World):Prop:=e=.returned (.tuple #[])/\∃ T:List Js,T.Perm O/\T.Pairwise (fun a b=>a.1.val<=b.1.val)/\w'.ownsRow base 169 2 v O.length (T.flatMap encS)/\W.grownBy w' v.ownBlock
theorem ycae : ∀ (args:Array Value) (w:World),(callFunc 109 args).run Tryz.prog w=.ok (.enter 109 args) w:=enters_of Tryz.func109 (by kernel_rfl) rfl
theorem ybpb (base:Nat) (v:Value) (O:List Js) (W:World) (hown:W.ownsRow base 169 2 v O.length (O.flatMap encS)) (hl:O.length<=1000000):
  Calls Tryz.prog 108 #[v,.func (.func 109) #[] #[]] W (SortS base v O W):=by
 have hown0:=hown
 obtain⟨h0,⟨rfl,hn⟩ | ⟨g,cap,cur,rfl,hg,hhp,hc,hm,hs,ht⟩⟩:=hown
 ·have hO:O=[]:=List.length_eq_zero_iff.1 hn
  refine (AnyF.slices_SortFunc_none Tryz.laysSortW none 0 (.func (.func 109) #[] #[]) W).mono fun e w' ⟨he,hw⟩=>⟨he,O,List.Perm.refl _,?_,?_,?_⟩
  ·rw[hO];exact List.Pairwise.nil
  ·rw[hw];exact hown0
  ·rw[hw];exact⟨rfl,rfl,rfl,Nat.le_refl _,fun _ _ _=>rfl⟩
 ·have hsz:O.toArray.size=O.length:=by simp
  have hH:HoldsK encS 2 W g 0 O.toArray:=qrs qqa hhp (by rw[hsz];exact ht)
  have hcmp:CmpLays Tryz.prog 109 #[] encS 2 cfS g 0 O.toArray.size W:=fun m os dk _ x y=>ybrg x y _
  have key:=AnyQ.slices_SortFunc Tryz.laysSortW 2 Tryz.isAgg169 Tryz.sizeOf169 encS qqa ybrq cfS ybwz 109 #[] g 0 cap O.toArray W ycae hcmp hH (qac hhp) (by rw[hsz];omega)
  rw[hsz]at key
  refine key.mono ?_
  rintro e w' ⟨he,d',n,os,hp,hso,rfl⟩
  have hd:d'.size=O.length:=by rw[hp.1,hsz]
  have hdl:d'.toList.length=O.length:=by simpa using hd
  have hcs:d'.size*2<=cur.size:=by rw[hd,hs];exact Nat.mul_le_mul_right _ hc
  obtain⟨cur',k1,k2,k3⟩:=qjc (enc:=encS) (k:=2) qqa (m:=n) (os:=os) hhp hcs
  refine⟨he,d'.toList,?_,?_,?_,qjd⟩
  ·have:=hp.2.2
   have e1:(d'.extract 0 O.length).toList=d'.toList:=by rw[<-hd];simp
   have e2:(O.toArray.extract 0 O.length).toList=O:=by simp
   rw[e1,e2]at this
   exact this
  ·rw[List.pairwise_iff_getElem]
   intro i j hi hj hij
   rw[hdl]at hi hj
   have h1:=hso i j (Nat.zero_le _) hij hj
   rw[getElem!_pos d' i (by omega),getElem!_pos d' j (by omega)]at h1
   unfold ltOf cfS at h1
   simp at h1
   rw[Array.getElem_toList,Array.getElem_toList]
   omega
  ·refine⟨by rw[qvz qqa,hdl],Or.inr ⟨g,cap,cur',rfl,hg,k1,hc,hm,by rw[k2];exact hs,?_⟩⟩
   rw[hd]at k3
   exact k3
theorem ybxb (h:Nat):SWO (ltOf (cfK h)) where
 irrefl x:=by unfold ltOf cfK;simp
 trans x y z h1 h2:=by unfold ltOf cfK at *;simp at *;omega
 ntrans x y z h1 h2:=by unfold ltOf cfK at *;simp at *;omega
theorem ybpc : qly:=by
 intro gh h base v O W hh hown hbox hl
 have hown0:=hown
 obtain⟨h0,⟨rfl,hn⟩ | ⟨g,cap,cur,rfl,hg,hhp,hc,hm,hs,ht⟩⟩:=hown
 ·have hO:O=[]:=List.length_eq_zero_iff.1 hn
  refine (AnyF.slices_SortFunc_none Tryz.laysSortR none 0 (.func (.func 203) #[] #[.pointer (some ⟨gh,0,none⟩)]) W).mono fun e w' ⟨he,hw⟩=>⟨he,O,List.Perm.refl _,?_,?_,?_⟩
  ·rw[hO];exact List.Pairwise.nil
  ·rw[hw];exact hown0
  ·rw[hw];exact⟨rfl,rfl,rfl,Nat.le_refl _,fun _ _ _=>rfl⟩
 ·have hsz:O.toArray.size=O.length:=by simp
  have hH:HoldsK encK 3 W g 0 O.toArray:=qrs qpy hhp (by rw[hsz];simpa using ht)
  have hne:gh ≠ g:=qam hbox hhp (by decide)
  have hcmp:CmpLays Tryz.prog 203 #[.pointer (some ⟨gh,0,none⟩)] encK 3 (cfK h) g 0 O.toArray.size W:=fun m os dk _ x y=>ybxa gh h hh x y _ (by
   rw[cell?_sortWorldK_other encK 3 W g 0 m dk os ⟨gh,0,none⟩ hne (qac hbox)]
   exact cell_of_row _ _ _ _ _ _ hbox)
  have eg:∀ args w,(callFunc 203 args).run Tryz.prog w=.ok (.enter 203 args) w:=enters_of Tryz.func203 (by kernel_rfl) rfl
  have key:=AnyQ.slices_SortFunc Tryz.laysSortR 3 Tryz.isAgg171 Tryz.sizeOf171 encK qpy ybrp (cfK h) (ybxb h) 203 #[.pointer (some ⟨gh,0,none⟩)] g 0 cap O.toArray W eg hcmp hH (qac hhp) (by rw[hsz];omega)
  rw[hsz]at key
  refine key.mono ?_
  rintro e w' ⟨he,d',n,os,hp,hso,rfl⟩
  have hd:d'.size=O.length:=by rw[hp.1,hsz]
  have hdl:d'.toList.length=O.length:=by simpa using hd
  have hcs:d'.size*3<=cur.size:=by rw[hd,hs];exact Nat.mul_le_mul_right _ hc
  obtain⟨cur',k1,k2,k3⟩:=qjc (enc:=encK) (k:=3) qpy (m:=n) (os:=os) hhp hcs
  refine⟨he,d'.toList,?_,?_,?_,qjd⟩
  ·have:=hp.2.2
   have e1:(d'.extract 0 O.length).toList=d'.toList:=by rw[<-hd];simp
   have e2:(O.toArray.extract 0 O.length).toList=O:=by simp
   rw[e1,e2]at this
   exact this
  ·rw[List.pairwise_iff_getElem]
   intro i j hi hj hij
   rw[hdl]at hi hj
   have h1:=hso i j (Nat.zero_le _) hij hj
   rw[getElem!_pos d' i (by omega),getElem!_pos d' j (by omega)]at h1
   unfold ltOf cfK at h1
   simp at h1
   rw[Array.getElem_toList,Array.getElem_toList]
   omega
  ·rw[hdl]
   refine⟨by rw[qvz qpy,hdl],Or.inr ⟨g,cap,cur',rfl,hg,k1,hc,hm,by rw[k2];exact hs,?_⟩⟩
   rw[hd]at k3
   exact k3
end Go.Proofs.YtpoglnpjadmbpaaGreatDoor
namespace Go.Proofs.YtpoglnpjadmbpaaGreatDoor
open Go.RowKit
theorem ybnw (v:Value) (E:List Rq) (h:Nat) (hh:h<256) (w:World) (hv:qge w v E) (hE:∀ x ∈ E,RqOk w x) (hl:E.length<=100):
  Calls Tryz.prog 151 #[v,.int .i64 (h:Int)] w (qvk (E.map rab) h w):=ybnx ybpc v E h hh w hv hE hl
theorem qfn {B:Nat} {a w:World} (h:Below B a w) (n:Nat):Below B a (w.drewN n):=⟨h.os,h.tape,h.output,h.size,h.block⟩
theorem qaw.drewN {w:World} {d:Value} {st:Dk} {k:Nat} {F:Nat->Prop} (h:qaw w d st k F) (n:Nat):qaw (w.drewN n) d st k F:=h.keep (G:=fun _=>False) ⟨rfl,rfl,rfl,Nat.le_refl _,fun _ _ _=>rfl⟩ (fun _ _ h=>h)
theorem rb_of {w:World} {x:Rq} (h:RqOk w x) {k:Nat} (hk:x.b=false->x.n<k):RbOk k (rab x):=by
 rcases h with⟨h1,_⟩ | ⟨h1,h2,h3,h4⟩
 ·exact Or.inl h1
 ·exact Or.inr ⟨hk h1,h4⟩
theorem ybty {k:Nat} (hk:k<=256) {l:List Rb} (hl:∀ x ∈ l,RbOk k x):∀ x ∈ qii l 0,RbOk k x:=(yboy hk l 0 (by omega) (qbr k) (ybsi k) hl).2
theorem Did.start {d:Value} {st:Dk} {k:Nat} {F:Nat->Prop} {w w':World} (h:qaw w d st k F) (hb:Below w.heap.size w w'):Did d st k F w' w':=⟨F,h.below hb,fun _ h=>Or.inl h,qab.refl _ _⟩
theorem ybzn {w3 wr:World} {base:Nat} {F:Nat->Prop} {x:Rq} (h:qoc w3 base x) (hb:x.b=false) (hk:qab F w3 wr) (hF:∀ i,F i->i<base):∃ gx cx cur,x.v=.slice (some ⟨gx,0,none⟩) 64 cx/\base<=gx/\gx<w3.heap.size/\x.D.length=64/\wr.heap[gx]? = some (.cells cur 5 (0,0))/\cur.toList.take 64=u8s x.D:=by
 rcases h with⟨h4,_⟩ | ⟨_,_,hD,gx,cx,cur,hxv,hcx,hgx,htx⟩
 ·rw[hb]at h4;cases h4
 ·exact⟨gx,cx,cur,hxv,hcx.1,qac hgx,hD,(hk.block gx (qac hgx) (fun h=>by have:=hF gx h;have:=hcx.1;omega)).trans hgx,htx⟩
theorem ybzo {w:World} {a:Addr} {st:Dk} {k:Nat} {F:Nat->Prop} (h:qaw w (.pointer (some a)) st k F) (v:Value) (E:List Rq) (hv:qge w v E) (hE:∀ x ∈ E,RqOk w x) (hk:∀ x ∈ E,x.b=false->x.n<k) (hk2:k<=256) (hl:E.length<=100) (hW:st.W.length<900000):
  Calls Tryz.prog 107 #[.pointer (some a),v] w fun e w'=>e=.returned (.int .i64 0)/\Did (.pointer (some a)) (runE st (qii (E.map rab) 0)) k F w w':=by
 have HD:=Lib.hid h
 have HFL:=Lib.hid h.fin
 have HE:=Lib.hid hE
 have HK:=Lib.hid hk
 have HOR:=Lib.hid (fun W (hW:Below w.heap.size w W)=>ybnw v E 0 (by omega) W (hv.below hW) (fun x hx=>(hE x hx).below hW) hl)
 unfold qvk at HOR
 have HRB:Hid (∀ x ∈ qii (E.map rab) 0,RbOk k x):=ybty hk2 fun x hx=>by
  obtain⟨y,hy,rfl⟩:=List.mem_map.1 hx
  exact rb_of (hE y hy) (hk y hy)
 have hlo:(qii (E.map rab) 0).length<=E.length:=by
  have:=qoq (E.map rab) 0 (by omega)
  rw[List.length_map]at this
  exact this
 obtain⟨p,cp,rfl,HP⟩:=qwu hv.row
 obtain⟨N,HN⟩:∃ N,Hid (E.length=N):=⟨_,rfl⟩
 rw[HN.out]at hl HP HOR hlo
 rw[HN.out]
 generalize qii (E.map rab) 0=O at *
 clear hv hE hk h
 go_enter Tryz.func107,Tryz.ntmps107
 go_wp2
 go_loopw [14] (fun i wr=>∃ j:Nat,j<=N/\i=.int .i64 j/\Below w.heap.size w wr) (fun i _=>N - (intOf i).toNat)
 case atStart=>exact⟨0,Nat.zero_le _,rfl,Below.refl _ _⟩
 case round=>
  obtain⟨j,hj,rfl,HB⟩:=hrel
  by_cases hlt:j<N
  ·obtain⟨g,o,rfl,hg,hc⟩:=HP.out (by omega)
   have hkl:j<E.length:=by rw[HN.out];exact hlt
   obtain⟨e0,e1,e2⟩:=qfi E j hkl
   obtain⟨px,lx,cx,hxs,_,hxn⟩:=(HE.out E[j] (List.getElem_mem hkl)).shape
   rw[hxs]at e1
   have c0:=(HB.cell (p:=⟨g,o+j*3,none⟩) hg).trans (hc _ _ e0)
   have c1:=(HB.cell (p:=⟨g,o+(j*3+1),none⟩) hg).trans (hc _ _ e1)
   have c2:=(HB.cell (p:=⟨g,o+(j*3+2),none⟩) hg).trans (hc _ _ e2)
   rw[<-Nat.add_assoc]at c1 c2
   have hxk:=HK.out E[j] (List.getElem_mem hkl)
   obtain⟨xn,Hxn⟩:∃ q,Hid (E[j].n=q):=⟨E[j].n,rfl⟩
   obtain⟨xb,Hxb⟩:∃ q,Hid (E[j].b=q):=⟨E[j].b,rfl⟩
   rw[Hxn.out]at c0 hxn hxk
   rw[Hxb.out]at c2 hxk
   have hlt2:(j:Int)<(N:Int):=by omega
   have hgl:g<wr.heap.size:=Nat.lt_of_lt_of_le hg HB.size
   have hgn:¬ g=wr.heap.size:=by omega
   have HBA:Hid (Below w.heap.size w (wr.alloc (.cells #[.int .i64 (xn:Int),.slice px lx cx,.bool xb] 171))):=HB.alloc HB.size _
   have HSZ:Hid (∀ n,Calls Tryz.prog 41 #[.pointer (some a)] ((wr.alloc (.cells #[.int .i64 (xn:Int),.slice px lx cx,.bool xb] 171)).drewN n) fun e w'=>e=.returned (.int .i64 (k:Int))/\w'=(wr.alloc (.cells #[.int .i64 (xn:Int),.slice px lx cx,.bool xb] 171)).drewN n):=fun n=>(qfz ((HD.out.below HBA.out).drewN n)).mono fun e w' h=>⟨h.1,h.2.symm⟩
   clear hc e0 e1 e2 hxs
   cases xb with
   | true=>
    clear hxk
    go_wp2
    go_quiet (fail)
    go_wp2
    go_roundw
    case rel=>exact⟨j+1,by omega,by go_num,qfn HBA.out _⟩
    case measure=>simp[intOf];omega
   | false=>
    have hxk2:=hxk rfl
    have b1:decide ((xn:Int)<0)=false:=by rw[decide_eq_false_iff_not];omega
    have b2:decide ((k:Int)<=(xn:Int))=false:=by rw[decide_eq_false_iff_not];omega
    have b3:¬ (k:Int)<=(xn:Int):=by omega
    have b4:¬ k<=xn:=by omega
    clear hxk
    go_wp2
    go_quiet ((go_at_call 41;exact Calls.quiet_of_same (HSZ.out _)))
    go_wp2
    go_roundw
    case rel=>exact⟨j+1,by omega,by go_num,qfn HBA.out _⟩
    case measure=>simp[intOf];omega
  ·go_wp2_with fail
   refine (HOR.out _ HB).mono ?_
   rintro e w3 ⟨v3,rfl,ho3,hb3⟩
   have HB3:Hid (Below w.heap.size w w3):=Below.step HB hb3
   have HST:Hid (Did (.pointer (some a)) (runE st (O.take 0)) k F w3 w3):=Did.start HD.out HB3.out
   have hzr:=HB.size
   obtain⟨B,hBe⟩:∃ B,wr.heap.size=B:=⟨_,rfl⟩
   rw[hBe]at hzr ho3
   have hFb:∀ i,F i->i<B:=fun i hi=>Nat.lt_of_lt_of_le (HFL.out i hi) hzr
   obtain⟨E6,hE6,ho6,hn6⟩:=ho3
   have hL6:=ybdk hE6
   obtain⟨q,cp6,rfl,hq⟩:=qat ho6
   obtain⟨L,HL⟩:∃ L,Hid (E6.length=L):=⟨_,rfl⟩
   have HQ:Hid (0<L->∃ g,q=some ⟨g,0,none⟩/\g<w3.heap.size/\B<=g/\∀ (j:Nat) (x:Value),(qbe E6)[j]? = some x->w3.cell? ⟨g,j,none⟩=some x):=fun h0=>by
    obtain⟨g,rfl,hg,hc⟩:=hq (by rw[HL.out];exact h0)
    exact⟨g,rfl,(ho6.lt g rfl).2,hg,hc⟩
   rw[HL.out]
   rw[HL.out]at hL6
   have hL100:L<=100:=by omega
   have HE6:=Lib.hid hE6
   have HN6:=Lib.hid hn6
   have HFB:=Lib.hid hFb
   have HOL:=Lib.hid hL6
   have HWW:=Lib.hid hW
   clear hE6 ho6 hn6 hq hb3 hFb hL6 hlo hBe HB
   go_wp2
   go_loopw [44] (fun i wq=>∃ j:Nat,j<=L/\i=.int .i64 j/\Hid (Did (.pointer (some a)) (runE st (O.take j)) k F w3 wq)) (fun i _=>L - (intOf i).toNat)
   case atStart=>exact⟨0,Nat.zero_le _,rfl,HST⟩
   case round=>
    obtain⟨j,hj,rfl,HR⟩:=hrel
    by_cases hlt:j<L
    ·obtain⟨g,rfl,hg,hgb,hc⟩:=HQ.out (by omega)
     have hkl:j<E6.length:=by rw[HL.out];exact hlt
     have hko:j<O.length:=by rw[<-HOL.out];exact hlt
     obtain⟨F',hd',hF',hk'⟩:=HR.out
     obtain⟨e0,e1,e2⟩:=qfi E6 j hkl
     have hnF:¬ F g:=fun h=>by have:=HFB.out g h;omega
     have c0:=(hk'.cell hg hnF).trans (hc _ _ e0)
     have c2:=(hk'.cell hg hnF).trans (hc _ _ e2)
     have c1:=(hk'.cell hg hnF).trans (hc _ _ e1)
     have hrb:rab E6[j]=O[j]:=by
      have h1:(E6.map rab)[j]? = O[j]? :=by rw[HE6.out]
      rw[List.getElem?_map,List.getElem?_eq_getElem hkl,List.getElem?_eq_getElem hko]at h1
      simpa using h1
     have hxr:=HRB.out O[j] (List.getElem_mem hko)
     rw[<-hrb]at hxr
     have HTK:Hid (runE st (O.take (j+1))=doE (runE st (O.take j)) (rab E6[j])):=by
      show _=_
      rw[<-List.take_append_getElem hko,qsr,hrb]
     have hx6:=HN6.out E6[j] (List.getElem_mem hkl)
     have hgl:g<wr.heap.size:=Nat.lt_of_lt_of_le hg hk'.size
     have hgn:¬ g=wr.heap.size:=by omega
     have hlt2:(j:Int)<(L:Int):=by omega
     have hWj:(runE st (O.take j)).W.length<1000000:=by
      have h1:=ybfy st (O.take j)
      have h2:=List.length_take_le j O
      have h3:=HWW.out
      omega
     have HX6:=Lib.hid hx6
     have HXR:=Lib.hid hxr
     have HD':=Lib.hid hd'
     have HF':=Lib.hid hF'
     have HK':=Lib.hid hk'
     have HWJ:=Lib.hid hWj
     clear hc e0 e1 e2 hrb hx6 hd' hF' hk' hxr HR hWj
     obtain⟨xb,Hxb⟩:∃ q,Hid (E6[j].b=q):=⟨E6[j].b,rfl⟩
     obtain⟨xn,Hxn⟩:∃ q,Hid (E6[j].n=q):=⟨E6[j].n,rfl⟩
     rw[Hxb.out]at c2
     rw[Hxn.out]at c0
     cases xb with
     | true=>
      have hv6:E6[j].v=.slice none 0 0:=by
       rcases HX6.out with⟨_,_,h,_⟩ | ⟨h,_⟩
       ·exact h
       ·rw[Hxb.out]at h;cases h
      rw[hv6]at c1
      have HDA:=Lib.hid (HD'.out.below ((Below.refl _ _).alloc (Nat.le_refl _) (.cells #[.int .i64 (xn:Int),.slice none 0 0,.bool true] 171)))
      have HDO:Hid (doE (runE st (O.take j)) (rab E6[j])=qfu (runE st (O.take j))):=by
       show _=_
       unfold doE
       rw[if_pos (show (rab E6[j]).2.2=true from Hxb.out)]
      clear hv6
      go_wp2_with fail
      refine (qwa HDA.out).mono ?_
      rintro e wq ⟨rfl,hdid⟩
      have HNX:Hid (Did (.pointer (some a)) (runE st (O.take (j+1))) k F w3 wq):=by
       show Did _ _ _ _ _ _
       rw[HTK.out,HDO.out]
       exact Did.trans (HK'.out.step (qab.alloc _)) HF'.out hdid
      clear hdid
      go_wp2
      go_roundw
      case rel=>exact⟨j+1,by omega,by go_num,HNX⟩
      case measure=>simp[intOf];omega
     | false=>
      obtain⟨gx,cx,cur,hxv,hgx1,hgx2,hD64,hhx,htx⟩:=ybzn HX6.out Hxb.out HK'.out HFB.out
      rw[hxv]at c1
      have hxk:xn<k:=by
       rcases HXR.out with h | ⟨h,_⟩
       ·rw[show (rab E6[j]).2.2=E6[j].b from rfl,Hxb.out]at h;cases h
       ·rw[<-Hxn.out];exact h
      have hnF2:¬ F' gx:=fun h=>by
       rcases HF'.out gx h with h | h
       ·have:=HFB.out gx h;omega
       ·omega
      have hgz:gx<(wr.alloc (.cells #[.int .i64 (xn:Int),.slice (some ⟨gx,0,none⟩) 64 cx,.bool false] 171)).heap.size:=by
       have:=qac hhx
       simp;omega
      have HDA:=Lib.hid (HD'.out.below ((Below.refl _ _).alloc (Nat.le_refl _) (.cells #[.int .i64 (xn:Int),.slice (some ⟨gx,0,none⟩) 64 cx,.bool false] 171)))
      have HWR:=Lib.hid (qhq HDA.out xn hxk (.slice (some ⟨gx,0,none⟩) 64 cx) E6[j].D hD64 (fun w' hk=>qav hD64 ((hk.block gx hgz hnF2).trans (qad hhx _)) htx) HWJ.out)
      have HDO:Hid (doE (runE st (O.take j)) (rab E6[j])=qcb (runE st (O.take j)) xn E6[j].D):=by
       show _=_
       unfold doE
       rw[if_neg (by rw[show (rab E6[j]).2.2=E6[j].b from rfl,Hxb.out];simp),<-Hxn.out]
       rfl
      clear hxv hgx1 hgx2 hD64 hhx htx hxk hnF2 hgz
      go_wp2_with fail
      refine HWR.out.mono ?_
      rintro e wq ⟨rfl,hdid⟩
      have HNX:Hid (Did (.pointer (some a)) (runE st (O.take (j+1))) k F w3 wq):=by
       show Did _ _ _ _ _ _
       rw[HTK.out,HDO.out]
       exact Did.trans (HK'.out.step (qab.alloc _)) HF'.out hdid
      clear hdid
      go_wp2
      go_roundw
      case rel=>exact⟨j+1,by omega,by go_num,HNX⟩
      case measure=>simp[intOf];omega
    ·have HT:Hid (O.take j=O):=List.take_of_length_le (by rw[<-HOL.out];omega)
     rw[HT.out]at HR
     go_wp2
     go_ret
     exact⟨rfl,Did.trans (qab.of_below HB3.out) (fun _ h=>Or.inl h) HR.out⟩
def okO (N:List Int):Bool:=qpw N && qwv N
def seqO (N:List Int):Int:=if qpw N=true then qfy N else 0
def ybcx (N:List Int):List Wr:=if okO N=true then qsu N (qku N) else []
def qwl (st:Dk):Dk:=runE st (emit (ybcx st.N))
def ybav (x:Wr):Prop:=x.1<80/\(x.1<5\/37<=x.1)
def logC (a:Addr) (sq:Int):Array Value:=#[.pointer (some a),.int .i64 5,.int .i64 32,.int .u32 sq]
def ybea (a:Addr) (st:Dk) (sq:Int) (F:Nat->Prop) (gl:Nat) (w w':World):Prop:=
 ∃ F',qaw w' (.pointer (some a)) st 80 F'/\(∀ i,F' i->F i\/w.heap.size<=i)/\¬ F' gl/\qab F w w'/\w'.heap[gl]? = some (.cells (logC a sq) 165 (0,0))
theorem ybhd (P:List Wr) (x:Wr):emit (P++[x])=emit P++[(x.1,x.2,false)]:=by unfold emit;rw[List.map_append];rfl
theorem qrd (st:Dk) (n:Nat) (D:List Int):doE st (n,D,false)=qcb st n D:=by unfold doE;rw[if_neg (by simp)]
theorem qtv (st:Dk) (P:List Wr) (x:Wr):runE st (emit (P++[x]))=qcb (runE st (emit P)) x.1 x.2:=by rw[ybhd,qsr,qrd]
theorem ybcl {w3 wr:World} {base:Nat} {F:Nat->Prop} {x:Jw} (h:qjl w3 base x) (hk:qab F w3 wr) (hF:∀ i,F i->i<base):∃ gx cx cur,x.v=.slice (some ⟨gx,0,none⟩) 64 cx/\base<=gx/\gx<w3.heap.size/\wr.heap[gx]? = some (.cells cur 5 (0,0))/\cur.toList.take 64=u8s x.D:=by
 obtain⟨_,_,gx,cx,cur,hxv,hcx,hgx,htx⟩:=h
 exact⟨gx,cx,cur,hxv,hcx.1,qac hgx,(hk.block gx (qac hgx) (fun h=>by have:=hF gx h;have:=hcx.1;omega)).trans hgx,htx⟩
theorem ybyz {w:World} {a:Addr} {st:Dk} {F:Nat->Prop} (h:qaw w (.pointer (some a)) st 80 F) (hN:qco st.N) (hg:∀ x ∈ ybcx st.N,ybav x) (hW:st.W.length<900000):
  Calls Tryz.prog 70 #[.pointer (some a),.int .i64 5,.int .i64 32] w fun e w'=>∃ gl,e=.returned (.tuple #[.pointer (some ⟨gl,0,none⟩),.int .i64 0])/\w.heap.size<=gl/\ybea a (qwl st) (seqO st.N) F gl w w':=by
 have HD:=Lib.hid h
 have HFL:=Lib.hid h.fin
 have HSC:=Lib.hid (ybur h hN)
 have HGD:=Lib.hid hg
 have HWW:=Lib.hid hW
 clear h hN hg hW
 go_enter Tryz.func70,Tryz.ntmps70
 go_wp2_with fail
 refine HSC.out.mono ?_
 intro e w1 hres
 unfold ybax at hres
 have HL0:∀ (w1:World) (sq:Int),Below w.heap.size w w1->okO st.N=false->seqO st.N=sq->ybea a (qwl st) (seqO st.N) F w1.heap.size w (w1.alloc (.cells (logC a sq) 165)):=fun w1 sq hb hok hsq=>by
  have e:qwl st=st:=by unfold qwl ybcx;rw[hok,if_neg (by simp)];rfl
  rw[e,hsq]
  refine⟨F,(HD.out.below hb).below ((Below.refl _ _).alloc (Nat.le_refl _) _),fun _ h=>Or.inl h,fun h=>?_,(qab.of_below hb).step (qab.alloc _),heap_alloc_new _ _⟩
  have h1:=HFL.out _ h
  have h2:=hb.size
  omega
 rcases hres with⟨s1,rfl,hb⟩ | ⟨s1,s2,rfl,hb⟩ | ⟨s1,s2,v,E,rfl,hE,hJ,hb⟩
 ·have HLD:=Lib.hid (HL0 w1 0 hb (by unfold okO;rw[s1];rfl) (by unfold seqO;rw[if_neg (by rw[s1];simp)]))
  have HB:=Lib.hid hb
  clear HL0 hb s1
  go_wp2
  go_ret2
  exact⟨_,rfl,HB.out.size,HLD.out⟩
 ·have HLD:=Lib.hid (HL0 w1 (qfy st.N) hb (by unfold okO;rw[s2];simp) (by unfold seqO;rw[if_pos s1]))
  have HB:=Lib.hid hb
  clear HL0 hb s1 s2
  go_wp2
  go_ret2
  exact⟨_,rfl,HB.out.size,HLD.out⟩
 ·have hok:okO st.N=true:=by unfold okO;rw[s1,s2];rfl
  have HOL:Hid (ybcx st.N=E.map jab):=by show _=_;unfold ybcx;rw[if_pos hok,hE]
  have HSQ:Hid (seqO st.N=qfy st.N):=by show _=_;unfold seqO;rw[if_pos s1]
  have HOE:Hid (qwl st=runE st (emit (E.map jab))):=by show _=_;unfold qwl;rw[HOL.out]
  have HGE:Hid (∀ x ∈ E,ybav (jab x)):=fun x hx=>HGD.out _ (by rw[HOL.out];exact List.mem_map.2 ⟨x,hx,rfl⟩)
  have hEl:E.length<=30:=by
   have h1:=congrArg List.length hE
   rw[List.length_map,qsv]at h1
   unfold qpw at s1
   simp only[Bool.and_eq_true,decide_eq_true_eq]at s1
   omega
  obtain⟨p,cp,rfl,HP⟩:=qqe (qai.of_owns hJ.1)
  obtain⟨N,HNN⟩:∃ N,Hid (E.length=N):=⟨_,rfl⟩
  rw[HNN.out]at HP hEl
  rw[HNN.out]
  have HJ2:=Lib.hid hJ.2
  have HOWN:=Lib.hid hJ.1
  have HB1:=Lib.hid hb
  generalize qfy st.N=sq at *
  clear hJ hb hE s1 s2 hok HL0 HSC HGD HOL
  go_wp2
  go_loopw [31] (fun i wr=>∃ k:Nat,k<=N/\i=.int .i64 k/\Hid (Below w1.heap.size w1 wr)) (fun i _=>N - (intOf i).toNat)
  case atStart=>exact⟨0,Nat.zero_le _,rfl,Below.refl _ _⟩
  case round=>
   obtain⟨k,hk,rfl,HB⟩:=hrel
   by_cases hlt:k<N
   ·obtain⟨g,o,rfl,hg,hc⟩:=HP.out (by omega)
    have hkl:k<E.length:=by rw[HNN.out];exact hlt
    obtain⟨e0,e1⟩:=qgo E k hkl
    have hfr:=HGE.out E[k] (List.getElem_mem hkl)
    obtain⟨px,cx,hxs⟩:=(qjl.ok (HJ2.out E[k] (List.getElem_mem hkl))).shape
    generalize E[k]=x at e0 e1 hfr hxs
    obtain⟨xn,xv,xD⟩:=x
    dsimp only at hxs e0 e1
    subst hxs
    have c0:=(HB.out.cell (p:=⟨g,o+k*2,none⟩) hg).trans (hc _ _ e0)
    have c1:=(HB.out.cell (p:=⟨g,o+(k*2+1),none⟩) hg).trans (hc _ _ e1)
    rw[<-Nat.add_assoc]at c1
    obtain⟨hn20,hn28⟩:xn<80/\(xn<5\/37<=xn):=hfr
    have hlt2:(k:Int)<(N:Int):=by omega
    have hgl:g<wr.heap.size:=Nat.lt_of_lt_of_le hg HB.out.size
    have hgn:¬ g=wr.heap.size:=by omega
    have HBA:Hid (Below w1.heap.size w1 (wr.alloc (.cells #[.int .i64 (xn:Int),.slice px 64 cx] 169))):=HB.out.alloc HB.out.size _
    have HSZ:Hid (∀ n,Calls Tryz.prog 41 #[.pointer (some a)] ((wr.alloc (.cells #[.int .i64 (xn:Int),.slice px 64 cx] 169)).drewN n) fun e w'=>e=.returned (.int .i64 ((80:Nat):Int))/\w'=(wr.alloc (.cells #[.int .i64 (xn:Int),.slice px 64 cx] 169)).drewN n):=fun n=>(qfz ((HD.out.below (Below.step HB1.out HBA.out)).drewN n)).mono fun e w' h=>⟨h.1,h.2.symm⟩
    have d1:decide ((80:Int)<=(xn:Int))=false:=by rw[decide_eq_false_iff_not];omega
    have d1':decide (80<=xn)=false:=by rw[decide_eq_false_iff_not];omega
    clear hc e0 e1
    by_cases h2:xn<5
    ·have d2:decide ((5:Int)<=(xn:Int))=false:=by rw[decide_eq_false_iff_not];omega
     have d2':decide (5<=xn)=false:=by rw[decide_eq_false_iff_not];omega
     clear h2 hn28
     go_wp2
     go_quiet ((go_at_call 41;exact Calls.quiet_of_same (HSZ.out _)))
     go_wp2
     go_roundw
     case rel=>exact⟨k+1,by omega,by go_num,qfn HBA.out _⟩
     case measure=>simp[intOf];omega
    ·have h8:37<=xn:=by omega
     have d2:decide ((5:Int)<=(xn:Int))=true:=by rw[decide_eq_true_iff];omega
     have d2':decide (5<=xn)=true:=by rw[decide_eq_true_iff];omega
     have d3:decide ((xn:Int)<37)=false:=by rw[decide_eq_false_iff_not];omega
     have d3':decide (xn<37)=false:=by rw[decide_eq_false_iff_not];omega
     clear h2 hn28
     go_wp2
     go_quiet ((go_at_call 41;exact Calls.quiet_of_same (HSZ.out _)))
     go_wp2
     go_roundw
     case rel=>exact⟨k+1,by omega,by go_num,qfn HBA.out _⟩
     case measure=>simp[intOf];omega
   ·have HST:Hid (Did (.pointer (some a)) (runE st (emit ((E.take 0).map jab))) 80 F w1 wr):=
     ⟨F,HD.out.below (Below.step HB1.out HB.out),fun _ h=>Or.inl h,qab.of_below HB.out⟩
    have hFb:∀ i,F i->i<w.heap.size:=HFL.out
    have HFB:=Lib.hid hFb
    have bKn:decide (k<N)=false:=by rw[decide_eq_false_iff_not];exact hlt
    clear HB hFb
    go_wp2
    go_loopw [57] (fun i wq=>∃ j:Nat,j<=N/\i=.int .i64 j/\Hid (Did (.pointer (some a)) (runE st (emit ((E.take j).map jab))) 80 F w1 wq)) (fun i _=>N - (intOf i).toNat)
    case atStart=>exact⟨0,Nat.zero_le _,rfl,HST⟩
    case round=>
     obtain⟨j,hj,rfl,HR⟩:=hrel
     by_cases hlt:j<N
     ·obtain⟨g,o,rfl,hg,hc⟩:=HP.out (by omega)
      have hkl:j<E.length:=by rw[HNN.out];exact hlt
      obtain⟨F',hd',hF',hk'⟩:=HR.out
      obtain⟨e0,e1⟩:=qgo E j hkl
      have hgo:w.heap.size<=g:=(HOWN.out.lt g rfl).1
      have hnF:¬ F g:=fun h=>by have:=HFB.out g h;omega
      have c0:=(hk'.cell hg hnF).trans (hc _ _ e0)
      have c1:=(hk'.cell hg hnF).trans (hc _ _ e1)
      rw[<-Nat.add_assoc]at c1
      have hfr:=HGE.out E[j] (List.getElem_mem hkl)
      have hnew:=HJ2.out E[j] (List.getElem_mem hkl)
      have HTK:Hid (runE st (emit ((E.take (j+1)).map jab))=qcb (runE st (emit ((E.take j).map jab))) E[j].n E[j].D):=by
       show _=_
       rw[<-List.take_append_getElem hkl,List.map_append]
       exact qtv _ _ _
      generalize E[j]=x at e0 e1 c0 c1 hfr hnew HTK
      obtain⟨xn,xv,xD⟩:=x
      obtain⟨gx,cx,cur,hxv,hgx1,hgx2,hhx,htx⟩:=ybcl hnew hk' HFB.out
      dsimp only at hxv c0 c1 HTK htx
      subst hxv
      have hn20:xn<80:=hfr.1
      have hD64:xD.length=64:=hnew.2.1
      have hgl:g<wr.heap.size:=Nat.lt_of_lt_of_le hg hk'.size
      have hgn:¬ g=wr.heap.size:=by omega
      have hlt2:(j:Int)<(N:Int):=by omega
      have hWj:(runE st (emit ((E.take j).map jab))).W.length<1000000:=by
       have h1:=ybfy st (emit ((E.take j).map jab))
       rw[show (emit ((E.take j).map jab)).length=(E.take j).length by simp[emit]]at h1
       have h2:=List.length_take_le j E
       have h3:=HWW.out
       omega
      have hnF2:¬ F' gx:=fun h=>by
       rcases hF' gx h with h | h
       ·have:=HFB.out gx h;omega
       ·omega
      have hgz:gx<(wr.alloc (.cells #[.int .i64 (xn:Int),.slice (some ⟨gx,0,none⟩) 64 cx] 169)).heap.size:=by
       have:=qac hhx
       simp;omega
      have HDA:=Lib.hid (hd'.below ((Below.refl _ _).alloc (Nat.le_refl _) (.cells #[.int .i64 (xn:Int),.slice (some ⟨gx,0,none⟩) 64 cx] 169)))
      have HWR:=Lib.hid (qhq HDA.out xn hn20 (.slice (some ⟨gx,0,none⟩) 64 cx) xD hD64 (fun w' hk=>qav hD64 ((hk.block gx hgz hnF2).trans (qad hhx _)) htx) hWj)
      have HF':=Lib.hid hF'
      have HK':=Lib.hid hk'
      clear hc e0 e1 hd' hF' hk' hfr hnew hgx1 hgx2 hD64 hhx htx hnF2 hgz hWj HR
      go_wp2_with fail
      refine HWR.out.mono ?_
      rintro e wq ⟨rfl,hdid⟩
      have HNX:Hid (Did (.pointer (some a)) (runE st (emit ((E.take (j+1)).map jab))) 80 F w1 wq):=by
       show Did _ _ _ _ _ _
       rw[HTK.out]
       exact Did.trans (HK'.out.step (qab.alloc _)) HF'.out hdid
      clear hdid
      go_wp2
      go_roundw
      case rel=>exact⟨j+1,by omega,by go_num,HNX⟩
      case measure=>simp[intOf];omega
     ·have HT:Hid (E.take j=E):=List.take_of_length_le (by rw[HNN.out];omega)
      rw[HT.out,<-HOE.out]at HR
      obtain⟨F',hd',hF',hk'⟩:=HR.out
      have HLD:Hid (ybea a (qwl st) (seqO st.N) F wr.heap.size w (wr.alloc (.cells (logC a sq) 165))):=by
       show ybea _ _ _ _ _ _ _
       rw[HSQ.out]
       refine⟨F',hd'.below ((Below.refl _ _).alloc (Nat.le_refl _) _),fun i hi=>?_,fun h=>?_,((qab.of_below HB1.out).step hk').step (qab.alloc _),heap_alloc_new _ _⟩
       ·rcases hF' i hi with h | h
        ·exact Or.inl h
        ·exact Or.inr (Nat.le_trans HB1.out.size h)
       ·have:=hd'.fin _ h;omega
      have hsz:w.heap.size<=wr.heap.size:=Nat.le_trans HB1.out.size hk'.size
      clear hd' hF' hk' HR
      go_wp2
      go_ret2
      exact⟨_,rfl,hsz,HLD.out⟩
end Go.Proofs.YtpoglnpjadmbpaaGreatDoor
