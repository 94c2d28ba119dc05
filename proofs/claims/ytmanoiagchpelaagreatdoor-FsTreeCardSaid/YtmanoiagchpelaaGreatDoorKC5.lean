import Derived.Test.YtmanoiagchpelaaGreatDoorKA42
import Derived.Test.YtmanoiagchpelaaGreatDoorKC4
set_option maxHeartbeats 0
set_option linter.all false
set_option maxRecDepth 100000
namespace Go.Proofs.YtmanoiagchpelaaGreatDoor
open Go.Proofs.Tryz Go.RowKit
variable {i j:Nat} {l:List Int}
theorem QK (v) (l) (w) (h:pM w v l) (hl:l.length<=40) (hs:∀x∈l,x.S.size<=300):
 Calls prog 22 #[v] w (fun e w'=>∃gf a F,e=.returned (.tuple #[.pointer (some ⟨gf,0,none⟩),.pointer (some a)])/\FsAt w' gf (rc l) F a/\Below w w w'/\∀i,F i->w.heap.size<=i):=by
 obtain⟨N,s⟩:=zA l.length;obtain⟨p,cp,hv,hp⟩:=Ul h N s.o;rw[<-s.o]at hl;subst hv;have HP:=za hp;have HS:=za hs;have L:=za (KO 96 (by omega) (by omega) w);have H:=za (Y9 l (by rw[<-s.o];omega) hs);have HM:Hid (rc l=rc (l.take N)):=by show _=_;rw[s.o,xJ]
 rw[HM.o];clear hp hs h;go_enter func22,ntmps22;go_wp2_with fail
 refine L.o.mono ?_;rintro e w1 ⟨gf,a,F1,rfl,h1,z,r⟩;have H1:Hid (FsAt w1 gf (rc (l.take 0)) F1 a):=h1;have P:=za z;have I:=za r;clear h1 z r;go_wp2;go_loopw [16] (fun i wr=>∃k:Nat,k<=N/\i=.int .i64 k/\Hid (∃F,FsAt wr gf (rc (l.take k)) F a/\∀i,F i->w.heap.size<=i)/\Hid (Below w w wr)) (fun i _=>N-(intOf i).toNat);case atStart=>exact⟨0,ye _,rfl,⟨F1,H1.o,I.o⟩,P⟩
 case round=>
  obtain⟨k,hk,rfl,K,j⟩:=hrel;by_cases J:k<N
  .obtain⟨g,o,rfl,q,Z⟩:=HP.o (by omega);have f:k<l.length:=(by rw[<-s.o];exact J);obtain⟨U,Q,G,V,O⟩:=Z k f;obtain⟨x,T⟩:=zD (l[k]);rw[T.o]at U Q G V O;have c1:=(j.o.cell (p:=⟨g,o+k*5,none⟩) q).trans U;have c2:=(j.o.cell (p:=⟨g,o+(k*5+1),none⟩) q).trans Q;have c3:=(j.o.cell (p:=⟨g,o+(k*5+2),none⟩) q).trans G;have c4:=(j.o.cell (p:=⟨g,o+(k*5+3),none⟩) q).trans V;have c5:=(j.o.cell (p:=⟨g,o+(k*5+4),none⟩) q).trans O;rw[<-yC]at c2 c3 c4 c5;obtain⟨F,D,b⟩:=K.o;obtain⟨A0,m,n⟩:=H.o k (by omega);have u:x.S.size<=300:=(by rw[<-T.o];exact HS.o _ (zx f));have Y:rc (l.take (k+1))=(doM (rc (l.take k)) x).2:=(by rw[<-Jd,<-T.o,zR f]);have d:=za (fun (W:World) (hW:Below wr wr W)=>do_SI (D.below hW) m n (by omega) x u);rw[<-Y]at d;obtain⟨R,HR⟩:=zD (rc (l.take (k+1)));rw[HR.o]at d;have y:=za b;obtain⟨kk,A,B,C,S⟩:=x;clear Z U Q G V O D b m n u Y K;have af:k<(N:Int):=(by omega);have t:Hid (Below wr wr (wr.alloc (.cells #[kk,A,B,C,.string S] 30))):=zB.alloc zL _;have E:=za (d.o _ t.o);go_wp2_with fail
   refine E.o.mono ?_;rintro e w3 ⟨rfl,F3,X,f3,k3⟩;have c:=za (zf j.o t.o);have HX:Hid (∃F,FsAt w3 gf R F a/\∀i,F i->w.heap.size<=i):=⟨F3,X,fun i hi=>(f3 i hi).elim (y.o i) (fun h=>zt c.o.size h)⟩;have M:=za (c.o.trans (k3.to_below y.o c.o.size));clear X f3 k3;go_wp2;go_roundw;case rel=>exact⟨k+1,by omega,by go_num,by rw[HR.o];exact HX,M⟩
   case measure=>simp[intOf];omega
  .obtain rfl:k=N:=(by omega);go_wp2;go_ret2;obtain⟨F,D,b⟩:=K.o;exact⟨gf,a,F,rfl,D,j.o,b⟩
section
variable {s : Fs} {c : Nat} {A : Nat->AN}
theorem Kz (s:Fs):∀(l:List En) (out:List Int),∃t,sZ s out l=out++t
 | [],out=>⟨[],by simp[sZ]⟩
 | x::l,out=>by
  unfold sZ;obtain⟨t,a⟩:=Kz s l (if lA s x.2&&!(out.contains x.2) then out++[x.2] else out);rw[a];split
  .exact⟨x.2::t,by simp⟩
  .exact⟨t,rfl⟩
theorem Wo (s:Fs):∀(l:List En) (out:List Int),∀e∈l,lA s e.2=true->e.2∈sZ s out l
 | [],_,_,a,_=>by cases a
 | x::l,out,e,a,c=>by
  unfold sZ;rcases yD.1 a with rfl|a
  .obtain⟨t,d⟩:=Kz s l (if lA s e.2&&!(out.contains e.2) then out++[e.2] else out);rw[d,c];by_cases b:out.contains e.2=true
   .rw[b];simp at b ⊢;exact zr b
   .simp at b;simp[b]
  .exact Wo s l _ e a c
theorem I8 (I:eI s):∀(f k:Nat) {out:List Int},f+k=33->DlOk s out->out.Nodup->(∀j,j<k->j<out.length->∀e∈outD (dirB s (out.getD j 0-1).toNat),lA s e.2=true->e.2∈out) ->
 (∀x∈out,x∈mj s f k out)/\∀d∈mj s f k out,∀e∈outD (dirB s (d-1).toNat),lA s e.2=true->e.2∈mj s f k out
 | f,k,out,H,r,w,C=>by
  have l:out.length<=32:=by have:=jS w (ys:=(List.range 32).map fun j:Nat=>(j:Int)+1) fun z E=>(by have:=r z E;exact zU.2 ⟨(z-1).toNat,yH.2 (by omega),by omega⟩);rw[yp,tj]at this;exact this
  have g:¬k<out.length->(∀x∈out,x∈out)/\∀d∈out,∀e∈outD (dirB s (d-1).toNat),lA s e.2=true->e.2∈out:=fun B=>⟨fun _ h=>h,fun d q e v o=>by obtain⟨j,m,rfl⟩:=va q;exact C j (by omega) m e (by rw[zi,zh m];exact v) o⟩;cases f with
  | zero=>unfold mj;exact g (by omega)
  | succ f=>
   unfold mj;split
   .rename_i n;have F:=r (out.getD k 0) (by rw[zi,zh n.1];exact zx n.1);have v:=Vm (I.1 (out.getD k 0-1).toNat (by omega) F.2.2);have D:=Vu r v.2;obtain⟨t,y⟩:=Kz s (outD (dirB s (out.getD k 0-1).toNat)) out;have A:∀j,j<out.length->(sZ s out (outD (dirB s (out.getD k 0-1).toNat))).getD j 0=out.getD j 0:=fun j m=>(by rw[y,zi,zi,zX m]);have i:∀x∈out,x∈sZ s out (outD (dirB s (out.getD k 0-1).toNat)):=fun x u=>(by rw[y];exact List.mem_append_left _ u);obtain⟨a,b⟩:=I8 I f (k+1) (by omega) D.1 (UT w) fun j m G e c o=>by
     by_cases p:j<k
     .rw[A j (by omega)]at c;exact i _ (C j p (by omega) e c o)
     .obtain rfl:j=k:=(by omega);rw[A j n.1]at c;exact Wo s _ _ e c o
    exact⟨fun x u=>a x (i x u),b⟩
   .rename_i n;exact g (fun B=>n ⟨B,l⟩)
theorem SI.reached (C:SI s c A) (g:GI A fun _=>0) (r:RI A) {n:Nat} (B:n<32) (E:(A n).k=2):(n:Int)+1∈rC s:=by
 have q:=C.dirsOk g;obtain⟨x,v⟩:=I8 q 33 0 (out:=[1]) rfl (fun n B=>by rw[xt]at B;subst B;exact⟨by omega,by omega,q.2⟩) (by simp) (fun j z=>by omega);have t:(1:Int)∈rC s:=x 1 (by simp);have b:∀f m,m<32->(A m).k=2->upI A f m=0->(m:Int)+1∈rC s:=by
  intro f
  induction f with
  | zero=>
   intro m _ _ i;have:m=0:=i;subst this;exact t
  | succ f b=>
   intro m o h i;by_cases d:m=0
   .subst d;exact t
   .unfold upI at i;rw[zb d]at i;obtain⟨a,_,e,p,u⟩:=r.up m o d h;have l:=r.par o d h;have y:=b _ a l i;have w:dirB s ((upN A m:Int)+1-1).toNat=(A (upN A m)).D:=(by rw[show ((upN A m:Int)+1-1).toNat=upN A m by omega];exact (C.A_at a).2.2.2.2.2.2.2);unfold vq at p;rw[ze l]at p;have:=v _ y e (by rw[w];exact p) (by unfold lA;rw[u,show ((m:Int)+1-1).toNat=m by omega,(C.A_at o).1,h];rfl);rw[u]at this;exact this
 obtain⟨f,i⟩:=r.rch n B E;exact b f n B E i
end
def entD (s:Fs) (d:Int):List En:=outD (dirB s (d-1).toNat)
section
variable {s : Fs} {c n : Nat} {A : Nat->AN}
theorem Tj (f:Nat->Nat) (g:i≠j) (h:0<f i) (l:0<f j):∀m,i<m->j<m->2<=((List.range m).map f).sum:=fun m d c=>by have e:=Vk f (fun k=>if k=i then 0 else f k) i (fun k a=>zb a) m d;have b:=Vk (fun k=>if k=i then 0 else f k) (fun k=>if k=j then 0 else if k=i then 0 else f k) j (fun k a=>zb a) m c;simp only[vl]at e b;rw[zb (yA g)]at b;omega
theorem GI.upOf (g:GI A fun _=>0) (r:RI A) (w:i<32) {e:En} (x:e∈vq (A i)) (z:(A (e.2-1).toNat).k=2):(A (e.2-1).toNat).up=(i:Int)+1/\cntA A e.2=1/\e.2≠1:=by
 have o:=g.to w x;have c:=g.noRoot rfl w x;obtain⟨n,m⟩:∃n:Nat,(n:Int)+1=e.2:=⟨(e.2-1).toNat,by omega⟩;have v:(e.2-1).toNat=n:=by omega
 rw[v]at z ⊢;have a:n<32:=by omega
 have b:n≠0:=by omega
 have j:=g.cnt n a;rw[g.dir n a z,zb b,m]at j;obtain⟨p,t,f,q,d⟩:=r.up n a b z;refine⟨?_,by omega,c⟩;by_cases l:upN A n=i
 .rw[t,l]
 .exfalso;have h:∀{k:Nat} {y:En},y∈vq (A k)->y.2=e.2->0<(vq (A k)).countP (isTo e.2):=fun s u=>List.countP_pos_iff.2 ⟨_,s,by unfold isTo;rw[u];simp⟩;have:=Tj (fun k=>(vq (A k)).countP (isTo e.2)) l (h q (by rw[d,m])) (h x rfl) 32 p w;unfold cntA at j;omega
def cntD (s:Fs) (z:Int) (l:List Int):Nat:=(l.map fun d=>(entD s d).countP (isTo z)).sum
theorem Xq (f:Nat->Nat):∀{l:List Nat},l.Nodup->(∀i∈l,i<32)->(∀i,i<32->i∉l->f i=0)->(l.map f).sum=((List.range 32).map f).sum
 | [],_,_,h=>by have:(List.range 32).map f=(List.range 32).map fun _=>0:=xY fun i b=>h i (yH.1 b) (by simp);rw[this];rfl
 | x::l,m,d,p=>by
  obtain⟨g,n⟩:=vJ.1 m;have q:=d x (xn ..);have r:=Vk f (fun k=>if k=x then 0 else f k) x (fun k e=>zb e) 32 q;have j:=Xq (fun k=>if k=x then 0 else f k) n (fun i b=>d i (yZ _ b)) fun i b c=>by
   by_cases a:i=x
   .exact ze a
   .show (if i=x then 0 else f i)=0;rw[zb a];exact p i b fun s=>(yD.1 s).elim a c
  have o:l.map (fun k=>if k=x then 0 else f k)=l.map f:=xY fun i b=>by show (if i=x then 0 else f i)=f i;rw[zb];rintro rfl;exact g b
  rw[o]at j;simp only[vl]at r;rw[yF,List.sum_cons];omega
theorem SI.cntAll (v:SI s c A) (g:GI A fun _=>0) (r:RI A) (z:Int):cntD s z (rC s)=cntA A z:=by
 have e:=v.dirsOk g;obtain⟨f,o,_,_⟩:=Um e;have t:((rC s).map fun d=>(d-1).toNat).Nodup:=by refine xW.2 (o.imp_of_mem fun {a b} n q h u=>h ?_);have:=f a n;have:=f b q;omega
 have:=Xq (fun i=>(vq (A i)).countP (isTo z)) t (fun i l=>by
  obtain⟨d,e,rfl⟩:=zU.1 l;have:=f d e;omega) fun i l j=>by
   by_cases m:(A i).k=2
   .exact zY (zU.2 ⟨_,v.reached g r l m,by omega⟩) j
   .unfold vq;rw[zb m];rfl
 unfold cntA;rw[<-this,vr];unfold cntD;refine zV List.sum (xY fun d e=>?_);have p:=f d e;show (entD s d).countP _=(vq (A (d-1).toNat)).countP _;unfold entD vq;rw[(v.A_at (by omega)).2.2.2.2.2.2.2,ze ((v.A_at (by omega)).1.symm.trans p.2.2)]
def sD (s:Fs) (l:List Int):List Int:=l.flatMap fun d=>(entD s d).map (·.2)
theorem IK (s:Fs) (z:Int):∀l,(sD s l).count z=cntD s z l
 | []=>rfl
 | d::l=>by
  unfold sD cntD;rw[xo,sQ,yF,List.sum_cons];have a:=IK s z l;unfold sD cntD at a;rw[a]
  congr 1
  rw[List.count,List.countP_map];exact List.countP_congr fun e _=>by unfold isTo;simp
theorem WP (s:Fs) (l r:List Int):sD s (l++r)=sD s l++sD s r:=vt ..
theorem J5 (s:Fs) (a:j<l.length):sD s (l.take (j+1))=sD s (l.take j)++(entD s (l.getD j 0)).map (·.2):=by
 rw[<-zR a,WP,zi,zh a]
 congr 1
 exact yX _
theorem Ot (s:Fs) (a:j<l.length) (t:Nat):∃R,sD s l=sD s (l.take j)++((entD s (l.getD j 0)).take t).map (·.2)++R:=by
 refine⟨((entD s (l.getD j 0)).drop t).map (·.2)++sD s (l.drop (j+1)),?_⟩;have e:sD s l=sD s (l.take (j+1))++sD s (l.drop (j+1)):=by rw[<-WP,xC]
 rw[e,J5 s a,zP,zP]
 congr 1
 rw[<-zP,<-yy,xC]
theorem WO (s:Fs):∀{l:List Int},(∀d∈l,(entD s d).length<=32)->(sD s l).length<=32*l.length
 | [],_=>zL
 | d::l,h=>by have a:=h d (xn ..);have b:=WO s (l:=l) fun x c=>h x (yZ _ c);unfold sD at b ⊢;rw[xo,zm,yp,yx];omega
def addZ (l:List (Int×Value)) (z:Int):List (Int×Value):=putZ l z (.int .i64 (intOf ((getZ l z).getD (.int .i64 0))+1))
def pg (L:List Int):List (Int×Value):=L.foldl addZ [(1,.int .i64 1)]
theorem KX : ∀(L:List Int) (l:List (Int×Value)) (c:Int->Nat),(∀z,(getZ l z).getD (.int .i64 0)=.int .i64 (c z:Int))->(∀z,(getZ (L.foldl addZ l) z).getD (.int .i64 0)=.int .i64 ((c z+L.count z:Nat):Int))/\(L.foldl addZ l).length<=l.length+L.length
 | [],l,c,h=>⟨fun z=>by simpa using h z,zL⟩
 | x::L,l,c,h=>by
  obtain⟨a,b⟩:=KX L (addZ l x) (fun z=>c z+if z=x then 1 else 0) fun z=>by
   unfold addZ;by_cases d:z=x
   .subst d;rw[Zx,h z,ze rfl];simp[intOf]
   .rw[mR _ d,h z,zb d];rfl
  refine⟨fun z=>?_,?_⟩
  .rw[wl,a z,List.count_cons]
   congr 2
   by_cases d:z=x
   .subst d;simp;omega
   .rw[zb d,zb (by simpa using fun e=>d e.symm)];omega
  .rw[wl];have:(addZ l x).length<=l.length+1:=oy x _ l;rw[yx];omega
theorem Us (L:List Int) (z:Int):(getZ (pg L) z).getD (.int .i64 0)=.int .i64 (((if z=1 then 1 else 0)+L.count z:Nat):Int):=(KX L _ (fun z=>if z=1 then 1 else 0) fun z=>by
 by_cases a:z=1
 .subst a;rfl
 .rw[zb a];show ((if 1=z then _ else _:Option Value)).getD _=_;rw[zb (yA a)];rfl).1 z
theorem Oa (L:List Int):(pg L).length<=1+L.length:=(KX L [(1,.int .i64 1)] (fun z=>if z=1 then 1 else 0) fun z=>by
 by_cases a:z=1
 .subst a;rfl
 .rw[zb a];show ((if 1=z then _ else _:Option Value)).getD _=_;rw[zb (yA a)];rfl).2
theorem N9 (L:List Int) (z:Int):pg (L++[z])=putZ (pg L) z (.int .i64 ((((if z=1 then 1 else 0)+L.count z:Nat):Int)+1)):=by
 have e:pg (L++[z])=addZ (pg L) z:=by unfold pg;rw[xG];rfl
 rw[e];unfold addZ;rw[Us];rfl
end
