import Derived.Test.YtmanoiagchpelaaGreatDoorKA3
import Derived.Test.YtmanoiagchpelaaGreatDoorKA6
set_option maxHeartbeats 0
set_option linter.all false
set_option maxRecDepth 100000
namespace Go.Proofs.YtmanoiagchpelaaGreatDoor
open Go.Proofs.Tryz Go.RowKit
variable {a:Act} {bs:List Int} {o:Oper} {w:World}
def delT (f:Fo) (k:Nat):Fo:=⟨fun a=>if a=k then fun _=>0 else f.nd a,fun a=>if a=k then emp else f.hs a⟩
theorem Rt (f) (k) (m:k<4):((encF f).toList.take (k*48)++(encT tL 0).toList++(encF f).toList.drop (k*48+(encT tL 0).size)).toArray=encF (delT f k):=by
 apply xa;intro i;rw[oY];by_cases l:i<192
 .obtain⟨a,j,e,c,rfl⟩:∃a j,a<4/\j<48/\i=a*48+j:=⟨i / 48,i%48,by omega,by omega,by omega⟩;rw[rk _ a j e c,xM];have b:((encF f).toList.take (k*48)).length=k*48:=by rw[zj,yv,uj];omega
  have d:(encT tL 0).toList.length=48:=by rw[yv,oY]
  by_cases h:a<k
  .rw[zP,zX (by omega),zI,ze (by omega),zO,rk f a j e c];unfold uU delT;simp only[zb (by omega:¬a=k)]
  .by_cases g:a=k
   .subst g;rw[zP,zy (by omega),zX (by omega),b,show a*48+j-a*48=j by omega,zO,Zj tL 0 j c];unfold uU delT tL;simp only[vl]
   .rw[zy (by rw[zm];omega),zm,b,d,yw,show k*48+48+(a*48+j-(k*48+48))=a*48+j by omega,zO,rk f a j e c];unfold uU delT;simp only[zb g]
 .rw[yd (by simp[uj,oY];omega),yd (by rw[uj];omega)]
theorem Ms (f) (k) (I:1<=k) (E:k<4) (A X T0) (F:Hid (A=encF f)) (G:Hid (X=encF (delT f k))) (D:Hid (T0=encT tL 0)) (H:Hid (vO f k=true)) (w):
 Calls prog 62 #[.agg A,.int .i64 k] w fun e w'=>e=.returned (.tuple #[.agg X,()])/\Below w w w':=by
 have x:(k:Int)<4:=by omega
 have B:0<=(k:Int):=by omega
 have y:decide ((k:Int)<1)=false:=zz (by omega);have g:Hid (A.size=192):=by rw[F.o];exact uj f
 have a:Hid (X.size=192):=by rw[G.o];exact uj _
 have v:Hid (X.all (·.oneCell')=true):=by rw[G.o];exact nx _
 have c:Hid (T0.size=48):=by rw[D.o];exact oY _ _
 have u:Hid (T0.all (·.oneCell')=true):=by rw[D.o];exact Uh _ _
 have r:Hid (∀w,(zeroValue 104).run prog w=.ok (.agg T0) w):=by rw[D.o];exact treeZ
 obtain⟨h,i⟩:=zA (encF tL);have C:Hid (∀w,(zeroValue 106).run prog w=.ok (.agg h) w):=by rw[i.o];exact forZ
 have p:Hid (h.size=192):=by rw[i.o];exact uj _
 have n:Hid ((A.toList.take (k*48)++T0.toList++A.toList.drop (k*48+T0.size)).toArray=X):=by rw[F.o,D.o,G.o];exact Rt f k E
 have q:Hid (∀(W),Calls prog 76 #[.agg A,k] W fun e w'=>e=.returned (.bool true)/\Below W W w'):=fun W=>by rw[F.o,<-H.o];exact jN f k W E
 go_enter func62,ntmps62
 go_wp2_with (first
  | (refine oC rfl 106 rfl h C.o ?_)
  | (refine Ta (by kernel_rfl) 106 (.tmp 2) rfl w rfl 106 A (0,0) _ (vH w _ _) forT rfl (by rw[g.o];exact forI) ?_))
 refine (q.o _).mono ?_;rintro e l ⟨rfl,b⟩;have j:Hid (l.heap[w.heap.size]?=some (.cells A 106)):=wy b (vH w _ _);have s:=za (wy b (vm w _ _));have m:=zf ((zB.alloc zL _).alloc (by simp) _) b;clear b;have t:Hid ((l.setRow w X).heap[w.heap.size]?=some (.cells X 106)):=yh _ _ _ _ _ _ j.o;have d:Hid ((l.setRow w X).heap[w.heap.size+1]?=some (.cells h 106)):=jX s.o _ _ (by omega);have z:=r.o;go_wp2_with (first
  | (refine jI rfl 104 (.tmp 17) (.tmp 16) rfl w (k*48) T0 rfl rfl 106 A X j.o (by rw[c.o];exact qT) (by rw[c.o,g.o];omega) u.o n.o ?_)
  | (refine yS rfl 106 (.tmp 2) rfl w rfl 106 X (0,0) _ t.o forT rfl (by rw[a.o];exact forI) ?_)
  | (refine yG rfl 106 (.tmp 4) (.tmp 18) rfl (w.heap.size+1) X rfl rfl 106 h d.o (by rw[a.o];exact forI) (by rw[p.o,a.o]) v.o ?_))
 refine yV (Ye rfl _ _ (w.heap.size+1) 106 X (0,0) _ (.int .i64 0) rfl rfl (yh _ _ _ _ _ _ d.o) forT rfl (by rw[a.o];exact forI)) rfl ⟨rfl,?_⟩;exact xI (xI m zL _) (by omega) _
theorem OQ (f) (k) (a:1<=k) (b:k<4) (c:vO f k=true) (w):
 Calls prog 62 #[.agg (encF f),.int .i64 k] w fun e w'=>e=.returned (.tuple #[.agg (encF (delT f k)),()])/\Below w w w':=
 Ms f k a b _ _ _ rfl rfl rfl c w
section
variable {P : Program}
theorem V3 {ops:Array Oper} {Q:Act->Prop} {rest:List Oper} {o:Oper} {a:Act} {C:World->Prop} (hw:Region.wanted o (yielded ops a.tmps)=true) (ty) (x) (ho:o.op=.load ty x)
 (g off) (hx:a.eval x=.pointer (some ⟨g,off,none⟩)) (t) (cs A) (fr) (d) (hg:∀w,C w->w.heap[g]?=some (.cells cs t fr)) (hA:∀j,j<A.size->cs[off+j]?=A[j]?)
 (hu:P.underlying ty=some d) (hd:(match d with|.struct _|.array _ _=>true|_=>false)=true) (hi:(P.info? ty).map (·.size)=some A.size)
 (h:wpQuiet P ops C Q rest (a.put o.dst (.agg A))):wpQuiet P ops C Q (o::rest) a:=
 tD hw fun _ b=>⟨.agg A,fun w hw=>by unfold Oper.quietAt execOp;simp only[ho,hx,Instr.loadAt,Instr.sureAddr,xO,uJ,xe,JB w g off t ty cs A fr d (hg w hw) hA hu hd hi];exact⟨rfl,rfl⟩,b _ h⟩
theorem LF {ops:Array Oper} {rest:List Oper} {Q:Exit->Act->World->Prop} (c:Region.wanted o (yielded ops a.tmps)=true) (v)
 (d:∀w,(execOp a.eval o).run P w=.ok (.value v) w) (h:wpList P ops Q rest (a.put o.dst v) w):wpList P ops Q (o::rest) a w:=
 Je c fun _ b=>by unfold Oper.wp;rw[d];exact b _ _ h
theorem MX (ty ty') (x y) (c:o.op=.binOp .neq ty x y ty') (X Y) (d:a.eval x=.agg X) (e:a.eval y=.agg Y) (b)
 (f:∀w,(Op.equalIn 10000 ty (.agg X) (.agg Y)).run P w=.ok b w) (g:P.eqGuardType P.depth ty=false) (w):(execOp a.eval o).run P w=.ok (.value (.bool (!b))) w:=by
 unfold execOp;simp[c,d,e,xO,run_eqGuard_agg (P:=P) w _ ty x y X Y g,run_neq_struct,f]
end
theorem Pm (f) (n):rL f 4 n=((vO f 0&&f.hs 0 n)||(vO f 1&&f.hs 1 n)||(vO f 2&&f.hs 2 n)||(vO f 3&&f.hs 3 n)):=by simp only[rL];cases vO f 0<;>cases vO f 1<;>cases vO f 2<;>cases vO f 3<;>simp[join,emp]
theorem l8 (f) (n):ta f 4 n=((vO f 1&&f.hs 1 n)||(vO f 2&&f.hs 2 n)||(vO f 3&&f.hs 3 n)):=by simp only[ta];cases vO f 1<;>cases vO f 2<;>cases vO f 3<;>simp[join,emp]
theorem Gc (s t):mM (enc s) (enc t) 0 32:=fun j a=>⟨.u8,_,_,by rw[yO];exact pY s j a,by rw[yO];exact pY t j a⟩
theorem LQ (s) (w):(Op.equalIn 10000 102 (.agg (enc s)) (.agg (enc s))).run prog w=.ok true w:=by rw[Gi (len:=32) (n:=1) setT byteI (Jk byteT) _ _ w (Gc s s),(LN (tP s) (tP s) (Gc s s)).2 rfl]
def foB (bs:List Int):Fo:=⟨fun k j=>bs.getD (k*16+j) 0,fun k m=>(bs.getD (64+k*32+m / 8) 0).toNat.testBit (m%8)⟩
def upF (bs:List Int) (k i:Nat):Fo:=⟨fun a j=>if a<k\/(a=k/\j<i) then (foB bs).nd a j else 0,fun a=>if a<k then (foB bs).hs a else emp⟩
def U8s (bs:List Int):Prop:=∀x,x∈bs->0<=x/\x<=255
theorem Xe (h:U8s bs) (i):0<=bs.getD i 0/\bs.getD i 0<=255:=by
 rw[zi];cases a:bs[i]? with
 | none=>simp
 | some x=>exact h x (xU a)
theorem Ij (h:U8s bs) (k i):(tN ((foB bs).hs k) i)=bs.getD (64+k*32+i) 0:=by
 obtain⟨d,g⟩:=Xe h (64+k*32+i);obtain⟨x,a⟩:=wv d;have e:tN ((foB bs).hs k) i=tM (fun b=>x.testBit b):=VV fun b j=>by
  have c:(8*i+b) / 8=i:=by omega
  have f:(8*i+b)%8=b:=by omega
  unfold foB;simp only[c,f];rw[a,yz]
 rw[e,MI _ (by omega),a]
theorem X8 {f g:Fo} (o:∀k j,k<4->j<16->f.nd k j=g.nd k j) (p:∀k m,k<4->m<256->f.hs k m=g.hs k m):encF f=encF g:=by
 apply xa;intro i;by_cases n:i<192
 .obtain⟨a,j,c,d,rfl⟩:∃a j,a<4/\j<48/\i=a*48+j:=⟨i / 48,i%48,by omega,by omega,by omega⟩;rw[rk _ a j c d,rk _ a j c d];unfold uU;by_cases h:j<16
  .rw[ze h,ze h,o a j c h]
  .rw[zb h,zb h];have e:tN (f.hs a) (j-16)=tN (g.hs a) (j-16):=VV fun b l=>p a _ c (by omega);rw[e]
 .rw[yd (by rw[uj];omega),yd (by rw[uj];omega)]
theorem upF_0 (bs):encF (upF bs 0 0)=encF tL:=X8 (fun k j _ _=>by simp[upF,tL]) (fun k m _ _=>by simp[upF,tL])
theorem upF_4 (bs):encF (upF bs 4 0)=encF (foB bs):=X8 (fun k j a _=>by simp[upF,a]) (fun k m a _=>by simp[upF,a])
theorem SP (bs) (k i) (o:k<4) (m:i<16):(encF (upF bs k i)).setIfInBounds (k*48+i) (.int .i64 (bs.getD (k*16+i) 0))=encF (upF bs k (i+1)):=by
 apply xa;intro n;rw[yM];by_cases l:n<192
 .obtain⟨a,j,d,c,rfl⟩:∃a j,a<4/\j<48/\n=a*48+j:=⟨n / 48,n%48,by omega,by omega,by omega⟩;rw[rk _ a j d c,rk _ a j d c];by_cases g:k*48+i=a*48+j
  .have h:a=k:=(by omega);have f:j=i:=(by omega);subst h f;rw[ze rfl,ze (by rw[uj];omega)];unfold uU upF;simp only[ze m];rw[ze (zu ⟨trivial,by omega⟩)];rfl
  .rw[zb g];unfold uU upF;by_cases b:j<16
   .simp only[ze b];by_cases e:a<k\/a=k/\j<i
    .rw[ze e,ze (by omega)]
    .rw[zb e,zb (by omega)]
   .simp only[zb b]
 .rw[zb (by omega),yd (by rw[uj];omega),yd (by rw[uj];omega)]
theorem Te (bs) (o:U8s bs) (p:bs.length=192) (k) (q:k<4):((encF (upF bs k 16)).toList.take (k*48+16)++u8s ((bs.drop (64+32*k)).take 32)++(encF (upF bs k 16)).toList.drop (k*48+16+(u8s ((bs.drop (64+32*k)).take 32)).length)).toArray=encF (upF bs (k+1) 0):=by
 have b:(u8s ((bs.drop (64+32*k)).take 32)).length=32:=by rw[uo,zj,yB,p];omega
 apply xa;intro n;rw[b];by_cases m:n<192
 .obtain⟨a,j,f,e,rfl⟩:∃a j,a<4/\j<48/\n=a*48+j:=⟨n / 48,n%48,by omega,by omega,by omega⟩;rw[rk _ a j f e,xM];have d:((encF (upF bs k 16)).toList.take (k*48+16)).length=k*48+16:=by rw[zj,yv,uj];omega
  by_cases g:a*48+j<k*48+16
  .rw[zP,zX (by omega),zI,ze g,zO,rk _ a j f e];unfold uU upF;by_cases c:j<16
   .simp only[ze c];rw[ze (by omega),ze (by omega)]
   .simp only[zb c];rw[ze (by omega),ze (by omega)]
  .by_cases l:a*48+j<k*48+48
   .have h:a=k:=(by omega);subst h;rw[zP,zy (by omega),zX (by omega),d,show a*48+j-(a*48+16)=j-16 by omega];unfold u8s;rw[xF,zI,ze (by omega),yw];unfold uU upF;simp only[zb (show ¬j<16 by omega)];rw[ze (by omega),Ij o];rw[show 64+32*a+(j-16)=64+a*32+(j-16) by omega,zi];obtain⟨x,i⟩:∃x,bs[64+a*32+(j-16)]?=some x:=⟨_,zh (by omega)⟩;rw[i];rfl
   .rw[zy (by rw[zm];omega),zm,d,b,yw,show k*48+16+32+(a*48+j-(k*48+16+32))=a*48+j by omega,zO,rk _ a j f e];unfold uU upF;by_cases c:j<16
    .simp only[ze c];rw[zb (by omega),zb (by omega)]
    .simp only[zb c];rw[zb (by omega),zb (by omega)]
 .rw[yd (by simp[uj,b];omega),yd (by rw[uj];omega)]
theorem RB (f:U8s bs) (g:bs.length=192):uH (foB bs)=bs:=by
 apply ww;intro n;by_cases e:n<192
 .obtain⟨x,c⟩:∃x,bs[n]?=some x:=⟨_,zh (by omega)⟩;have d:bs.getD n 0=x:=by rw[zi,c];rfl
  unfold uH;by_cases h:n<64
  .obtain⟨k,i,a,b,rfl⟩:∃k i,k<4/\i<16/\n=k*16+i:=⟨n / 16,n%16,by omega,by omega,by omega⟩;rw[zX (by rw[lm];exact h),Yz _ k i a b,c,<-d];rfl
  .obtain⟨k,i,a,b,rfl⟩:∃k i,k<4/\i<32/\n=64+k*32+i:=⟨(n-64) / 32,(n-64)%32,by omega,by omega,by omega⟩;rw[zy (by rw[lm];omega),lm,show 64+k*32+i-64=k*32+i by omega,Yy _ k i a b,Ij f,d,c]
 .rw[yj (by rw[Zp];omega),yj (by omega)]
def unpF (bs:List Int):Fo×Int:=if bs.length=192/\qa (foB bs)=0 then (foB bs,0) else (tL,3)
theorem SS (v) (bs) (w) (h:vQ w v bs) (u:bs.length≠192) (x:bs.length<=1000000) (Z0) (t:Hid (Z0=encF tL)):
 Calls prog 145 #[v] w fun e w'=>e=.returned (.tuple #[.agg Z0,(3:Int)])/\Below w w w':=by
 have _:=x;have f:Hid (∀w,(zeroValue 106).run prog w=.ok (.agg Z0) w):=by rw[t.o];exact forZ
 have a:Hid (Z0.size=192):=by rw[t.o];exact uj _
 have c:Hid (Z0.all (·.oneCell')=true):=by rw[t.o];exact nx _
 obtain⟨N,d⟩:=zA bs.length;obtain⟨q,i,l⟩:∃p i,v=.slice p N i:=by
  rw[d.o];obtain⟨_,⟨k,m,n,rfl⟩|⟨g,o,b,rfl,s⟩⟩:=h
  .exact⟨m,n,by rw[k]⟩
  .exact⟨_,b,rfl⟩
 subst l;rw[<-d.o]at x u;have j:((N:Int) != 192)=true:=by rw[rQ];omega
 clear h u;have r:=f.o;go_enter func145,ntmps145;go_wp2_with (first
  | (refine oC rfl 106 rfl Z0 f.o ?_)
  | (refine yG rfl 106 (.tmp 2) (.tmp 12) rfl w Z0 rfl rfl 106 Z0 (zT w _) (by rw[a.o];exact forI) rfl c.o ?_))
 refine yV (Ye rfl _ _ w 106 Z0 (0,0) _ (.int .i64 3) rfl rfl (yh _ _ _ _ _ _ (zT w _)) forT rfl (by rw[a.o];exact forI)) rfl ⟨rfl,?_⟩;exact xI (zB.alloc zL _) zL _
theorem MH {v:Value} (h:vQ w v bs) (f:0<bs.length):∃g o c,v=.slice (some ⟨g,o,none⟩) bs.length c/\g<w.heap.size/\∀j,j<bs.length->w.cell? ⟨g,o+j,none⟩=some (.int .u8 (bs.getD j 0)):=by
 obtain⟨_,⟨e,_⟩|⟨g,o,c,rfl,d⟩⟩:=h
 .omega
 .have a:∀j,j<bs.length->w.cell? ⟨g,o+j,none⟩=some (.int .u8 (bs.getD j 0)):=fun j b=>by rw[d j _ (qg bs j b)];simp[b]
  exact⟨g,o,c,rfl,zG (a 0 f),a⟩
theorem Tf (
 g o cp:Nat) (bs:List Int) (w:World) (an:g<w.heap.size) (HC:Hid (∀j,j<192->w.cell? ⟨g,o+j,none⟩=some (.int .u8 (bs.getD j 0)))) (HL:Hid (bs.length=192)) (HU:Hid (U8s bs))
 (ap:Hid (vQ w (.slice (some (g,o)) 192 cp) bs)) (av:192<=cp) (Z0 X:Array Value) (c:Int) (al:Hid (Z0=encF tL)) (HX:Hid (X=encF (unpF bs).1)) (Hc:Hid (c=(unpF bs).2)):
 Calls prog 145 #[.slice (some (g,o)) 192 cp] w fun e w'=>e=.returned (.tuple #[.agg X,c])/\Below w w w':=by
 have HZ:Hid (∀w,(zeroValue 106).run prog w=.ok (.agg Z0) w):=by rw[al.o];exact forZ
 have E:Hid (Z0.size=192):=by rw[al.o];exact uj _
 have aj:Hid (Z0.all (·.oneCell')=true):=by rw[al.o];exact nx _
 go_enter func145,ntmps145
 go_wp2_with (first
  | (refine oC rfl 106 rfl Z0 HZ.o ?_))
 go_loopw [13] (fun i wr=>∃k:Nat,k<=4/\i=.int .i64 k/\Hid (wr.heap[w.heap.size]?=some (.cells Z0 106))/\Hid (wr.heap[w.heap.size+1]?=some (.cells (encF (upF bs k 0)) 106))/\Below w w wr) (fun i _=>4-(intOf i).toNat)
 case atStart =>refine⟨0,by omega,rfl,vH w _ _,?_,(zB.alloc zL _).alloc (by simp) _⟩;rw[upF_0,<-al.o];exact vm w _ _
 case round=>
  obtain⟨k,hk,rfl,O,Z,M⟩:=hrel;by_cases A:k<4
  .have aw:(k:Int)<4:=(by omega);have a1:(0:Int)<=(k:Int):=(by omega);obtain⟨wo,af⟩:∃wo:World,wo=wr:=⟨_,rfl⟩;subst af;go_wp2;go_loopw [16] (fun i wr=>∃j:Nat,j<=16/\i=.int .i64 j/\Hid (wr.heap[w.heap.size]?=some (.cells Z0 106))/\Hid (wr.heap[w.heap.size+1]?=some (.cells (encF (upF bs k j)) 106))/\Below w w wr) (fun i _=>16-(intOf i).toNat);case atStart=>exact⟨0,by omega,rfl,O,Z,M⟩
   case round=>
    obtain⟨j,hj,rfl,J,l,t⟩:=hrel;by_cases I:j<16
    .have a3:(j:Int)<16:=(by omega);have ay:(0:Int)<=(j:Int):=(by omega);obtain⟨x,Hx⟩:=zA (bs.getD (k*16+j) 0);have N:=Xe HU.o (k*16+j);rw[<-Hx.o]at N;obtain⟨a0,ac⟩:=N;have cb:wr.cell? (g,o+(16*k+j))=some (.int .u8 x):=(by rw[t.cell (p:=⟨g,o+(16*k+j),none⟩) an,Hx.o,show 16*k+j=k*16+j by omega];exact HC.o _ (by omega));have cf:wr.cell? (w.heap.size+1,k*48+j)=some (.int .i64 0):=(by rw[zC l.o,rk _ k j A (by omega)];unfold uU upF;simp[I]);have ff:wr.frozen? (w.heap.size+1,k*48+j)=false:=zF l.o;have p1:=zW (16*(k:Int)) (by omega);have p2:=zW (16*(k:Int)+(j:Int)) (by omega);have p3:(16*(k:Int)+(j:Int)).toNat=16*k+j:=(by omega);have p4:(0:Int)<=16*(k:Int)+(j:Int):=(by omega);have p5:16*(k:Int)+(j:Int)<192:=(by omega);go_wp2
     go_still_tail 13,(by kernel_rfl)
     go_wp2;go_roundw;case rel=>
      refine⟨j+1,by omega,by go_num,(oD _ _ _ _ (by simp)).trans J.o,?_,?_⟩
      .rw[<-SP bs k j A I,<-Hx.o];exact yb _ _ _ _ _ _ l.o
      .exact t.drew.setCell (by simp) _
     case measure=>simp[intOf];omega
    .obtain rfl:j=16:=(by omega);have p1:=zW (32*(k:Int)) (by omega);have p2:=zW (64+32*(k:Int)) (by omega);have p3:(64+32*(k:Int)).toNat=64+32*k:=(by omega);have p4:(0:Int)<=64+32*(k:Int):=(by omega);have p5:64+32*(k:Int)<=192:=(by omega);have p6:64+32*k≠cp:=(by omega);go_wp2
     go_still_tail 9,(by kernel_rfl)
     go_wp2_with fail
     have b:(u8s ((bs.drop (64+32*k)).take 32)).length=32:=(by rw[uo,zj,yB,HL.o];omega);have z:∀(j:Nat) (v:Value),(u8s ((bs.drop (64+32*k)).take 32))[j]?=some v->wr.drew.cell? ((⟨g,o+(64+32*k),none⟩:Addr).add j)=some v:=fun j v D=>by
      have hj:=(zJ.1 D).1;have L:(⟨g,o+(64+32*k),none⟩:Addr).add j=⟨g,o+(64+32*k)+j,none⟩:=(by unfold Addr.add;split<;>simp_all);rw[L,show o+(64+32*k)+j=o+(64+32*k+j) by omega];refine Eq.trans (t.cell (p:=⟨g,o+(64+32*k+j),none⟩) an) ?_;rw[HC.o _ (by omega)];unfold u8s at D;rw[xF,zI,ze (by omega),yw]at D;rw[zi];cases hq:bs[64+32*k+j]? with
      | none=>rw[hq]at D;cases D
      | some x=>rw[hq]at D;simpa using D
     rw[rP (P:=prog) wr.drew 56 56 _ 5 (w.heap.size+1) (k*48+16) 32 32 ⟨g,o+(64+32*k),none⟩ (192-(64+32*k)) (cp-(64+32*k)) (encF (upF bs k 16)) 106 (u8s ((bs.drop (64+32*k)).take 32)) iF (by kernel_rfl) l.o (by rw[b];show 32=min _ _;omega) z (by rw[b,uj];omega) (mG _)];rw[Te bs HU.o HL.o k A,b];have T:Hid ((wr.drew.setRow (w.heap.size+1) (encF (upF bs (k+1) 0))).heap[w.heap.size]?=some (.cells Z0 106)):=jX (w:=wr.drew) J.o _ _ (by omega);have ad:Hid ((wr.drew.setRow (w.heap.size+1) (encF (upF bs (k+1) 0))).heap[w.heap.size+1]?=some (.cells (encF (upF bs (k+1) 0)) 106)):=yh wr.drew _ _ _ _ _ l.o;have ae:Below w w (wr.drew.setRow (w.heap.size+1) (encF (upF bs (k+1) 0))):=xI t.drew (by omega) _;clear z b p1 p2 p3 p4 p5 p6;go_wp2;go_roundw;case rel=>exact⟨k+1,by omega,by go_num,T,ad,ae⟩
     case measure=>simp[intOf];omega
  .obtain rfl:k=4:=(by omega);obtain⟨F,d⟩:=zA (encF (foB bs));have m:Hid (wr.heap[w.heap.size+1]?=some (.cells F 106)):=(by rw[d.o,<-upF_4];exact Z.o);have f:Hid (F.size=192):=(by rw[d.o];exact uj _);have U:Hid (F.all (·.oneCell')=true):=(by rw[d.o];exact nx _);clear Z;have hz:=HZ.o;by_cases G:qa (foB bs)=0
   .have B:unpF bs=(foB bs,0):=(by unfold unpF;rw[ze ⟨HL.o,G⟩]);have eX:F=X:=(by rw[HX.o,B,d.o]);have Y:c=0:=(by rw[Hc.o,B]);have C:Hid (∀W:World,Calls prog 107 #[.agg F] W (VF (foB bs) W)):=fun W=>(by rw[d.o];exact K4 _ G W);subst eX Y;clear B G;go_wp2_with (refine yS rfl 106 (.tmp 4) rfl (w.heap.size+1) rfl 106 F (0,0) _ m.o forT rfl (by rw[f.o];exact forI) ?_)
    refine (C.o _).mono ?_;rintro e H ⟨u,rfl,y,a⟩;have aa:Hid (vQ H u bs):=(by have:=wh.of_owns y;rw[RB HU.o HL.o]at this;rw[<-HL.o]at this;exact this);have Q:Hid (H.heap[w.heap.size+1]?=some (.cells F 106)):=wy a m.o;have n:Hid (H.heap[w.heap.size]?=some (.cells Z0 106)):=wy a O.o;have q:=zf M a;have ah:Hid (vQ H (.slice (some (g,o)) 192 cp) bs):=wh.below ap.o q;clear y a m O M;go_wp2_with fail
    refine (Gm _ _ _ _ _ aa.o ah.o rfl (by rw[HL.o];omega)).mono ?_;have ab:Hid (lN bs bs=true):=(by show _=_;unfold lN;simp);rw[ab.o];rintro e w3 ⟨rfl,s⟩;have ai:Hid (w3.heap[w.heap.size+1]?=some (.cells F 106)):=wy s Q.o;have K:Hid (w3.heap[w.heap.size]?=some (.cells Z0 106)):=wy s n.o;have V:=zf q s;clear s Q n q;go_wp2_with (first
     | (refine yS rfl 106 (.tmp 4) rfl (w.heap.size+1) rfl 106 F (0,0) _ ai.o forT rfl (by rw[f.o];exact forI) ?_)
     | (refine yG rfl 106 (.tmp 2) (.tmp 58) rfl w F rfl rfl 106 Z0 K.o (by rw[f.o];exact forI) (by rw[f.o,E.o]) U.o ?_))
    refine yV (Ye rfl _ _ w 106 F (0,0) _ (.int .i64 0) rfl rfl (yh _ _ _ _ _ _ K.o) forT rfl (by rw[f.o];exact forI)) rfl ⟨rfl,?_⟩;exact xI V zL _
   .have B:unpF bs=(tL,3):=(by unfold unpF;rw[zb fun h=>G h.2]);have eX:Z0=X:=(by rw[HX.o,B,al.o]);have Y:c=3:=(by rw[Hc.o,B]);obtain⟨r,S⟩:=zA (qa (foB bs));have ax:(r==0)=false:=(by rw[S.o];simpa using G);have R:(r != 0)=true:=(by rw[S.o];simpa using G);have C:Hid (∀W:World,Calls prog 107 #[.agg F] W fun e w'=>e=.returned (.tuple #[.slice none 0 0,r])/\Below W W w'):=fun W=>PW _ F r d S R W;subst eX Y;clear B G;go_wp2_with (refine yS rfl 106 (.tmp 4) rfl (w.heap.size+1) rfl 106 F (0,0) _ m.o forT rfl (by rw[f.o];exact forI) ?_)
    refine (C.o _).mono ?_;rintro e H ⟨rfl,a⟩;have n:Hid (H.heap[w.heap.size]?=some (.cells Z0 106)):=wy a O.o;have q:=zf M a;clear a m O M;go_wp2_with (first
     | (refine yG rfl 106 (.tmp 2) (.tmp 57) rfl w Z0 rfl rfl 106 Z0 n.o (by rw[E.o];exact forI) rfl aj.o ?_))
    refine yV (Ye rfl _ _ w 106 Z0 (0,0) _ (.int .i64 3) rfl rfl (yh _ _ _ _ _ _ n.o) forT rfl (by rw[E.o];exact forI)) rfl ⟨rfl,?_⟩;exact xI q zL _
def iz (v:Value) (n:Nat):Prop:=∀p l c,v=.slice p l c->n<=c
theorem ST (v) (bs) (w) (h:vQ w v bs) (j:U8s bs) (k:iz v bs.length) (l:bs.length<=1000000):
 Calls prog 145 #[v] w fun e w'=>e=.returned (.tuple #[.agg (encF (unpF bs).1),.int .i64 (unpF bs).2])/\Below w w w':=by
 by_cases b:bs.length=192
 .obtain⟨g,o,c,rfl,i,d⟩:=MH h (by omega);have a:=k _ _ _ rfl;rw[b]at h d a ⊢;exact Tf g o c bs w i d b j h a _ _ _ rfl rfl rfl
 .have f:unpF bs=(tL,3):=by unfold unpF;rw[zb fun h=>b h.1]
  rw[f];exact SS v bs w h b l _ rfl
