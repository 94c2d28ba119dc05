import Derived.Test.YtpcedcnjofbgjaaGreatDoorKA7
import Derived.Maps.Views
import Derived.Carry
import Derived.Laws.AppendOwnNone
set_option maxHeartbeats 0
set_option linter.all false
set_option maxRecDepth 100000
namespace Go.Proofs.YtpcedcnjofbgjaaGreatDoor
open Go.Proofs.Tryz Go.RowKit
variable {D:List Int} {F:Nat->Prop} {N:Nat->List Int} {g k:Nat} {w w1:World}
def puts (l:List (Int×ByteArray)):List Value:=l.flatMap λx=>[.int .i64 x.1,.string x.2]
theorem G4 (st):(RH st).W.length<=st.W.length:=by unfold RH;split<;>simp
theorem SC (st) (n) (D):(pV st n D).W.length<=st.W.length+1:=by unfold pV;split<;>simp
section
variable {w w' : World} {d : Value} {st : Dk} {k : Nat} {F : Nat->Prop}
theorem Zz (h:uT w d st k F) (n) (g:n<k) (v) (D) (i:D.length=64) (j:∀w',yK F w w'->uM w' v D) (l:st.W.length<1000000):
 Calls prog 86 #[d,(n:Int),v] w <|ρ () λw'=>Did d (pV st n D) k F w w':=by
 obtain⟨b,c,a,f,E,L,rfl,h⟩:=h;exact YF h n g v D i j (by rw[h.len];exact l)
theorem Tt (h:uT w d st k F):Calls prog 90 #[d] w <|ρ (.tuple #[]) λw'=>Did d (RH st) k F w w':=by obtain⟨b,c,a,f,E,L,rfl,h⟩:=h;exact XF h
theorem Fr (h:uT w d st k F) (kv) (K) (g:∀w',yK F w w'->YE w' kv K) (i:K.length<=9223372036854775807):
 Calls prog 31 #[d,kv] w <|ρ (.tuple #[]) λw'=>Did d (jS st K) k F w w':=by
 obtain⟨b,c,a,f,E,L,rfl,h⟩:=h;exact XM h kv K g i
theorem jm (h:uT w d st k F):Calls prog 77 #[d] w λe w'=>e=.returned k/\w=w':=by obtain⟨b,c,a,f,E,L,rfl,h⟩:=h;exact ST h
theorem oX (h:uT w d st k F) (n) (f:n<k):Calls prog 76 #[d,(n:Int)] w (fR (sec st.N n) w):=by obtain⟨b,c,a,e,E,L,rfl,h⟩:=h;exact EH h n f
theorem uT.ptr (h:uT w d st k F):∃a,d=.pointer (some a):=by obtain⟨c,e,b,f,E,L,rfl,h⟩:=h;exact⟨_,rfl⟩
theorem uT.lens (h:uT w d st k F):st.S.length=64*k/\st.N.length=64*k:=by obtain⟨b,c,a,e,E,L,rfl,h⟩:=h;exact⟨by rw[h.ls,h.hL],by rw[h.ln,h.hL]⟩
theorem Lb.keep {v:Value} {w2:World} (h:Lb D w1 v w2) (k:∀i,F i->i<w1.heap.size):∀w',yK F w2 w'->uM w' v D:=λw' c=>by obtain⟨g,e,b,rfl,⟨j,_⟩,a,d,_⟩:=h;exact rH rfl ((c.block g (xB a) (λf=>by have:=k g f;omega)).trans a) d
end
theorem uT.drew {d:Value} {st:Dk} (h:uT w d st k F):uT w.drew d st k F:=h.keep (G:=λ_=>False) (yK.refl _ _).drew (λ_ _ h=>h)
theorem yK.cell {w':World} (h:yK F w w') {i:Nat} (a:g<w.heap.size) (b:¬F g):w'.cell? (g,i)=w.cell? (g,i):=vM (h.block g a b)
def Dl : ByteArray:=⟨#[114,105,110,103,1]⟩
def Ng (k:Nat):List Int:=((over (List.replicate 64 0) 0 (bI Dl)).set 5 ((k%256:Nat))).set 6 ((k / 256:Nat))
theorem rz (k):(Ng k).length=64:=by unfold Ng;rw[xT,xT];rfl
theorem XZ (L) (i) (x):(u8s L).toArray.setIfInBounds i (.int .u8 x)=(u8s (L.set i x)).toArray:=by unfold u8s;rw[uk];simp
theorem iY (k:Nat) (K:k<=65535) (w):Calls prog 79 #[k] w (kM (Ng k) w):=by
 obtain⟨Z,j⟩:=zA (List.replicate 64 (0:Int));have y:∀W,(Instr.makeSlice 38 (.int .i64 64) (.int .i64 64)).run prog W=.ok (.slice (some ⟨W.heap.size,0,none⟩) 64 64) (W.alloc (.cells (u8s Z).toArray 5)):=λW=>by rw[j.o];exact Mj 64 64 rfl (by omega) W
 have c:=ig (P:=prog) (w.alloc (.cells (u8s Z).toArray 5)) 38 9 3 5 u8sT ky w 64 64 Dl Z 5 (zO w _) (by rw[j.o];rfl);obtain⟨D,r⟩:=zD (over Z 0 ((bI Dl).take 64));rw[r.o]at c;have v:D.length=64:=by rw[<-r.o,j.o];rfl
 obtain⟨b,d⟩:=zD ((w.alloc (.cells (u8s Z).toArray 5)).setRow w (u8s D).toArray);rw[d.o]at c;rw[show Dl=⟨#[114,105,110,103,1]⟩ from rfl]at c;have e:b.heap[w.heap.size]?=some (.cells (u8s D).toArray 5 (0,0)):=by rw[<-d.o];exact ya _ _ _ _ _ _ (zO w _)
 have f:Below w w b:=by rw[<-d.o];have g:Below w w (w.alloc (.cells (u8s Z).toArray 5)):=zB.alloc zL _;exact⟨g.os,g.tape,g.output,by simp,λi z=>(yO _ _ i _ (by omega)).trans (g.block i z)⟩
 have q:∃x,b.cell? (w.heap.size,5)=some x:=⟨_,by rw[zC e,<-zK];exact Ch D 5 (by omega)⟩;have m:∃x,b.cell? (w.heap.size,6)=some x:=⟨_,by rw[zC e,<-zK];exact Ch D 6 (by omega)⟩;obtain⟨H,F⟩:=q;obtain⟨J,I⟩:=m;have E:b.frozen? (w.heap.size,5)=false:=zF e;have G:b.frozen? (w.heap.size,6)=false:=zF e;obtain⟨h,C⟩:∃a,IntKind.u8.wrap (k:Int)=a:=⟨_,rfl⟩;have u:=za e;have p:=za f;clear e f;go_enter func79,ntmps79;go_wp2;have l:((b.setCell (w.heap.size,5) (.int .u8 h)).setCell (w.heap.size,6) (.int .u8 (k / 256))).heap[w.heap.size]?=some (.cells (u8s (Ng k)).toArray 5 (0,0)):=by
  have B:h=((k%256:Nat)):=by rw[<-C];simp[IntKind.wrap,IntKind.bits,IntKind.signed]
  have t:=zT b w 5 (u8s D).toArray 5 (.int .u8 h) u.o;rw[XZ]at t;have s:=zT _ w 6 _ 5 (.int .u8 ((k:Int) / 256)) t;rw[XZ]at s;rw[s,B,<-r.o,j.o];have A:(k / 256)=((k / 256:Nat):Int):=by omega
  rw[A];rfl
 have n:Below w w ((b.setCell (w.heap.size,5) (.int .u8 h)).setCell (w.heap.size,6) (.int .u8 (k / 256))):=(p.o.setCell zL _).setCell zL _;go_ret;refine⟨_,rfl,w.heap.size,64,(u8s (Ng k)).toArray,by rw[rz];rfl,⟨zL,by rw[rz];omega⟩,l,?_,n⟩;show (u8s (Ng k)).take _=_;rw[zo (by rw[wd];exact zL)]
structure Rdr where
 T:TypeId
 u:Value
 fr:Nat
 fs:Nat
 rr:Value
 rs:Value
structure RdAt (w:World) (r:Rdr) (N:Nat->List Int) (k:Nat):Prop where
 n1 : ∀ W : World, (nilAhead 434 r.T r.u "Read").run prog W = .ok (some false) W
 n2 : ∀ W : World, (nilAhead 434 r.T r.u "Size").run prog W = .ok (some false) W
 m1 : ∀ W : World, (method 434 r.T r.u "Read").run prog W = .ok (r.fr, r.rr) W
 m2 : ∀ W : World, (method 434 r.T r.u "Size").run prog W = .ok (r.fs, r.rs) W
 c1:∀(x:Value) (W:World),(callFunc r.fr #[r.rr,x]).run prog W=.ok (.enter r.fr #[r.rr,x]) W
 c2:∀W:World,(callFunc r.fs #[r.rs]).run prog W=.ok (.enter r.fs #[r.rs]) W
 read:∀w':World,Below w w w'->∀n:Nat,n<k->Calls prog r.fr #[r.rr,n] w' (fR (N n) w')
 size:∀w':World,Below w w w'->Calls prog r.fs #[r.rs] w' λe w2=>e=.returned k/\Below w' w' w2
 len:∀n,n<k->(N n).length=64
 byte:∀n,n<k->∀x∈N n,0<=x/\x<=255
theorem RdAt.below {r:Rdr} (h:RdAt w r N k) (c:Below w w w1):RdAt w1 r N k:=
 ⟨h.n1,h.n2,h.m1,h.m2,h.c1,h.c2,λa b=>h.read a (zi c b),λa b=>h.size a (zi c b),h.len,h.byte⟩
def rowB (bs:List Int) (i:Nat):Int×Int:=(bs.getD (3*i+1) 0,bs.getD (3*i+2) 0+bs.getD (3*i+3) 0*256)
def jq (bs:List Int):List (Int×Int):=(List.range (bs.getD 0 0).toNat).map (rowB bs)
def mn (bs:List Int):Prop:=bs.length=64/\bs.getD 0 0<=20/\ZQ (jq bs)=0/\RK (jq bs).length (jq bs)=bs
def TM (bs:List Int) (w:World) (e:Ending) (w':World):Prop:=
 (mn bs/\∃v,e=.returned (.tuple #[v,()])/\w'.ownsRow w 193 2 v (jq bs).length (qP (jq bs))/\Below w w w') \/
 (¬mn bs/\e=.returned (.tuple #[.slice none 0 0,(3:Int)])/\Below w w w')
theorem ir (v) (bs) (w) (h:uM w v bs) (n:bs.length≠64) (r:bs.length<=1000000):
 Calls prog 82 #[v] w (TM bs w):=by
 have _:=r;obtain⟨N,a⟩:=zA bs.length;obtain⟨q,c,j⟩:∃p c,v=.slice p N c:=by
  rw[a.o];obtain⟨_,⟨k,d,e,rfl⟩|⟨g,o,b,rfl,m⟩⟩:=h
  .exact⟨d,e,by rw[k]⟩
  .exact⟨_,b,rfl⟩
 subst j;rw[<-a.o]at r n;have f:((N:Int) != 64)=true:=by rw[tT];omega
 have i:Hid (¬mn bs):=λl=>n (a.o.trans l.1);clear h n;go_enter func82,ntmps82;go_wp2;go_ret2;exact zw ⟨i.o,rfl,zB⟩
theorem Ua (bs) (g off cap) (b0) (w) (f:w.cell? ⟨g,off,none⟩=some (.int .u8 b0)) (d:Hid (b0=bs.getD 0 0)) (e:20<b0) (c:b0<=255):
 Calls prog 82 #[.slice (some ⟨g,off,none⟩) 64 cap] w (TM bs w):=by
 have b:Hid (¬mn bs):=λa=>by have:=a.2.1;rw[<-d.o]at this;omega
 go_enter func82,ntmps82
 go_wp2;go_ret2;exact zw ⟨b.o,rfl,zB⟩
theorem eK (l:List Int) (i) (h):l.getD i 0=l[i]:=by simp[h]
theorem L6 (bs) (k) (x p q) (h:rowB bs k=(x,p+q*256)):(List.range (k+1)).map (rowB bs)=(List.range k).map (rowB bs)++[(x,p+q*256)]:=by rw[vG,yo,yB,vS,h]
theorem Ub (bs) (g off cap) (N:Nat) (w) (hc:∀j (hj),w.cell? ⟨g,off+j,none⟩=some (.int .u8 bs[j])) (hn:bs.length=64) (hx:∀x,x∈bs->0<=x/\x<=255)
 (Hb:Hid (bs.getD 0 0=(N:Int))) (hN:N<=20):
 Calls prog 82 #[.slice (some ⟨g,off,none⟩) 64 cap] w (TM bs w):=by
 have x0:w.cell? (g,off)=some (.int .u8 N):=by have:=hc 0 (by omega);rw[<-eK bs 0 (by omega),Hb.o]at this;exact this
 have Y:=za hc;have d:=za hn;have HX:=za hx;have F:Hid (jq bs=(List.range N).map (rowB bs)):=by show _=_;unfold jq;rw[Hb.o];rfl
 have v:Hid ((jq bs).length=N):=by show _=_;rw[F.o];simp
 clear hc hn hx;obtain⟨i0,hi,H,T,P⟩:=yX iP;have HI:=za hi;have az:=za H;have a0:=za T;have ai:=za P;clear hi H T P;have Z:g<w.heap.size:=zy x0;have sN:IntKind.i64.wrap N=N:=zM _ (by omega);go_enter func82,ntmps82;go_wp2;go_loopw [4,21] (λo i wr=>∃(k:Nat) (a:List (Int×Int)),k<=N/\i=.int .i64 k/\Hid (a=(List.range k).map (rowB bs))/\a.length=k/\Hid (wr.ownsRow w 193 2 o a.length (qP a))/\Below w w wr) (λ_ i _=>N-(intOf i).toNat)
 .exact⟨0,[],by omega,rfl,rfl,rfl,yL _ _ _ _,zB⟩
 .obtain⟨k,a,hk,rfl,HA,u,J,m⟩:=hrel;have aS:=zr Z m.size;by_cases aB:k<N
  .have X:3*k+1<bs.length:=(by rw[d.o];omega);have D:3*k+2<bs.length:=(by rw[d.o];omega);have h3:3*k+3<bs.length:=(by rw[d.o];omega);have e1:=Y.o _ X;have e2:=Y.o _ D;have e3:=Y.o _ h3;have c1:=(m.cell (zy e1)).trans e1;have c2:=(m.cell (zy e2)).trans e2;have c3:=(m.cell (zy e3)).trans e3;obtain⟨aJ,aD⟩:=HX.o _ (Nj X);obtain⟨ak,af⟩:=HX.o _ (Nj D);obtain⟨aq,ae⟩:=HX.o _ (Nj h3);have n:rowB bs k=(bs[3*k+1],bs[3*k+2]+bs[3*k+3]*256):=(by unfold rowB;rw[eK _ _ X,eK _ _ D,eK _ _ h3]);generalize bs[3*k+1]=x at *
   generalize bs[3*k+2]=p at *
   generalize bs[3*k+3]=q at *
   obtain⟨y,Hy⟩:=zA (p+q*256);have am:Hid (a++[(x,y)]=(List.range (k+1)).map (rowB bs)):=(by show _=_;rw[L6 bs k x p q n,<-HA.o,Hy.o]);have s1:=zW (3*k) (by omega);have s2:=zW (3*k+1) (by omega);have s3:=zW (3*k+2) (by omega);have s4:=zW (3*k+3) (by omega);have t2:(3*(k:Int)+1).toNat=3*k+1:=(by omega);have t3:(3*(k:Int)+2).toNat=3*k+2:=(by omega);have t4:(3*(k:Int)+3).toNat=3*k+3:=(by omega);have u2:0<=3*(k:Int)+1:=(by omega);have u3:0<=3*(k:Int)+2:=(by omega);have aI:0<=3*(k:Int)+3:=(by omega);have v2:3*(k:Int)+1<64:=(by omega);have v3:3*(k:Int)+2<64:=(by omega);have v4:3*(k:Int)+3<64:=(by omega);have w1:IntKind.i64.wrap x=x:=zM _ (by omega);have w2:IntKind.i64.wrap p=p:=zM _ (by omega);have w3:IntKind.i64.wrap q=q:=zM _ (by omega);have C:=zW (q*256) (by omega);have aM:bits .or .i64 p (q*256)=y:=(by rw[E0 _ _ ak af aq ae,Hy.o]);have hL:a.length<=20:=(by omega);have s:=(J.o.alloc (.cells #[x,y] 193)).lt;have G:=za s;clear s e1 e2 e3 n;have ag:Value.ownBlock u4≠some g:=λhq=>(by have X:=(G.o g hq).1;omega);have AG:=za ag;have S:Hid (∀q,Value.ownBlock u4=some q->w.heap.size<=q):=λq hq=>(G.o q hq).1;have a9:=m.size;clear ag x0;go_wp2_with fail
   go_region_held3 (λw'=>w'.cell? (g,off+(3*k+1))=some (.int .u8 x)/\w'.cell? (g,off+(3*k+2))=some (.int .u8 p)/\w'.cell? (g,off+(3*k+3))=some (.int .u8 q))
    (first
     | go_keep
     | (
      go_split_ands
      refine⟨?_,?_,?_⟩
      ·(rw[b.cell_far _ (by simp;omega) (yA AG.out)];assumption)
      ·(rw[b.cell_far _ (by simp;omega) (yA AG.out)];assumption)
      ·(rw[b.cell_far _ (by simp;omega) (yA AG.out)];assumption)))
    ((
     refine ut _ (by rfl) _ _ _ (by rfl) w.heap.size 193 i0 _ 2 16 rowT HI.o az.o a0.o ai.o rfl (by omega) u4 a.length (qP a) (by rfl) ((J.o.alloc _).drew)
      ⟨wr.heap.size,0,none⟩ 1 1 [.int .i64 x,.int .i64 y] (by rfl) (by rfl) (xF (cs:=#[.int .i64 x,.int .i64 y]) (t:=193) (fr:=(0,0)) (zO wr _)) (by simp[Value.oneCell'])
      (by omega) (by unfold maxLen;omega) (by omega) (by simp;omega) (wr.heap.size+1) (by simp) ?_;intro gg I C r b av K))
   have al:Hid (C.ownsRow w 193 2 (gg,0,(k+1),I) (a++[(x,y)]).length (qP (a++[(x,y)]))):=(by show World.ownsRow _ _ _ _ _ _ _;rw[uE,zl,<-u];exact r);have ar:=Cd (NL (m.alloc m.size _) 1) b (by simp[World.drewN];omega) S.o;clear r b av K s1 s2 s3 s4 w1 w2 w3;go_wp2;go_roundw
   .exact⟨k+1,a++[(x,y)],by omega,by go_num,am,by simp;omega,al,ar⟩
   .simp[intOf];omega
  .have Q:k=N:=(by omega);have aj:Hid (a=jq bs):=(by show _=_;rw[HA.o,F.o,Q]);have R:Hid (wr.ownsRow w 193 2 u4 (jq bs).length (qP (jq bs))):=(by have:=J.o;rw[aj.o]at this;exact this);have V:=za (uq.of_owns R.o);obtain⟨q2,c2,ho,_⟩:=rU J.o;rw[u]at ho;subst ho;clear u HA J;subst Q;by_cases U:ZQ (jq bs)=0
   .have HR:=za U;clear U;go_wp2_with fail
    refine (TW _ (jq bs) _ V.o HR.o).mono ?_;rintro e C ⟨g4,rfl,aQ,M,f⟩;have l:=zi m f;have E:Hid (uM C (.slice (some ⟨g4,0,none⟩) 64 64) (RK (jq bs).length (jq bs))):=X1 (Rt _ _ (by rw[v.o];omega)) M;have ac:=za (tt R.o f);have ax:Hid (uM C (.slice (some (g,off)) 64 cap) bs):=by
     refine⟨by rw[wd];omega,zw ⟨g,off,cap,by rw[d.o],λj x hx=>?_⟩⟩;have hj:j<bs.length:=by
      rcases pj j bs.length with h|h
      .exact h
      .rw[yW (by rw[wd];omega)]at hx;cases hx
     rw[Ch _ _ hj]at hx;cases hx;have:=Y.o j hj;exact (l.cell (zy this)).trans this
    have z:Hid ((RK (jq bs).length (jq bs)).length=64):=Rt _ _ (by rw[v.o];omega);obtain⟨PB,A⟩:=zD (RK (jq bs).length (jq bs));rw[A.o]at z E;clear M f;go_wp2_with fail
    refine (tF _ _ _ bs _ E.o ax.o (by rw[z.o,d.o]) (by rw[z.o];omega)).mono ?_;obtain⟨q,Hq⟩:=zD (eqB PB bs);rw[Hq.o];rintro e w5 ⟨rfl,B⟩;have O:=zi l B;have ay:=za (tt ac.o B);clear B;cases q with
    | true=>
     have L:Hid (mn bs):=⟨d.o,by rw[Hb.o];omega,HR.o,by rw[A.o];exact qQ Hq.o⟩;go_wp2;go_ret2;exact zu ⟨L.o,_,rfl,ay.o,O⟩
    | false=>
     have L:Hid (¬mn bs):=λh=>(by have D:=h.2.2.2;rw[A.o]at D;exact yi (zX D) (by have:=Hq.o;unfold eqB at this;rw[this];simp));go_wp2;go_ret2;exact zw ⟨L.o,rfl,O⟩
   .have L:Hid (¬mn bs):=λh=>U h.2.2.1;obtain⟨c,W⟩:=zD (ZQ (jq bs));have ao:(c != 0)=true:=(by rw[tT,<-W.o];exact U);clear U;go_wp2_with fail
    refine (EQ _ (jq bs) _ V.o (by rw[v.o];omega) c W ao).mono ?_;rintro e C ⟨rfl,f⟩;have l:=zi m f;clear f;go_wp2;go_ret2;exact zw ⟨L.o,rfl,l⟩
theorem R4 (v) (bs) (w) (h:uM w v bs) (l:∀x,x∈bs->0<=x/\x<=255) (m:bs.length<=1000000):
 Calls prog 82 #[v] w (TM bs w):=by
 by_cases e:bs.length=64
 .obtain⟨_,⟨i,_⟩|⟨g,a,c,rfl,k⟩⟩:=h
  .omega
  .have b:∀j (f),w.cell? ⟨g,a+j,none⟩=some (.int .u8 bs[j]):=λj f=>k j _ (Ch bs j f);rw[e];have i:=l _ (Nj (by omega:0<bs.length));by_cases d:20<bs[0]
   .exact Ua bs g a c bs[0] w (b 0 (by omega)) (eK bs 0 (by omega)).symm d i.2
   .exact Ub bs g a c bs[0].toNat w b e l (by show _=_;rw[eK bs 0 (by omega)];omega) (by omega)
 .exact ir v bs w h e m
def uY (N:Nat->List Int) (p:Int):List Int:=if p=0 then List.replicate 64 0 else N p.toNat
def ZN (N:Nat->List Int) (P:List Int) (n:Nat):List Int:=(P.take n).flatMap (uY N)
def sF (N:Nat->List Int) (P:List Int) (s:Int):List Int:=(P.flatMap (uY N)).take s.toNat
def Zm (P:List Int) (k:Nat):Prop:=∀p∈P,0<=p/\p<k
theorem om (N) (P) (n) (h):ZN N P (n+1)=ZN N P n++uY N P[n]:=by unfold ZN;rw[Nu,zk h,vW];simp
theorem Oc (a:∀n,n<k->(N n).length=64) {p:Int} (b:0<=p) (c:p<k):(uY N p).length=64:=by
 unfold uY;split
 .simp
 .exact a _ (by omega)
theorem So {N:Nat->List Int} {k:Nat} (b:∀n,n<k->(N n).length=64) {P:List Int} (c:Zm P k):∀n,n<=P.length->(ZN N P n).length=64*n
 | 0,_=>by simp[ZN]
 | n+1,h=>by have a:=c P[n] (Nj (by omega));rw[om N P n (by omega),zl,So b c n (by omega),Oc b a.1 a.2];omega
theorem Cp (N) (P):ZN N P P.length=P.flatMap (uY N):=by unfold ZN;rw[xN]
def js (w:World) (B:Nat) (v:Value) (D:List Int):Prop:=∃g cap cur,v=.slice (some ⟨g,0,none⟩) 64 cap/\D.length=64/\64<=cap/\B<=g/\w.heap[g]?=some (.cells cur 5)/\cur.toList.take 64=u8s D
theorem js.cell {_B _cap:Nat} {cur:Array Value} (f:D.length=64) (d:w.heap[g]?=some (.cells cur 5)) (e:cur.toList.take 64=u8s D):∀(j) (u),(u8s D)[j]?=some u->w.cell? ((⟨g,0,none⟩:Addr).add j)=some u:=λj u b=>by
 have a:(⟨g,0,none⟩:Addr).add j=⟨g,j,none⟩:=by unfold Addr.add;split<;>simp_all
 have c:=(zG.1 b).1;rw[wd]at c;rw[a,zC d,<-zK];rw[<-e,zI,ze (by omega)]at b;exact b
theorem S3 {r:Rdr} (h:RdAt w r N k) (kd m u g s l up) (v) (P) (hv:tP w v P) (hl:P.length<=8) (hP:Zm P k) (hs:0<=s) (az:s<=512):
 Calls prog 50 #[.iface r.T r.u,.agg #[(kd:Int),(m:Int),(u:Int),(g:Int),(s:Int),(l:Int),(up:Int),v]] w
  (λe w'=>∃v',e=.returned v'/\w'.ownsRow (w.heap.size+1) 5 1 v' (sF N P s).length (u8s (sF N P s))/\Below w w w'):=by
 have q1:=h.n1;have q2:=h.m1;have q3:=h.c1;have HR:=za h;have aj:=za hP;obtain⟨n,HN⟩:=zD P.length;have br:n<=8:=by rw[<-HN.o];exact hl
 obtain⟨p,cp,V,HP⟩:=kF hv;rw[HN.o]at V HP;subst V;have HV:=za hv;clear h hv hP hl;obtain⟨i0,ao,ab,au,al⟩:=yX R5;have aS:=za ao;have aD:=za ab;have a5:=za au;have aJ:=za al;clear ao ab au al;obtain⟨Z,HZ⟩:=zA (List.replicate 64 (0:Int));have bo:∀W,(Instr.makeSlice 38 (.int .i64 64) (.int .i64 64)).run prog W=.ok (.slice (some ⟨W.heap.size,0,none⟩) 64 64) (W.alloc (.cells (u8s Z).toArray 5)):=λW=>by rw[HZ.o];exact Mj 64 64 rfl (by omega) W
 go_enter func50,ntmps50
 go_wp2;obtain⟨w1,C⟩:=zD (w.alloc (.cells #[kd,m,u,g,s,l,up,(p,n,cp)] 102));rw[C.o];have M:Hid (Below w w w1):=by show _;rw[<-C.o];exact zB.alloc zL _
 have aH:Hid (w1.heap[w.heap.size]?=some (.cells #[kd,m,u,g,s,l,up,(p,n,cp)] 102)):=by show _=_;rw[<-C.o];exact zH
 have A:Hid (w1.heap.size=w.heap.size+1):=by show _=_;rw[<-C.o];simp
 go_loopw [5,14] (λo i wr=>∃j:Nat,j<=n/\i=.int .i64 j/\Hid (wr.ownsRow (w.heap.size+1) 5 1 o (64*j) (u8s (ZN N P j)))/\Hid (Below w1 w1 wr)) (λ_ i _=>n-(intOf i).toNat)
 .exact⟨0,yh _,rfl,yL _ _ _ _,zB⟩
 .obtain⟨j,hj,rfl,HO,E⟩:=hrel;by_cases aC:j<n
  .obtain⟨gp,op,rfl,hc⟩:=HP.o (by omega);have B:j<P.length:=(by rw[HN.o];exact aC);have K:=aj.o P[j] (Nj B);have cj:=hc j _ (pQ P j B);have aB:=zy cj;have cj:=((zi M.o (E.o)).cell (p:=⟨gp,op+j,none⟩) aB).trans cj;have ac:=za (om N P j B);have ae:=za (Oc HR.o.len K.1 K.2);obtain⟨x,Hx⟩:=zD (P[j]' B);rw[Hx.o]at K cj ac ae;have av:j<(n:Int):=by omega
   go_upto_if 20 with fail
   go_cut [8] (λb wx=>Hid (js wx (w.heap.size+1) b (uY N x))/\Hid (Below wr wr wx))
   case first=>
    by_cases d:x=0
    .have b0:(x != 0)=false:=(by simp[d]);have J:Hid (uY N x=Z):=(by show _=_;rw[HZ.o,d];rfl);have aa:Hid (Z.length=64):=(by show _=_;rw[HZ.o];simp);subst d;go_wp2
     go_meet
     case rel=>
      refine⟨?_,?_⟩
      .rw[J.o];exact⟨_,_,_,rfl,aa.o,zL,zv (wZ A.o.symm) E.o.size,zH,by rw[zo (by rw[xU,wd,aa.o];exact zL)]⟩
      .exact zB.alloc zL _
    .have b0:(x != 0)=true:=(by simpa using d);obtain⟨y,Hy⟩:∃y:Nat,Hid (x=(y:Int)):=⟨x.toNat,by show _=_;omega⟩;have J:Hid (uY N x=N y):=(by show _=_;unfold uY;rw[zb d,Hy.o];rfl);have ay:y<k:=(by have:=Hy.o;omega);have ad:=za (HR.o.read (wr.alloc (.cells (u8s Z).toArray 5)) (zi (zi M.o E.o) (zB.alloc zL _)) y ay);have ak:=za (HR.o.len y ay);rw[<-Hy.o]at ad;clear d;go_wp2_with fail
     refine ad.o.mono ?_;rintro e w3 ⟨v3,rfl,aO⟩;obtain⟨g3,U,an,rfl,a,aq,O,ah⟩:=aO;rw[ak.o]at a O |-;have aG:=za aq;have aT:=za O;have aM:=za ah;clear aq O ah;go_wp2
     go_meet
     case rel =>refine⟨?_,zi (zB.alloc zL _) aM.o⟩;rw[J.o];exact⟨g3,U,an,rfl,ak.o,a.2,zv (zv (wZ A.o.symm) (zv E.o.size (by simp))) a.1,aG.o,aT.o⟩
   case rest=>
    obtain⟨⟨gb,cb,bn,rfl,aK,bt,aw,af,X⟩,D⟩:=hcut;have aE:=za (js.cell (_B:=w.heap.size+1) (_cap:=cb) aK af X);have ai:=za (tt HO.o D.o);have bg:=za aw;clear af X aw cj;have be:j<=8:=(by omega);have aL:Hid ((u8s (uY N x)).length=64):=(by show _=_;rw[wd,ae.o]);have a6:=za (gZ (uY N x));have a3:=za (zv (wZ A.o.symm) (zv E.o.size D.o.size));go_wp2_with (at_builtin;refine yw _ rfl _ _ 38 rfl (w.heap.size+1) 5 i0 (.int .u8 0) 1 1 u8sT aS.o aD.o a5.o aJ.o rfl (by decide) _ _ _ rfl ai.o ⟨gb,0,none⟩ 64 cb (u8s (uY N x)) rfl (by rw[aL.o]) aE.o a6.o (by unfold maxLen;omega) (by omega) a3.o ?_;intro v5 w5 H f S)
    have a9:Hid (w5.ownsRow (w.heap.size+1) 5 1 v5 (64*(j+1)) (u8s (ZN N P (j+1)))):=(by show _;rw[ac.o,pX,show 64*(j+1)=64*j+64 by omega];exact H);have aQ:=za (Cd (zi E.o D.o) f (zv E.o.size D.o.size) (λq hq=>by rw[A.o];exact (ai.o.lt q hq).1));clear H f S;go_wp2;go_roundw
    .exact⟨j+1,by omega,by go_num,a9,aQ⟩
    .simp[intOf];omega
  .obtain rfl:j=n:=(by omega);have av:¬(j<(j:Int)):=(by omega);have HF:Hid (wr.cell? (w.heap.size,4)=some (.int .i64 s)):=zC (xV E.o aH.o);obtain⟨L,HL⟩:∃L:Nat,Hid (64*j=L):=⟨_,rfl⟩;obtain⟨t,HT⟩:∃t:Nat,Hid (s=(t:Int)):=⟨s.toNat,by show _=_;omega⟩;have hF:=HF.o;rw[HT.o]at hF;rw[HL.o]at HO;have a1:Hid (ZN N P j=P.flatMap (uY N)):=(by show _=_;rw[<-HN.o];exact Cp N P);have z:Hid ((ZN N P j).length=L):=(by show _=_;rw[<-HL.o];exact So HR.o.len aj.o j (by rw[HN.o];exact zL));have c:Hid (sF N P s=(ZN N P j).take t):=(by show _=_;unfold sF;rw[<-a1.o,HT.o];rfl);have F:=za (zi M.o E.o);obtain⟨a0,⟨hv,h0⟩|⟨gq,R,I,rfl,aF,hh,bd,ax,ag,ht⟩⟩:=id HO.o
   .subst hv;have aA:L=0:=(by have:=z.o;omega);subst aA;go_wp2;all_goals (go_ret;refine⟨_,rfl,?_,F.o⟩)
    all_goals (
     rw[c.o];have e:(ZN N P j).take t=[]:=(by have:=z.o;rw[yz]at this;rw[this];simp);rw[e];exact yL _ _ _ _)
   .have HH:=za hh;have a2:=za ht;have a8:=za ax;have aR:=za ag;clear hh ht ax ag a0;have G:∀x,x<=L->(sF N P s)=(ZN N P j).take x->wr.ownsRow (w.heap.size+1) 5 1 (.slice (some ⟨gq,0,none⟩) x R) (sF N P s).length (u8s (sF N P s)):=λx hx e=>(by have Y:((ZN N P j).take x).length=x:=(by rw[Ni,z.o];omega);rw[e,Y];refine⟨by rw[wd,Y];omega,zw ⟨gq,R,I,rfl,aF,HH.o,by omega,a8.o,aR.o,?_⟩⟩;have e2:I.toList.take (x*1)=(I.toList.take (L*1)).take x:=(by rw[we];congr 1;omega);rw[e2,a2.o,ZP]);have Q:=za G;clear G;by_cases aP:t<=L
    .have e1:t<=(L:Int):=(by omega);have e2:t<=(R:Int):=(by omega);have e3:t<=R:=(by omega);have e4:¬(L<(t:Int)):=(by omega);have e5:¬L<t:=(by omega);have e6:min (L:Int) t=t:=(by omega);go_wp2;all_goals go_ret
     all_goals first|exact⟨_,rfl,Q.o t aP c.o,F.o⟩|(refine⟨_,rfl,Q.o L zL ?_,F.o⟩;rw[c.o];congr 1;omega)
    .have e1:¬t<=(L:Int):=(by omega);have e3:L<=R:=(by omega);have e2:L<=(R:Int):=(by omega);have e4:L<(t:Int):=(by omega);have e5:L<t:=(by omega);have e6:min (L:Int) t=L:=(by omega);go_wp2;all_goals go_ret
     all_goals refine⟨_,rfl,Q.o L zL ?_,F.o⟩
     all_goals rw[c.o,zo (by rw[z.o];omega),zo (by rw[z.o];omega)]
end Go.Proofs.YtpcedcnjofbgjaaGreatDoor
namespace Go.Proofs.YtpcedcnjofbgjaaGreatDoor
open Go.Proofs.Tryz
variable {B b base base' c cnt h k kd m n r size:Nat} {D N:List Int} {F:Nat->Prop} {L l:List Rb} {O:List Rk} {P R:List Wr} {a w w':World} {e:TypeId} {left:Lit->Bool} {st:Dk} {v:Value} {xs:List Value}
def doE (st:Dk) (x:Rb):Dk:=if x.2.2=true then RH st else pV st x.1 x.2.1
def runE (st:Dk) (l:List Rb):Dk:=l.foldl doE st
theorem Qf (st) (l) (x):runE st (l++[x])=doE (runE st l) x:=by unfold runE;rw[xf];rfl
theorem PH (st) (a b):runE st (a++b)=runE (runE st a) b:=by unfold runE;rw[xf]
theorem TE (st) (x):(doE st x).W.length<=st.W.length+1:=by
 unfold doE;split
 .have:=G4 st;omega
 .exact SC _ _ _
theorem Qg (st) (l):(runE st l).W.length<=st.W.length+l.length:=by
 induction l generalizing st with
 | nil=>exact zL
 | cons x l a=>
  have c:=a (doE st x);have b:=TE st x;show (runE (doE st x) l).W.length<=_;rw[yv];omega
structure On (st:Dk) (k:Nat):Prop where
 fu:st.fu = -1
 n:st.N.length=64*k
def RbOk (k:Nat) (x:Rb):Prop:=x.2.2=true\/(x.1<k/\x.2.1.length=64)
def WrOk (k:Nat) (x:Wr):Prop:=x.1<k/\x.2.length=64
theorem P0 (h:On st k):RH st={S:=st.N,N:=st.N,W:=[],fu:= -1}:=by unfold RH;rw[zb (by rw[h.fu];decide),h.fu];rfl
theorem O9 (h:On st k) (n) (D):pV st n D={S:=st.S,N:=putS st.N n D,W:=st.W++[(n,D)],fu:= -1}:=by unfold pV;rw[zb (by rw[h.fu];decide),h.fu];rfl
theorem On.flush (h:On st k):On (RH st) k:=by rw[P0 h];exact⟨rfl,h.n⟩
theorem On.do (h:On st k) {x:Rb} (d:RbOk k x):On (doE st x) k:=by
 unfold doE;split
 .exact h.flush
 .rename_i c;rcases d with d|⟨a,b⟩
  .exact yi d c
  .rw[O9 h];exact⟨rfl,ZF h.n a b⟩
theorem On.run:∀{st},On st k->(∀x∈l,RbOk k x)->On (runE st l) k:=by
 induction l with
 | nil=>intro st h _;exact h
 | cons x l c=>intro st h a;exact c (h.do (a x (by simp))) λy b=>a y (by simp[b])
theorem GY (k):On (qD k) k:=⟨rfl,by unfold qD;simp⟩
def my (N:List Int) (P:List Wr):List Int:=P.foldl (λN x=>putS N x.1 x.2) N
theorem XE (N) (P) (x):my N (P++[x])=putS (my N P) x.1 x.2:=by unfold my;rw[xf];rfl
theorem Ss (P) (c:N.length=64*k) (d:∀x∈P,WrOk k x):(my N P).length=64*k:=by
 induction P generalizing N with
 | nil=>exact c
 | cons x P a=>
  have:=d x (by simp);exact a (ZF c this.1 this.2) λy b=>d y (by simp[b])
theorem XD (l:N.length=64*k) (i:∀x∈P,WrOk k x) (m) (n:m<k):∀j,j<=P.length->sec (my N (P.take j)) m=(mw (P.take j) m).getD (sec N m):=by
 intro j
 induction j with
 | zero=>intro _;rfl
 | succ j f=>
  intro g;have a:j<P.length:=by omega
  have b:=i P[j] (Nj a);have c:=Ss (P.take j) l λy d=>i y (xI d);rw[<-zU a,XE,PO];by_cases e:P[j].1=m
  .rw[ze e,<-e,sp c b.1 b.2];rfl
  .rw[zb e,Me c b.1 n b.2 (λh=>e h.symm)];exact f (by omega)
theorem Sr (a:N.length=64*k) (b:∀x∈P,WrOk k x) (m) (c:m<k):sec (my N P) m=(mw P m).getD (sec N m):=by
 have:=XD a b m c P.length zL
 rwa [xN]at this
theorem gX (b:h<256) (c:∀x∈P,WrOk k x):∀x∈jv P h,WrOk k x:=by intro x a;exact c _ (pN P x.1 x.2 ((ru P h b x).1 a).2)
theorem pI (e:k<=256) (d:h<256) (b:N.length=64*k) (c:∀x∈P,WrOk k x):my N (jv P h)=my N P:=by refine Jc (Ss _ b (gX d c)) (Ss _ b c) λm a=>?_;rw[Sr b (gX d c) m a,Sr b c m a,Xb P h m d (by omega)]
theorem OZ (c:∀x∈P,WrOk k x):∀x∈emit P,RbOk k x:=by intro x b;obtain⟨y,a,rfl⟩:=yd.1 b;exact zw (c y a)
theorem PG:∀{st},On st k->(∀x∈P,WrOk k x)->(runE st (emit P)).N=my st.N P/\(runE st (emit P)).S=st.S:=by
 induction P with
 | nil=>intro st _ _;exact⟨rfl,rfl⟩
 | cons x P d=>
  intro st h a;have f:=a x (by simp);have e:doE st (x.1,x.2,false)=pV st x.1 x.2:=by unfold doE;rw[zb (by simp)]
  have b:=d (st:=doE st (x.1,x.2,false)) (h.do (zw f)) λy c=>a y (by simp[c]);show (runE (doE st (x.1,x.2,false)) (emit P)).N=my (putS st.N x.1 x.2) P/\(runE (doE st (x.1,x.2,false)) (emit P)).S=_;rw[b.1,b.2,e,O9 h];exact⟨rfl,rfl⟩
theorem Ey:∀{st st'},On st k->On st' k->st.N=st'.N->(∀x∈l,RbOk k x)->(runE st l).N=(runE st' l).N:=by
 induction l with
 | nil=>intro st st' _ _ e _;exact e
 | cons x l f=>
  intro st st' h a e b;have c:=b x (by simp);refine f (h.do c) (a.do c) ?_ λy d=>b y (by simp[d]);unfold doE;split
  .rw[P0 h,P0 a];exact e
  .rw[O9 h,O9 a];show putS _ _ _=putS _ _ _;rw[e]
theorem Co {r:List Rb} (h:∀x∈emit P++r,RbOk k x):∀x∈P,WrOk k x:=by
 intro x a;have:=h (x.1,x.2,false) (Mx _ (yd.2 ⟨x,a,rfl⟩));rcases this with h|h
 .cases h
 .exact h
theorem Ex (w:k<=256) (l) (h) (t:h<256) (st) (u:On st k) (v:∀x∈l,RbOk k x):(runE st (rE [] h l)).N=(runE st l).N/\∀x∈rE [] h l,RbOk k x:=by
 have i:∀(j) (l) (h) (st),h<256->l.length<=j->On st k->(∀x∈l,RbOk k x)->(runE st (rE [] h l)).N=(runE st l).N/\∀x∈rE [] h l,RbOk k x:=by
  intro j
  induction j with
  | zero=>
   intro l h st t d u v;have:l=[]:=(by cases l with|nil=>rfl|cons a l=>simp at d);subst this;have e:rE [] h []=emit (jv [] h):=rfl;rw[e,(PG u (gX t (λx b=>by simp at b))).1,pI w t u.n (λx b=>by simp at b)];exact⟨rfl,OZ (gX t (λx b=>by simp at b))⟩
  | succ j q=>
   intro l h st t d u v;rcases Wk l with⟨P,rfl⟩|⟨P,m,D,r,rfl,s⟩
   .have c:=Co (r:=[]) (by simpa using v);rw[ry,yJ,(PG u (gX t c)).1,(PG u c).1,pI w t u.n c];exact⟨rfl,OZ (gX t c)⟩
   .have c:=Co v;have f:∀x∈r,RbOk k x:=λx b=>v x (by simp[b]);have g:=u.run (OZ (gX t c));have p:=u.run (OZ c);have o:=q r (Pm P h) (RH (runE st (emit (jv P h)))) (fY P h t) (by omega) g.flush f;rw[Q6,yJ];refine⟨?_,λx b=>?_⟩
    .rw[PH,PH];show (runE (RH (runE st (emit (jv P h)))) _).N=(runE (RH (runE st (emit P))) _).N;rw[o.1];refine Ey g.flush p.flush ?_ f;rw[P0 g,P0 p];show (runE st (emit (jv P h))).N=(runE st (emit P)).N;rw[(PG u (gX t c)).1,(PG u c).1,pI w t u.n c]
    .rcases yN.1 b with b|b
     .exact OZ (gX t c) x b
     .rcases yZ.1 b with rfl|b
      .exact zu rfl
      .exact o.2 x b
 exact i l.length l h st t zL u v
open Go.RowKit
structure Rq where
 n:Nat
 v:Value
 D:List Int
 b:Bool
def rab (x:Rq):Rb:=(x.n,x.D,x.b)
def rq3 (x:Rq):List Value:=[.int .i64 x.n,x.v,.bool x.b]
def rS (E:List Rq):List Value:=E.flatMap rq3
theorem kD (l):(rS l).length=l.length*3:=by
 induction l with
 | nil=>rfl
 | cons x l a=>simp only[rS,rq3,Nm,zl,yv,xC]at *;omega
theorem ZD (a b):rS (a++b)=rS a++rS b:=by simp[rS]
theorem Qj (x) (b):rS (x::b)=rq3 x++rS b:=by simp[rS]
theorem NS (l) (k):(rS l).take (k*3)=rS (l.take k)/\(rS l).drop (k*3)=rS (l.drop k):=by
 by_cases b:k<=l.length
 .have e:rS l=rS (l.take k)++rS (l.drop k):=by rw[<-ZD,xr]
  have a:(rS (l.take k)).length=k*3:=by rw[kD,Ni];omega
  constructor
  .rw[e,<-a,sP]
  .rw[e,<-a,List.drop_left]
 .have:=kD l;rw[zo (l:=l) (by omega),yG (l:=l) (by omega),zo (by omega),yG (by omega)];exact⟨rfl,rfl⟩
theorem fv (l) (k) (hk):(rS l)[k*3]?=some (.int .i64 (l[k].n))/\(rS l)[k*3+1]?=some l[k].v/\(rS l)[k*3+2]?=some (.bool l[k].b):=by
 have e:rS l=rS (l.take k)++(.int .i64 (l[k].n)::l[k].v::.bool l[k].b::rS (l.drop (k+1))):=by
  conv=>lhs;rw[<-xr k l,yR hk,ZD,Qj]
  rfl
 have a:(rS (l.take k)).length=k*3:=by rw[kD,Ni];omega
 rw[e];refine⟨?_,?_,?_⟩
 .rw[zx (by omega),a,show k*3-k*3=0 by omega];rfl
 .rw[zx (by omega),a,show k*3+1-k*3=1 by omega];rfl
 .rw[zx (by omega),a,show k*3+2-k*3=2 by omega];rfl
def RqOk (w:World) (x:Rq):Prop:=(x.b=true/\x.n=0/\x.v=.slice none 0 0/\x.D=[])\/(x.b=false/\x.n<256/\uM w x.v x.D/\x.D.length=64)
theorem RqOk.below {x:Rq} (h:RqOk w x) (e:Below w w w'):RqOk w' x:=by
 rcases h with h|⟨c,a,d,b⟩
 .exact zu h
 .exact zw ⟨c,a,uq.below d e,b⟩
def SA (w:World) (base:Nat) (x:Rq):Prop:=(x.b=true/\x.n=0/\x.v=.slice none 0 0/\x.D=[]) \/
 (x.b=false/\x.n<256/\x.D.length=64/\∃g cap cur,x.v=.slice (some ⟨g,0,none⟩) 64 cap/\(base<=g/\64<=cap)/\w.heap[g]?=some (.cells cur 5)/\cur.toList.take 64=u8s x.D)
def jp (w:World) (base:Nat) (v:Value) (L:List Rb):Prop:=∃E,E.map rab=L/\w.ownsRow base 184 3 v E.length (rS E)/\∀x∈E,SA w base x
theorem SA.one {x:Rq} (h:SA w base x):x.v.oneCell'=true:=by
 rcases h with⟨_,_,h,_⟩|⟨_,_,_,g,c,a,b,_⟩
 .rw[h];rfl
 .rw[b];rfl
theorem SA.mono {x:Rq} (h:SA w base x) (l:base'<=base):SA w base' x:=by
 rcases h with h|⟨i,e,k,g,b,a,f,c,d,j⟩
 .exact zu h
 .exact zw ⟨i,e,k,g,b,a,f,⟨zv l c.1,c.2⟩,d,j⟩
theorem SA.keep {x:Rq} (h:SA w base x) (n:∀i c,base<=i->w.heap[i]?=some (.cells c 5)->w'.heap[i]?=w.heap[i]?):SA w' base x:=by
 rcases h with h|⟨k,f,m,g,b,a,j,e,d,l⟩
 .exact zu h
 .exact zw ⟨k,f,m,g,b,a,j,e,(n g a e.1 d).trans d,l⟩
theorem jp.keeps (h:jp w base v L) (m:yK F w w') (n:∀i,base<=i->i<w.heap.size->¬F i):jp w' base v L:=by obtain⟨E,g,e,j⟩:=h;have a:=e.lt;exact⟨E,g,tI e λb d=>m.block b (a b d).2 (n b (a b d).1 (a b d).2),λx l=>(j x l).keep λi c k f=>m.block i (xB f) (n i k (xB f))⟩
theorem jp.below (h:jp w base v L) (a:Below w w w'):jp w' base v L:=
 h.keeps (F:=λ_=>False) (yK.of_below a) λ_ _ _ h=>h
theorem jp.mono (h:jp w base v L) (l:base'<=base):jp w base' v L:=by
 obtain⟨E,d,⟨f,b⟩,i⟩:=h;refine⟨E,d,⟨f,?_⟩,λx k=>(i x k).mono l⟩;rcases b with b|⟨g,c,a,e,j,r⟩
 .exact zu b
 .exact zw ⟨g,c,a,e,zv l j,r⟩
theorem Ve {E:List Rq} (h:E.map rab=L):E.length=L.length:=by rw[<-h,yD]
theorem I7 {E:List Rq} (h:∀x∈E,SA w base x):∀u∈rS E,u.oneCell'=true:=by
 intro u a;unfold rS at a;obtain⟨x,b,a⟩:=Np.1 a;have:=(h x b).one;simp[rq3]at a;rcases a with rfl|rfl|rfl
 .rfl
 .exact this
 .rfl
theorem iN {E:List Rq} (h:uq w v 3 E.length (rS E)):∃p cp,v=.slice p E.length cp/\Hid (0<E.length->∃g o,p=some ⟨g,o,none⟩/\g<w.heap.size/\∀(j) (x),(rS E)[j]?=some x->w.cell? ⟨g,o+j,none⟩=some x):=by
 obtain⟨_,⟨b,d,e,rfl⟩|⟨g,o,a,rfl,c⟩⟩:=h
 .exact⟨d,e,by rw[b],λh=>by omega⟩
 .refine⟨_,a,rfl,λb=>⟨g,o,rfl,?_,c⟩⟩;exact zy (c _ _ (fv E 0 b).1)
theorem RqOk.shape {x:Rq} (h:RqOk w x):∃p l c,x.v=.slice p l c/\(x.b=false->l=64)/\x.n<256:=by
 rcases h with⟨_,e,d,_⟩|⟨j,e,d,f⟩
 .exact⟨none,0,0,d,λh=>by simp_all,by omega⟩
 .obtain⟨_,⟨k,_⟩|⟨g,o,a,i,_⟩⟩:=d
  .omega
  .exact⟨_,_,a,i,λ_=>f,e⟩
theorem I9 (v) (E) (w) (X:uq w v 3 E.length (rS E)) (Y:∀x∈E,RqOk w x) (Z:E.length<=100):
 Calls prog 192 #[v] w (κ w ()):=by
 obtain⟨p,W,rfl,G⟩:=iN X;obtain⟨N,u⟩:=zD E.length;have O:=za Y;rw[u.o]at Z G;rw[u.o];clear X Y;have M:¬100<(N:Int):=by omega
 go_enter func192,ntmps192
 go_wp2;go_loopw [10] (λi wr=>∃k:Nat,k<=N/\i=.int .i64 k/\Below w w wr) (λi _=>N-(intOf i).toNat)
 .exact⟨0,yh _,rfl,zB⟩
 .obtain⟨k,T,rfl,c⟩:=hrel;by_cases q:k<N
  .obtain⟨g,o,rfl,l,m⟩:=G.o (by omega);have f:k<E.length:=(by rw[u.o];exact q);obtain⟨A,y,B⟩:=fv E k f;obtain⟨H,I,J,h,a,t⟩:=(O.o E[k] (Nj f)).shape;rw[h]at y;have Q:=(c.cell (p:=⟨g,o+k*3,none⟩) l).trans (m _ _ A);have K:=(c.cell (p:=⟨g,o+(k*3+1),none⟩) l).trans (m _ _ y);have C:=(c.cell (p:=⟨g,o+(k*3+2),none⟩) l).trans (m _ _ B);rw[<-yp]at K C;obtain⟨d,s⟩:=zD (E[k].n);obtain⟨D,r⟩:=zD (E[k].b);rw[s.o]at Q t;rw[r.o]at C a;have F:k<(N:Int):=(by omega);have P:=zr l c.size;have L:¬g=wr.heap.size:=(by omega);have j:Hid (Below w w (wr.alloc (.cells #[d,(H,I,J),.bool D] 184))):=c.alloc c.size _;clear m A y B h;cases D with
   | true=>
    clear a;go_wp2;go_roundw
    .exact⟨k+1,by omega,by go_num,j.o⟩
    .simp[intOf];omega
   | false=>
    have z:=a rfl;subst z;have R:decide ((d:Int)<0)=false:=(by rw[zz];omega);have U:decide (256<=(d:Int))=false:=(by rw[zz];omega);have S:¬256<=(d:Int):=(by omega);have V:¬256<=d:=(by omega);clear a;go_wp2;go_roundw
    .exact⟨k+1,by omega,by go_num,j.o⟩
    .simp[intOf];omega
  .go_wp2;go_ret;exact⟨rfl,c⟩
theorem Lo (x:Rq) (w) (h:∃p l c,x.v=.slice p l c):Calls prog 194 #[.agg #[x.n,x.v,.bool x.b]] w (κ w (.bool x.b)):=by obtain⟨p,l,c,h⟩:=h;rw[h];obtain⟨g,a⟩:=zD x.n;obtain⟨f,d⟩:=zD x.b;rw[a.o,d.o];go_enter func194,ntmps194;go_wp2;go_ret;exact⟨rfl,zB.alloc zL _⟩
def barI (E:List Rq):Int:=match E.findIdx? λx=>x.b with|some k=>k|none=> -1
theorem FM (v) (E) (w) (Y:uq w v 3 E.length (rS E)) (Z:∀x∈E,RqOk w x) (hl:E.length<=1000):
 Calls prog 193 #[v,.func (.func 194) #[] #[]] w (κ w (barI E:Int)):=by
 obtain⟨p,X,rfl,I⟩:=iN Y;obtain⟨N,q⟩:=zD E.length;have S:=za Z;rw[q.o]at hl I;rw[q.o];clear Y Z;go_enter func193,ntmps193;go_wp2;go_loopw [8] (λi wr=>∃k:Nat,k<=N/\i=.int .i64 k/\Hid (∀j (c:j<E.length),j<k->E[j].b=false)/\Below w w wr) (λi _=>N-(intOf i).toNat)
 .exact⟨0,yh _,rfl,λj _ c=>by omega,zB⟩
 .obtain⟨k,V,rfl,B,m⟩:=hrel;by_cases t:k<N
  .obtain⟨g,o,rfl,u,r⟩:=I.o (by omega);have d:k<E.length:=(by rw[q.o];exact t);obtain⟨D,C,F⟩:=fv E k d;obtain⟨K,M,O,h,_,_⟩:=(S.o E[k] (Nj d)).shape;have s:=za (λW=>Lo E[k] W ⟨K,M,O,h⟩);rw[h]at C s;have T:=(m.cell (p:=⟨g,o+k*3,none⟩) u).trans (r _ _ D);have P:=(m.cell (p:=⟨g,o+(k*3+1),none⟩) u).trans (r _ _ C);have G:=(m.cell (p:=⟨g,o+(k*3+2),none⟩) u).trans (r _ _ F);rw[<-yp]at P G;obtain⟨U,z⟩:=zD (E[k].n);obtain⟨Q,l⟩:=zD (E[k].b);rw[z.o]at T s;rw[l.o]at G s;have H:k<(N:Int):=(by omega);clear r D C F h;go_wp2_with fail
   refine (s.o _).mono ?_;cases Q with
   | true=>
    have y:Hid (barI E=k):=(by show _=_;unfold barI;have:E.findIdx? (λx=>x.b)=some k:=(by rw[xG];exact⟨d,l.o,λj c=>by simpa using B.o j (by omega) c⟩);rw[this]);rintro e J ⟨rfl,a⟩;have f:=zi m a;clear a;go_wp2;go_ret;rw[y.o];exact⟨rfl,f⟩
   | false=>
    have A:Hid (∀j (c),j<k+1->E[j].b=false):=λj c L=>by
     by_cases e:j=k
     .subst e;exact l.o
     .exact B.o j c (by omega)
    rintro e J ⟨rfl,a⟩;have f:=zi m a;clear a;go_wp2;go_roundw
    .exact⟨k+1,by omega,by go_num,A,f⟩
    .simp[intOf];omega
  .have y:Hid (barI E = -1):=(by show _=_;unfold barI;have:E.findIdx? (λx=>x.b)=none:=(by rw[vl];intro x R;obtain⟨j,c,rfl⟩:=wv R;exact B.o j c (by rw[q.o]at c;omega));rw[this]);go_wp2;go_ret;rw[y.o];exact⟨rfl,m⟩
structure Jw where
 n:Nat
 v:Value
 D:List Int
def jab (x:Jw):Wr:=(x.n,x.D)
def jec (x:Jw):Nat×Value:=(x.n,x.v)
def jh (E:List Jw):List Value:=P2 (E.map jec)
theorem SW (a b):jh (a++b)=jh a++jh b:=by unfold jh;rw[yo,SY]
theorem RE (E) (k) (hk):(jh E)[k*2]?=some (.int .i64 (E[k].n))/\(jh E)[k*2+1]?=some E[k].v:=by have:=Sm (E.map jec) k (by simpa using hk);simpa[jh,jec]using this
def JwOk (w:World) (x:Jw):Prop:=x.n<256/\uM w x.v x.D/\x.D.length=64
def gG (w:World) (base:Nat) (x:Jw):Prop:=x.n<256/\x.D.length=64/\∃g cap cur,x.v=.slice (some ⟨g,0,none⟩) 64 cap/\(base<=g/\64<=cap)/\w.heap[g]?=some (.cells cur 5)/\cur.toList.take 64=u8s x.D
theorem gG.ok {x:Jw} (h:gG w base x):JwOk w x:=by obtain⟨d,a,g,e,b,i,_,f,c⟩:=h;refine⟨d,?_,a⟩;rw[i];exact rH a f c
theorem gG.keep {x:Jw} (h:gG w base x) (m:∀i c,base<=i->w.heap[i]?=some (.cells c 5)->w'.heap[i]?=w.heap[i]?):gG w' base x:=by obtain⟨k,j,g,b,a,l,d,e,f⟩:=h;exact⟨k,j,g,b,a,l,d,(m g a d.1 e).trans e,f⟩
theorem JwOk.shape {x:Jw} (h:JwOk w x):∃p c,x.v=.slice p 64 c:=by
 obtain⟨_,⟨_,⟨e,_⟩|⟨g,o,a,b,_⟩⟩,d⟩:=h
 .omega
 .exact⟨_,a,by rw[b,d]⟩
def Iy (w:World) (v:Value) (E:List Jw):Prop:=uq w v 2 E.length (jh E)/\∀x∈E,JwOk w x
theorem SV {E:List Jw} (h:uq w v 2 E.length (jh E)):∃p cp,v=.slice p E.length cp/\Hid (0<E.length->∃g o,p=some ⟨g,o,none⟩/\g<w.heap.size/\∀(j) (x),(jh E)[j]?=some x->w.cell? ⟨g,o+j,none⟩=some x):=by
 obtain⟨_,⟨b,d,e,rfl⟩|⟨g,o,a,rfl,c⟩⟩:=h
 .exact⟨d,e,by rw[b],λh=>by omega⟩
 .exact⟨_,a,rfl,λb=>⟨g,o,rfl,zy (c _ _ (RE E 0 b).1),c⟩⟩
def qJ (w:World) (b B:Nat) (v:Value) (E:List Jw):Prop:=w.ownsRow b 182 2 v E.length (jh E)/\∀x∈E,gG w B x
theorem qJ.at {E:List Jw} (h:qJ w b B v E):Iy w v E:=⟨uq.of_owns h.1,λx a=>(h.2 x a).ok⟩
theorem qJ.below {E:List Jw} (h:qJ w b B v E) (e:Below w w w'):qJ w' b B v E:=
 ⟨tI h.1 λq a=>e.block q (h.1.lt q a).2,λx d=>(h.2 x d).keep λi _ _ c=>e.block i (xB c)⟩
theorem LQ (n) (K:0<=n/\n<4294967296) (v) (b) (w) (h:uM w v b) (L:b.length<=1000000):
 Calls prog 157 #[.int .u32 n,v] w λe w'=>e=.returned (.int .u32 (sumB n b))/\w=w':=by
 obtain⟨N,l⟩:=zD b.length;obtain⟨p,J,G,H⟩:∃p c,v=.slice p N c/\Hid (0<N->∃g o,p=some ⟨g,o,none⟩/\∀(j:Nat) (x:Value),(u8s b)[j]?=some x->w.cell? ⟨g,o+j,none⟩=some x):=by
  rw[<-l.o];obtain⟨_,⟨B,F,t,rfl⟩|⟨g,o,s,rfl,m⟩⟩:=h
  .exact⟨F,t,by rw[B],λh=>by omega⟩
  .exact⟨_,s,rfl,λ_=>⟨g,o,rfl,m⟩⟩
 subst G;rw[l.o]at L;clear h;go_enter func157,ntmps157;go_wp2
 go_loop [0,9] (λa i=>∃(k:Nat) (q:Int),k<=N/\i=.int .i64 k/\a=.int .u32 q/\0<=q/\q<4294967296/\Hid (sumB n (b.take k)=q)) (λ_ i=>N-(intOf i).toNat)
 .exact⟨0,n,yh _,rfl,rfl,K.1,K.2,rfl⟩
 .obtain⟨k,q,I,rfl,rfl,D,A,u⟩:=hrel;by_cases r:k<N
  .obtain⟨g,o,rfl,m⟩:=H.o (by omega);have d:k<b.length:=(by rw[l.o];exact r);obtain⟨c,y⟩:=zD (b[k]);have t:=m k _ (Ch b k d);rw[y.o]at t;have z:=l9 q c;have E:Hid (sumB n (b.take (k+1))=PD q c):=(by show _=_;rw[<-zU d,Ku,u.o,y.o]);have f:=za z;clear m z;go_wp2
   go_round
   .exact⟨k+1,PD q c,by omega,by go_num,rfl,f.o.1,f.o.2,E⟩
   .simp[intOf];omega
  .have C:Hid (sumB n b=q):=(by have:=u.o;rw[zo (by rw[l.o];omega)]at this;exact this);go_wp2;go_ret;rw[C.o];exact⟨rfl,rfl⟩
theorem IQ (n) (a:0<=n) (b:n<4294967296) (w):Calls prog 117 #[.int .u32 n] w <|ρ (.slice (some ⟨w.heap.size,0,none⟩) 4 4) λw'=>w'=w.alloc (.cells (u8s (uz n)).toArray 5):=by
 go_enter func117,ntmps117
 go_wp2;go_ret;exact⟨rfl,by simp[u8s,uz]⟩
theorem nZ (a b c d) (g o m cp) (k:4<=m) (w) (l:w.cell? ⟨g,o,none⟩=some (.int .u8 a)) (n:w.cell? ⟨g,o+1,none⟩=some (.int .u8 b)) (p:w.cell? ⟨g,o+2,none⟩=some (.int .u8 c)) (q:w.cell? ⟨g,o+3,none⟩=some (.int .u8 d)):
 Calls prog 161 #[.slice (some ⟨g,o,none⟩) m cp] w (κ w (.int .u32 (rdB a b c d))):=by
 have j:0<m:=by omega
 have f:1<m:=by omega
 have h:2<m:=by omega
 have i:3<m:=by omega
 go_enter func161,ntmps161
 go_wp2
 go_quiet (fail)
 go_wp2;go_ret;exact⟨rfl,⟨rfl,rfl,rfl,zL,λ_ _=>rfl⟩⟩
theorem X3 (v) (E) (w) (h:Iy w v E) (hl:E.length<=1000):
 Calls prog 118 #[v] w (κ w (.int .u32 (sumW (E.map jab)))):=by
 have HE:=za h.2;obtain⟨p,cp,rfl,V⟩:=SV h.1;obtain⟨N,J⟩:=zD E.length;rw[J.o]at V hl;rw[J.o];clear h;go_enter func118,ntmps118;go_wp2;go_loopw [3,8] (λa i wr=>∃(k:Nat) (q:Int),k<=N/\i=.int .i64 k/\a=.int .u32 q/\0<=q/\q<4294967296/\Hid (sumW ((E.take k).map jab)=q)/\Below w w wr) (λ_ i _=>N-(intOf i).toNat)
 .exact⟨0,2166136261,yh _,rfl,rfl,by omega,by omega,rfl,zB⟩
 .obtain⟨k,q,hk,rfl,rfl,C,s,S,B⟩:=hrel;by_cases L:k<N
  .obtain⟨g,o,rfl,M,R⟩:=V.o (by omega);have j:k<E.length:=(by rw[J.o];exact L);obtain⟨I,K⟩:=RE E k j;have b:=HE.o E[k] (Nj j);have d:sumW ((E.take (k+1)).map jab)=sumB (sumB q [(E[k].n)]) E[k].D:=(by rw[<-zU j,yo];show sumW (_++[jab E[k]])=_;rw[ic,S.o];rfl);generalize E[k]=x at I K b d;obtain⟨c,xv,P⟩:=x;obtain⟨m,r,y⟩:=b.shape;dsimp only at y I K d;subst y;have c0:=(B.cell (p:=⟨g,o+k*2,none⟩) M).trans (R _ _ I);have X:=(B.cell (p:=⟨g,o+(k*2+1),none⟩) M).trans (R _ _ K);rw[<-yp]at X;have Y:c<256:=b.1;have U:k<(N:Int):=(by omega);have ab:=zr M B.size;have Z:¬g=wr.heap.size:=(by omega);have f:=nW ⟨C,s⟩ [(c:Int)];obtain⟨T,z⟩:=zD (sumB q [(c:Int)]);rw[z.o]at d f;have G:=nW f P;have O:=za d;have A:=za G;have t:Below wr wr (wr.alloc (.cells #[c,.slice m 64 r] 182)):=zB.alloc zL _;have H:Below wr wr ((wr.alloc (.cells #[c,.slice m 64 r] 182)).alloc (.cells (u8s [c]).toArray 5)):=t.alloc (by simp) _;have F:=za (zi B H);have l:=zO (wr.alloc (.cells #[c,.slice m 64 r] 182)) (.cells (u8s [(c:Int)]).toArray 5);rw[show (wr.alloc (.cells #[c,.slice m 64 r] 182)).heap.size=wr.heap.size+1 by simp]at l;have u:=za (LQ q ⟨C,s⟩ (.slice (some ⟨wr.heap.size+1,0,none⟩) 1 1) [(c:Int)] _ (rH (n:=1) rfl l (by simp[u8s])) (by simp));rw[z.o]at u;have Q:=za (LQ T f (.slice m 64 r) P ((wr.alloc (.cells #[c,.slice m 64 r] 182)).alloc (.cells (u8s [(c:Int)]).toArray 5)) (uq.below b.2.1 F.o) (by rw[b.2.2];omega));clear R I K b d f G t H l;go_wp2_with fail
   refine u.o.mono ?_;rintro e w' ⟨rfl,rfl⟩;go_wp2_with fail
   refine Q.o.mono ?_;rintro e w' ⟨rfl,rfl⟩;go_wp2;go_roundw
   .exact⟨k+1,sumB T P,by omega,by go_num,rfl,A.o.1,A.o.2,O,F.o⟩
   .simp[intOf];omega
  .have W:Hid (sumW (E.map jab)=q):=(by have:=S.o;rw[zo (by rw[J.o];omega)]at this;exact this);go_wp2;go_ret;rw[W.o];exact⟨rfl,B⟩
def hB (D:List Int) (j:Nat):Int:=D.getD j 0
def fj (N:List Int):Int:=rdB (hB (sec N 5) 1) (hB (sec N 5) 2) (hB (sec N 5) 3) (hB (sec N 5) 4)
def O8 (N:List Int):Nat:=(hB (sec N 5) 5).toNat
def mz (N:List Int) (n:Nat):List Wr:=(List.range n).map λi=>((hB (sec N 5) (6+i)).toNat,sec N (6+i))
def Pb (N:List Int):Bool:=(hB (sec N 5) 0==74)&&decide (1<=O8 N)&&decide (O8 N<=30)
def iJ (N:List Int):Bool:=(hB (sec N (6+O8 N)) 0==67)&&(rdB (hB (sec N (6+O8 N)) 1) (hB (sec N (6+O8 N)) 2) (hB (sec N (6+O8 N)) 3) (hB (sec N (6+O8 N)) 4)==fj N) &&
 (rdB (hB (sec N (6+O8 N)) 5) (hB (sec N (6+O8 N)) 6) (hB (sec N (6+O8 N)) 7) (hB (sec N (6+O8 N)) 8)==sumW (mz N (O8 N)))
theorem lD (N) (n):mz N (n+1)=mz N n++[((hB (sec N 5) (6+n)).toNat,sec N (6+n))]:=by unfold mz;rw[vG,yo];rfl
theorem Qa (N) (n):(mz N n).length=n:=by unfold mz;simp
def qC (D:List Int):Prop:=∀x∈D,0<=x/\x<=255
theorem qC.get (h:qC D) (j):0<=hB D j/\hB D j<=255:=by
 unfold hB;rw[zt];cases a:D[j]? with
 | none=>simp
 | some x=>exact h x (wQ a)
theorem qC.sec (h:qC D) (n):qC (sec D n):=λx a=>h x (vN (xI a))
theorem gI (h:Lb D w v w') (l:D.length=64):∃g cap cur,v=.slice (some ⟨g,0,none⟩) 64 cap/\64<=cap/\w.heap.size<=g/\g<w'.heap.size/\(∀j,j<64->w'.cell? ⟨g,j,none⟩=some (.int .u8 (hB D j)))/\w'.heap[g]?=some (.cells cur 5)/\cur.toList.take 64=u8s D/\Below w w w':=by obtain⟨g,cap,cur,d,⟨i,e⟩,b,a,k⟩:=h;rw[l]at d e a;refine⟨g,cap,cur,d,e,i,xB b,λj f=>?_,b,a,k⟩;rw[zC b];have c:=Ch D j (by omega);rw[<-a,zI,ze f]at c;unfold hB;rw[zt,zk (by omega)];simpa using c
theorem jwInfo: (prog.info? 182).map (λi=>(i.zero,i.size,i.bytes))=some (some (.agg #[(),.slice none 0 0]),2,32):=by kernel_rfl
theorem jwT: prog.underlying 131=some (.slice 182):=by kernel_rfl
theorem EG {d:Value} (g:64<=kd) (i:kd<=256) (h:uT w d st kd F):Calls prog 160 #[d,(5:Int),(32:Int)] w λe w'=>e=.returned ()/\w=w':=by
 have b:=za (jm h);obtain⟨a,rfl⟩:=h.ptr;clear h;have c:=zW (kd-32) (by omega);have f:¬((kd:Int)-32<5):=by omega
 go_enter func160,ntmps160
 go_wp2_with fail
 refine b.o.mono ?_;rintro e w' ⟨rfl,rfl⟩;go_wp2;go_ret;exact⟨rfl,rfl⟩
def j7 (N:List Int) (w:World) (e:Ending) (w':World):Prop:=
 (Pb N=false/\e=.returned (.tuple #[.slice none 0 0,.int .u32 0,.bool false,()])/\Below w w w') \/
 (Pb N=true/\iJ N=false/\e=.returned (.tuple #[.slice none 0 0,.int .u32 (fj N),.bool false,()])/\Below w w w') \/
 (Pb N=true/\iJ N=true/\∃v E,e=.returned (.tuple #[v,.int .u32 (fj N),.bool true,()])/\E.map jab=mz N (O8 N)/\qJ w' w w v E/\Below w w w')
theorem I6 {a:Addr} (aa:64<=kd) (ap:kd<=256) (h:uT w a st kd F) (hN:qC st.N):
 Calls prog 122 #[a,(5:Int),(32:Int)] w (j7 st.N w):=by
 unfold j7;have HD:=za h;have aJ:=h.lens.2;have ae:∀n,n<kd->(sec st.N n).length=64:=λn hn=>jn aJ hn;have s:=za ae;have af:=za (λn j=>(hN.sec n).get j);have aT:=za (EG aa ap h);have aF:=za (oX h 5 (by omega));clear ae aJ h;go_enter func122,ntmps122;go_wp2_with fail
 refine aT.o.mono ?_;rintro e w' ⟨rfl,rfl⟩;go_wp2_with fail
 refine aF.o.mono ?_;rintro e w1 ⟨v1,rfl,aA⟩;obtain⟨g,V,_,rfl,bD,bR,aH,hc,_,_,aZ⟩:=gI aA (s.o 5 (by omega));have HC:=za hc;have T:=za aZ;obtain⟨x0,aV⟩:=zD (hB (sec st.N 5) 0);obtain⟨n,Hn⟩:=zD (O8 st.N);have aK:hB (sec st.N 5) 5=n:=by have:=af.o 5 5;rw[<-Hn.o];unfold O8;omega
 have c0:=hc 0 (by omega);have c5:=hc 5 (by omega);rw[aV.o]at c0;rw[aK]at c5;have bn:(n:Int)<=255:=by have:=af.o 5 5;omega
 have M:Hid (Pb st.N=((x0==74)&&decide (1<=n)&&decide (n<=30))):=by show _=_;unfold Pb;rw[aV.o,Hn.o]
 clear hc aA aZ aK aF aT;by_cases O:x0=74;case neg=>
  have B:(x0==74)=false:=by simpa using O
  have b2:(x0 != 74)=true:=by simp[bne,B]
  have L:Hid (Pb st.N=false):=by show _=_;rw[M.o,B];rfl
  clear O;go_wp2;exact yE (v:=.tuple #[.slice none 0 0,.int .u32 0,.bool false,()]) (by simp[results,results122,go_sem]) rfl (zu ⟨L.o,rfl,T.o⟩)
 have B:(x0==74)=true:=by simpa using O
 have b2:(x0 != 74)=false:=by simp[bne,B]
 clear O;by_cases bg:1<=n;case neg=>
  have d1:decide (n<1)=true:=by rw[yx];omega
  have bt:n=0:=by omega
  subst bt;have L:Hid (Pb st.N=false):=by show _=_;rw[M.o,B];rfl
  go_wp2;exact yE (v:=.tuple #[.slice none 0 0,.int .u32 0,.bool false,()]) (by simp[results,results122,go_sem]) rfl (zu ⟨L.o,rfl,T.o⟩)
 by_cases aU:n<=30;case neg=>
  have d1:decide ((n:Int)<1)=false:=by rw[zz];omega
  have d2:decide (30<(n:Int))=true:=by rw[yx];omega
  have d3:decide (n<1)=false:=by rw[zz];omega
  have d4:decide (30<n)=true:=by rw[yx];omega
  have L:Hid (Pb st.N=false):=by show _=_;rw[M.o,zJ aU];simp
  go_wp2;exact yE (v:=.tuple #[.slice none 0 0,.int .u32 0,.bool false,()]) (by simp[results,results122,go_sem]) rfl (zu ⟨L.o,rfl,T.o⟩)
 have L:Hid (Pb st.N=true):=by show _=_;rw[M.o,B,zX bg,zX aU];rfl
 have d1:decide ((n:Int)<1)=false:=by rw[zz];omega
 have d2:decide (30<(n:Int))=false:=by rw[zz];omega
 have d3:decide (n<1)=false:=by rw[zz];omega
 have d4:decide (30<n)=false:=by rw[zz];omega
 have bs:¬V=1:=by omega
 have bb:¬1=V:=by omega
 have b9:1<=V:=by omega
 obtain⟨sq,z⟩:=zD (fj st.N);have aG:=za (nZ (hB (sec st.N 5) 1) (hB (sec st.N 5) 2) (hB (sec st.N 5) 3) (hB (sec st.N 5) 4) g 1 63 (V-1) (by omega) w1 (HC.o 1 (by omega)) (HC.o 2 (by omega)) (HC.o 3 (by omega)) (HC.o 4 (by omega)));rw[show rdB (hB (sec st.N 5) 1) (hB (sec st.N 5) 2) (hB (sec st.N 5) 3) (hB (sec st.N 5) 4)=sq from z.o]at aG;go_wp2_with fail
 refine aG.o.mono ?_;rintro e w2 ⟨rfl,Q⟩;have C:=za (zi T.o Q);have bq:Hid (∀j,j<64->w2.cell? ⟨g,j,none⟩=some (.int .u8 (hB (sec st.N 5) j))):=λj hj=>(Q.cell (p:=⟨g,j,none⟩) aH).trans (HC.o j hj);have b0:=zr aH Q.size;obtain⟨i0,aS,aC,aW,aN⟩:=yX jwInfo;have b8:=za aS;have bl:=za aC;have bi:=za aW;have bv:=za aN;clear Q c0 c5 d1 d2 d3 d4 HC aS aC aW aN B b2;go_wp2;go_loopw [15,56] (λl i wr=>∃(k:Nat) (E:List Jw),k<=n/\i=.int .i64 k/\Hid (E.map jab=mz st.N k)/\Hid (qJ wr w2 w l E)/\Hid (Below w2 w2 wr)) (λ_ i _=>n-(intOf i).toNat)
 .exact⟨0,[],yh _,rfl,rfl,⟨yL _ _ _ _,λx Y=>by simp at Y⟩,zB⟩
 .obtain⟨k,E,hk,rfl,H,HJ,HB⟩:=hrel;by_cases bS:k<n
  .have J:=za (HD.o.below (zi C.o HB.o));have aq:=za (oX J.o (6+k) (by omega));rw[show ((6+k:Nat):Int)=6+(k:Int) by omega]at aq;have bN:k<(n:Int):=(by omega);go_wp2_with fail
   refine aq.o.mono ?_;rintro e w3 ⟨v3,rfl,I⟩;obtain⟨A,b,aL,rfl,ai,ab,bJ,_,aP,aM,m⟩:=gI I (s.o (6+k) (by omega));have al:=za (HJ.o.below m);have D:=za (HB.o.trans (m.mono HB.o.size));have aB:=af.o 5 (6+k);obtain⟨y,Hy⟩:∃y:Nat,Hid (hB (sec st.N 5) (6+k)=(y:Int)):=⟨(hB (sec st.N 5) (6+k)).toNat,by show _=_;omega⟩;have br:(y:Int)<=255:=(by rw[<-Hy.o];exact aB.2);have c6:w3.cell? (g,6+k)=some (.int .u8 y):=(by rw[<-Hy.o];exact (D.o.cell (p:=⟨g,6+k,none⟩) b0).trans (bq.o (6+k) (by omega)));have bk:Hid (gG (w3.alloc (.cells #[y,.slice (some ⟨A,0,none⟩) 64 b] 182)) w ⟨y,.slice (some ⟨A,0,none⟩) 64 b,sec st.N (6+k)⟩):=
    ⟨by show y<256;omega,s.o (6+k) (by omega),A,b,aL,rfl,⟨zv C.o.size (zv HB.o.size ab),ai⟩,un aP _,aM⟩
   have aO:Hid ((E++[(⟨y,.slice (some ⟨A,0,none⟩) 64 b,sec st.N (6+k)⟩:Jw)]).map jab=mz st.N (k+1)):=(by show _=_;rw[yo,H.o,lD,Hy.o];rfl);have ak:E.length=k:=by
    have:=zQ List.length H.o
    rwa [yD,Qa]at this
   have aI:=za ak;have bh:=D.o.size;have ce:k<30:=(by omega);have e9:6+k<64:=(by omega);have bw:Hid ((w3.alloc (.cells #[y,.slice (some ⟨A,0,none⟩) 64 b] 182)).heap[w3.heap.size]?=some (.cells #[y,.slice (some ⟨A,0,none⟩) 64 b] 182)):=zH;have ag:=za (al.o.below (zB.alloc zL (.cells #[y,.slice (some ⟨A,0,none⟩) 64 b] 182)));clear aB m I aP aM ab ak J aq;go_wp2_with (at_builtin;refine yw _ rfl _ _ 131 rfl w2.heap.size 182 i0 (.agg #[(),.slice none 0 0]) 2 32 jwT b8.o bl.o bi.o bv.o rfl (by decide) _ _ _ rfl ag.o.1 ⟨_,0,none⟩ 1 1 [.int .i64 (y:Int),.slice (some ⟨A,0,none⟩) 64 b] rfl rfl (xF (cs:=#[.int .i64 (y:Int),.slice (some ⟨A,0,none⟩) 64 b]) (t:=182) (fr:=(0,0)) bw.o) (by simp[Value.oneCell']) (by rw[aI.o];unfold maxLen;omega) (by rw[aI.o];omega) (by simp;omega) ?_;intro v5 w5 ad r _)
   have X:Hid (qJ w5 w2 w v5 (E++[⟨y,.slice (some ⟨A,0,none⟩) 64 b,sec st.N (6+k)⟩])):=by
    have G:∀(i:Nat) (c),(w3.alloc (.cells #[y,.slice (some ⟨A,0,none⟩) 64 b] 182)).heap[i]?=some (.cells c 5)->w5.heap[i]?=(w3.alloc (.cells #[y,.slice (some ⟨A,0,none⟩) 64 b] 182)).heap[i]? :=λi c hi=>r.block i (xB hi) (λe=>rC ag.o.1 hi (by decide) e.symm);refine⟨by rw[zl,SW];exact ad,λx Y=>?_⟩;rcases yN.1 Y with Y|Y
    .exact (ag.o.2 x Y).keep λi c _ hi=>G i c hi
    .rw[xZ]at Y;subst Y;exact bk.o.keep λi c _ hi=>G i c hi
   have am:=za (Cd (D.o.alloc bh _) r (by simp;omega) (λq hq=>(HJ.o.1.lt q hq).1));clear ad r;go_wp2;go_roundw
   .exact⟨k+1,E++[(⟨y,.slice (some ⟨A,0,none⟩) 64 b,sec st.N (6+k)⟩:Jw)],by omega,by go_num,aO,X,am⟩
   .simp[intOf];omega
  .obtain rfl:k=n:=(by omega);have J:=za (HD.o.below (zi C.o HB.o));have ah:=za (oX J.o (6+k) (by omega));rw[show ((6+k:Nat):Int)=6+(k:Int) by omega]at ah;have aX:=C.o.trans (HB.o.mono C.o.size);have b7:=za aX;clear aX J;go_wp2_with fail
   refine ah.o.mono ?_;rintro e w3 ⟨v3,rfl,I⟩;obtain⟨gt,d,_,rfl,bp,bL,a9,an,_,_,m⟩:=gI I (s.o (6+k) (by omega));have D:=za (zi b7.o m);have al:=za (HJ.o.below m);have K:=za an;have aE:=an 0 (by omega);obtain⟨t0,a5⟩:=zD (hB (sec st.N (6+k)) 0);rw[a5.o]at aE;obtain⟨ts,a2⟩:=zD (rdB (hB (sec st.N (6+k)) 1) (hB (sec st.N (6+k)) 2) (hB (sec st.N (6+k)) 3) (hB (sec st.N (6+k)) 4));obtain⟨tz,aR⟩:=zD (rdB (hB (sec st.N (6+k)) 5) (hB (sec st.N (6+k)) 6) (hB (sec st.N (6+k)) 7) (hB (sec st.N (6+k)) 8));obtain⟨sw,a4⟩:=zD (sumW (mz st.N k));have R:Hid (iJ st.N=((t0==67)&&(ts==sq)&&(tz==sw))):=(by show _=_;unfold iJ;rw[Hn.o,a5.o,a2.o,aR.o,a4.o,z.o]);have ak:E.length=k:=by
    have:=zQ List.length H.o
    rwa [yD,Qa]at this
   clear an I m ah;by_cases P:t0=67;case neg=>
    have B:(t0==67)=false:=(by simpa using P);have b2:(t0 != 67)=true:=(by simp[bne,B]);have f:Hid (iJ st.N=false):=(by show _=_;rw[R.o,B];rfl);clear P;go_wp2;exact yE (v:=.tuple #[.slice none 0 0,.int .u32 (fj st.N),.bool false,()]) (by simp[results,results122,go_sem,z.o]) rfl (zw (zu ⟨L.o,f.o,rfl,D.o⟩))
   have B:(t0==67)=true:=(by simpa using P);have b2:(t0 != 67)=false:=(by simp[bne,B]);have bZ:¬d=1:=(by omega);have ca:1<=d:=(by omega);have bO:¬d=5:=(by omega);have bP:5<=d:=(by omega);have Z:=za (nZ (hB (sec st.N (6+k)) 1) (hB (sec st.N (6+k)) 2) (hB (sec st.N (6+k)) 3) (hB (sec st.N (6+k)) 4) gt 1 63 (d-1) (by omega) w3 (K.o 1 (by omega)) (K.o 2 (by omega)) (K.o 3 (by omega)) (K.o 4 (by omega)));rw[a2.o]at Z;clear P;go_wp2_with fail
   refine Z.o.mono ?_;rintro e w4 ⟨rfl,W⟩;have aQ:=za (zi D.o W);have bA:=za (al.o.below W);have u:Hid (∀j,j<64->w4.cell? ⟨gt,j,none⟩=some (.int .u8 (hB (sec st.N (6+k)) j))):=λj hj=>(W.cell (p:=⟨gt,j,none⟩) a9).trans (K.o j hj);clear W aE;by_cases U:ts=sq;case neg=>
    have b3:(ts==sq)=false:=(by simpa using U);have b4:(ts != sq)=true:=(by simp[bne,b3]);have f:Hid (iJ st.N=false):=(by show _=_;rw[R.o,b3];simp);clear U;go_wp2;exact yE (v:=.tuple #[.slice none 0 0,.int .u32 (fj st.N),.bool false,()]) (by simp[results,results122,go_sem,z.o]) rfl (zw (zu ⟨L.o,f.o,rfl,aQ.o⟩))
   have b3:(ts==sq)=true:=(by simpa using U);have b4:(ts != sq)=false:=(by simp[bne,b3]);have ac:=za (nZ (hB (sec st.N (6+k)) 5) (hB (sec st.N (6+k)) 6) (hB (sec st.N (6+k)) 7) (hB (sec st.N (6+k)) 8) gt 5 59 (d-5) (by omega) w4 (u.o 5 (by omega)) (u.o 6 (by omega)) (u.o 7 (by omega)) (u.o 8 (by omega)));rw[aR.o]at ac;clear U;go_wp2_with fail
   refine ac.o.mono ?_;rintro e w5 ⟨rfl,ao⟩;have am:=za (zi aQ.o ao);have X:=za (bA.o.below ao);have aY:=za (X3 u15 E w5 X.o.at (by omega));rw[H.o,a4.o]at aY;clear ao;go_wp2_with fail
   refine aY.o.mono ?_;rintro e w6 ⟨rfl,aj⟩;have a7:=za (zi am.o aj);have bu:=za (X.o.below aj);clear aj;by_cases S:tz=sw;case neg=>
    have b5:(tz==sw)=false:=(by simpa using S);have b6:(tz != sw)=true:=(by simp[bne,b5]);have f:Hid (iJ st.N=false):=(by show _=_;rw[R.o,b5];simp);clear S;go_wp2;exact yE (v:=.tuple #[.slice none 0 0,.int .u32 (fj st.N),.bool false,()]) (by simp[results,results122,go_sem,z.o]) rfl (zw (zu ⟨L.o,f.o,rfl,a7.o⟩))
   have b5:(tz==sw)=true:=(by simpa using S);have b6:(tz != sw)=false:=(by simp[bne,b5]);have f:Hid (iJ st.N=true):=(by show _=_;rw[R.o,B,b3,b5];rfl);clear S;go_wp2;refine yE (v:=.tuple #[u15,.int .u32 (fj st.N),.bool true,()]) (by simp[results,results122,go_sem,z.o]) rfl (zw (zw ⟨L.o,f.o,u15,E,rfl,by rw[Hn.o];exact H.o,?_,a7.o⟩));obtain⟨o1,o2⟩:=bu.o;refine⟨?_,o2⟩;obtain⟨e1,h|⟨g',aD,a6,bz,bm,r'⟩⟩:=o1
   .exact⟨e1,zu h⟩
   .exact⟨e1,zw ⟨g',aD,a6,bz,zv C.o.size bm,r'⟩⟩
open Go.Maps
def RV (v:Value):Option (DataW Value×List MemPlace):=some (.held v,[])
def keyL (n:Nat):Lit:=.int .i64 n
def mapD (E:List Rq):DataW Value:=E.foldl (λD x=>D.put (keyL x.n) (.held x.v)) (.map [])
def wrs (E:List Rq):List Wr:=E.map λx=>(x.n,x.D)
theorem qt (E) (x):mapD (E++[x])=(mapD E).put (keyL x.n) (.held x.v):=by unfold mapD;rw[xf];rfl
theorem Tm (E) (x):wrs (E++[x])=wrs E++[(x.n,x.D)]:=by simp[wrs]
theorem Ma (n):WideAt.IsKeyLit (keyL n):=by unfold keyL;trivial
theorem i7 {a:Nat} (h:keyL a=keyL b):a=b:=by unfold keyL at h;injection h with _ h;omega
structure FU (E:List Rq):Prop where
 im:IsMap (mapD E)
 back:∀kl,has (mapD E) kl=true->∃x∈E,kl=keyL x.n/\(∀z,(mapD E).atKey kl z=.held x.v)/\mw (wrs E) x.n=some x.D
 there:∀n,has (mapD E) (keyL n)=(mw (wrs E) n).isSome
theorem Y8 {E:List Rq} (h:FU E) (x):FU (E++[x]):=by
 refine⟨?_,?_,?_⟩
 .rw[qt];exact h.im.put _ _
 .intro d a;rw[qt]at a;by_cases e:d=keyL x.n
  .subst e;refine⟨x,by simp,rfl,λz=>?_,?_⟩
   .rw[qt];exact atKey_put_same h.im (Ma _) _ _
   .rw[Tm,PO,ze rfl]
  .rw[has_put_other e]at a;obtain⟨y,f,c,g,i⟩:=h.back d a;refine⟨y,by simp[f],c,λz=>?_,?_⟩
   .rw[qt,atKey_put_other e];exact g z
   .rw[Tm,PO,zb (λb=>e (by rw[c,<-b]))];exact i
 .intro n;rw[qt,Tm,PO];by_cases e:x.n=n
  .subst e;rw[has_put_same h.im (Ma _),ze rfl];rfl
  .rw[has_put_other (λb=>e (i7 b).symm),zb e];exact h.there n
theorem LU (E):FU E:=by
 have a:∀k,k<=E.length->FU (E.take k):=by
  intro k
  induction k with
  | zero=>intro _;exact⟨isMap_empty,λd b=>by simp[mapD,has]at b,λn=>rfl⟩
  | succ k c=>
   intro b;rw[<-zU (show k<E.length by omega)];exact Y8 (c (by omega)) _
 have:=a E.length zL
 rwa [xN]at this
def New64c (D:List Int) (w:World) (v:Value) (w':World):Prop:=
 ∃g cap cur,v=.slice (some ⟨g,0,none⟩) 64 cap/\(w.heap.size<=g/\64<=cap)/\w'.heap[g]?=some (.cells cur 5)/\cur.toList.take 64=u8s D/\Below w w w'
theorem Fw (v) (D) (w) (h:uM w v D) (l:D.length=64):Calls prog 104 #[v] w λe w'=>∃v',e=.returned v'/\New64c D w v' w':=
 (ZH v D w h (by omega) (by omega)).mono λe w' ⟨v',d,g,b,a,f,c,i,k,j⟩=>⟨v',d,g,b,a,by rw[f,l],⟨c.1,by rw[<-l];exact c.2⟩,i,by rw[<-l];exact k,j⟩
structure O2 (R:List Wr) (base:Nat) (w:World) (left:Lit->Bool) (O:List Rk):Prop where
 el:∀x∈O,x.1<256/\∃D cur,mw R x.1=some D/\D.length=64/\(base<=x.2.1/\64<=x.2.2)/\w.heap[x.2.1]?=some (.cells cur 5)/\cur.toList.take 64=u8s D
 nd:(O.map λx=>x.1).Nodup
 all:∀n D,mw R n=some D->left (keyL n)=true\/n∈O.map λx=>x.1
 out:∀x∈O,left (keyL x.1)=false
theorem O2.keep (h:O2 R base w left O) (l:∀i c,base<=i->w.heap[i]?=some (.cells c 5)->w'.heap[i]?=w.heap[i]?):O2 R base w' left O:=
 ⟨λx k=>by obtain⟨g,D,a,f,j,b,d,e⟩:=h.el x k;exact⟨g,D,a,f,j,b,(l _ _ b.1 d).trans d,e⟩,h.nd,h.all,h.out⟩
theorem O2.start (R) (base) (w) (left) (h:∀n D,mw R n=some D->left (keyL n)=true):O2 R base w left []:=
 ⟨λx a=>by simp at a,by simp,λn D b=>zu (h n D b),λx a=>by simp at a⟩
theorem O2.step (h:O2 R base w left O) (n g c) (D) (cur) (q:left (keyL n)=true) (r:n<256) (s:mw R n=some D) (p:D.length=64) (t:base<=g/\64<=c)
 (u:w.heap[g]?=some (.cells cur 5)) (v:cur.toList.take 64=u8s D):O2 R base w (λz=>left z&&!z.sameKey (keyL n)) (O++[(n,g,c)]):=by
 have f:=WideAt.sameKey_self (Ma n);refine⟨λx d=>?_,?_,λm E j=>?_,λx d=>?_⟩
 .rcases yN.1 d with d|d
  .exact h.el x d
  .simp at d;subst d;exact⟨r,D,cur,s,p,t,u,v⟩
 .rw[yo,wl];refine⟨h.nd,by simp,λa k b l e=>?_⟩;simp at l;obtain⟨x,d,rfl⟩:=yd.1 k;have:=h.out x d;rw[show x.1=n by omega,q]at this;cases this
 .rcases h.all m E j with i|i
  .by_cases e:m=n
   .subst e;exact zw (by simp)
   .refine zu ?_;have  :=sameKey_ne λo=>e (i7 o);simp[i,this]
  .exact zw (by rw[yo,yN];exact zu i)
 .rcases yN.1 d with d|d
  .simp[h.out x d]
  .simp at d;subst d;simp[f]
theorem Hg: prog.underlying 180=some (.slice 184):=by kernel_rfl
theorem iQ: (prog.info? 184).map (λi=>(i.zero,i.size,i.bytes))=some (some (.agg #[(),.slice none 0 0,.bool false]),3,40):=by kernel_rfl
theorem KC: prog.underlying 90=some (.map 3 38):=by kernel_rfl
theorem Mc: Keyed prog 3:=int_keyed (q:=.i64) (by kernel_rfl)
theorem Ee (n:Nat) (h:n<256):(Lit.int .i64 n).wf=true:=by simp[Lit.wf,IntKind.min,IntKind.max,IntKind.signed,IntKind.bits];omega
def TN : Prop:=∀(gh h base:Nat) (v:Value) (O) (W:World),h<256->W.ownsRow base 184 3 v O.length (O.flatMap encK)->W.heap[gh]?=some (.cells #[h] 3)->O.length<=1000000 ->
 Calls prog 219 #[v,.func (.func 220) #[] #[(gh,())]] W λe w'=>e=.returned (.tuple #[]) /\
  ∃O':List Rk,O'.Perm O/\O'.Pairwise (λa b=>farN h (a.1%256)<=farN h (b.1%256))/\w'.ownsRow base 184 3 v O'.length (O'.flatMap encK)/\W.grownBy w' v.ownBlock
def toRq (R:List Wr) (x:Rk):Rq:=⟨x.1,.slice (some ⟨x.2.1,0,none⟩) 64 x.2.2,(mw R x.1).getD [],false⟩
theorem TU (h:∀x∈O,x.1<256):rS (O.map (toRq R))=O.flatMap encK:=by
 induction O with
 | nil=>rfl
 | cons x O a=>
  rw[yB,Qj,Nm,a λy b=>h y (by simp[b])]
  congr 1
  show [_,_,_]=[_,_,_];rw[wz (h x (by simp))];rfl
theorem Kr:(O.map (toRq R)).map rab=emit (O.map λx=>(x.1,(mw R x.1).getD [])):=by unfold emit;rw[vo,vo];rfl
theorem Gb {O':List Rk} (u:h<256) (_hR:∀n D,mw R n=some D->n<256) (s:O2 R base w left O) (v:∀kl,left kl=false) (t:O'.Perm O) (z:O'.Pairwise λa b=>farN h (a.1%256)<=farN h (b.1%256)):
 (O'.map λx=>(x.1,(mw R x.1).getD []))=jv R h:=by
 have f:∀x∈O',x.1<256:=λx o=>(s.el x (t.mem_iff.1 o)).1;have k:=(t.map λx=>x.1).nodup_iff.2 s.nd;refine EO u ?_ λx=>?_
 .rw[wU];rw[List.Nodup,wU]at k;have e:=List.Pairwise.and z k;refine e.imp_of_mem ?_;intro a b r p g;have j:=f a r;have c:=f b p;have d:=g.1;rw[wz j,wz c]at d;show farN h a.1<farN h b.1;rcases Nat.lt_or_eq_of_le d with i|i
  .exact i
  .exact yi (J9 u j c i) g.2
 .constructor
  .intro o;obtain⟨y,m,rfl⟩:=yd.1 o;obtain⟨j,D,q,c,_⟩:=s.el y (t.mem_iff.1 m);exact⟨j,by rw[c];rfl⟩
  .rintro ⟨j,c⟩;rcases s.all x.1 x.2 c with d|d
   .rw[v]at d;cases d
   .have i:=(t.map λx=>x.1).mem_iff.2 d;obtain⟨y,m,l⟩:=yd.1 i;refine yd.2 ⟨y,m,?_⟩;rw[l,c];rfl
theorem JP {E:List Rq} (h:∀x∈E,x.n<256):∀n D,mw (wrs E) n=some D->n<256:=by
 intro n D b;obtain⟨x,a,e⟩:=yd.1 (pN _ n D b);have:=h x a;have c:x.n=n:=by injection e
 omega
theorem YV {es:Array MapEntry} (h:w.ownsRow base e size v n xs) (j:w.heap[b]?=some (.map es c)):v.ownBlock≠some b:=by
 rcases h.2 with⟨rfl,_⟩|⟨i,g,d,rfl,_,a,_⟩
 .simp[Value.ownBlock]
 .intro f;have:i=b:=by simpa[Value.ownBlock]using f
  subst this;rw[j]at a;cases a
theorem Vl {m:Option Nat} {s:Nat} {sn:Array Nat} (h:w.ownsRow base e size v n xs) (j:w.heap[b]?=some (.mapIter m s sn c)):v.ownBlock≠some b:=by
 rcases h.2 with⟨rfl,_⟩|⟨i,g,d,rfl,_,a,_⟩
 .simp[Value.ownBlock]
 .intro f;have:i=b:=by simpa[Value.ownBlock]using f
  subst this;rw[j]at a;cases a
theorem oS {D:DataW Value} (h:w.ownsRow base e size v n xs) (j:w.ranges prog 3 RV b r m D left cnt):some b≠v.ownBlock/\some r≠v.ownBlock:=by obtain⟨g,c,a,d,i,f,_,_,_,j,_⟩:=j;exact⟨λe=>YV h f e.symm,λe=>Vl h j e.symm⟩
theorem lW {D:DataW Value} (k:w.ranges prog 3 RV b r m D left cnt):∃o,w.heap[r]?=some o/\∀c t f,o≠.cells c t f:=by obtain⟨g,d,a,e,j,i,_,_,_,k,_⟩:=k;exact⟨_,k,λc t f h=>by cases h⟩
theorem Up (h:O2 R base w left O):O.length<=256:=by
 have:=Pi (B:=List.range 256) h.nd λn b=>by obtain⟨x,a,rfl⟩:=yd.1 b;exact xy.2 (h.el x a).1
 simpa using this
theorem VM (O) (x):(O++[x]).flatMap encK=O.flatMap encK++encK x:=by simp
theorem JS: ∀(key) (kl),keyOf prog 3 key=some kl->∃x,key=.int .i64 x:=λkey kl h=>by obtain⟨x,a,_⟩:=MG (q:=.i64) (by kernel_rfl) h;exact⟨x,a⟩
theorem pY {b:World} (h:Below a a b):a.grownBy b none:=⟨h.os,h.tape,h.output,h.size,λi c _=>h.block i c⟩
theorem Pz (h:Below B a w) (n):Below B a (w.drewN n):=⟨h.os,h.tape,h.output,h.size,h.block⟩
def SB (R:List Wr) (h:Nat) (w:World) (e:Ending) (w':World):Prop:=
 ∃v',e=.returned (.tuple #[v',(Pm R h:Int)])/\jp w' w v' (emit (jv R h))/\Below w w w'
theorem Wl (
 aj:TN) (v) (E) (h:Nat) (hh:h<256) (w) (hv:uq w v 3 E.length (rS E)) (hE:∀x∈E,x.b=false/\x.n<256/\uM w x.v x.D/\x.D.length=64) (hl:E.length<=1000):
 Calls prog 195 #[v,h] w (SB (wrs E) h w):=by
 have aP:=za aj;clear aj;obtain⟨N,HN⟩:=zD E.length;obtain⟨p,cp,rfl,HP⟩:∃p cp,v=.slice p N cp/\Hid (0<N->∃g o,p=some ⟨g,o,none⟩/\∀(j:Nat) (x:Value),(rS E)[j]?=some x->w.cell? ⟨g,o+j,none⟩=some x):=by
  rw[<-HN.o];obtain⟨_,⟨h0,a0,c0,rfl⟩|⟨g,o,ae,rfl,hc⟩⟩:=hv
  .exact⟨a0,c0,by rw[h0],λh=>by omega⟩
  .exact⟨_,ae,rfl,λ_=>⟨g,o,rfl,hc⟩⟩
 rw[HN.o]at hl;have HE:=za hE;clear hv hE;obtain⟨i0,br,bc,bw,aH⟩:=yX iQ;have HI:=za br;have ci:=za bc;have cj:=za bw;have bL:=za aH;clear br bc bw aH;have bE:=za (zO w (.cells #[h] 3));have bC:Hid (((w.alloc (.cells #[h] 3)).alloc (.map #[] 0)).ownsMap prog 3 RV (w.heap.size+1) 0 (.map [])):=by have:=MU (w.alloc (.cells #[h] 3)) prog 3 RV;rw[show (w.alloc (.cells #[h] 3)).heap.size=w.heap.size+1 by simp]at this;exact this
 have cf:=@run_makeMap prog;go_enter func195,ntmps195;go_wp2;clear cf;go_loopw [8,15] (λ_ i wr=>∃k:Nat,k<=N/\i=.int .i64 k/\Hid (wr.ownsMap prog 3 RV (w.heap.size+1) k (mapD (E.take k)))/\Hid (wr.heap[w.heap.size]?=some (.cells #[h] 3))/\Below w w wr) (λ_ i _=>N-(intOf i).toNat);case atStart =>refine⟨0,yh _,rfl,bC,un bE.o _,(zB.alloc zL _).alloc (by simp) _⟩
 case round=>
  obtain⟨k,hk,rfl,HM,HH,HB⟩:=hrel;by_cases bb:k<N
  .obtain⟨g,o,rfl,hc⟩:=HP.o (by omega);have C:k<E.length:=(by rw[HN.o];exact bb);obtain⟨e0,e1,e2⟩:=fv E k C;obtain⟨x,Hx⟩:=zD (E[k]);rw[Hx.o]at e0 e1 e2;obtain⟨bn,A,L,B⟩:=HE.o x (by rw[<-Hx.o];exact Nj C);obtain⟨gx,ox,cx,Q⟩:∃gx ox cx,x.v=.slice (some ⟨gx,ox,none⟩) 64 cx:=by
    obtain⟨_,⟨h0,_⟩|⟨g,o,ae,G,_⟩⟩:=L
    .omega
    .exact⟨g,o,ae,by rw[G,B]⟩
   rw[Q]at e1;rw[bn]at e2;have I:∀{x} {y},w.cell? x=some y->wr.cell? x=some y:=λh=>(HB.cell (zy h)).trans h;have c0:=I (hc _ _ e0);have c1:=I (hc _ _ e1);have c2:=I (hc _ _ e2);rw[<-yp]at c1 c2;obtain⟨f,s⟩:=zD x.n;rw[s.o]at c0 A;have HT:Hid (mapD (E.take (k+1))=(mapD (E.take k)).put (keyL f) (.held (.slice (some (gx,ox)) 64 cx))):=(by show _=_;rw[<-zU C,qt,Hx.o,s.o,Q]);have cy:k<(N:Int):=(by omega);have c4:g<wr.heap.size:=zy c0;have cz:¬g=wr.heap.size:=(by omega);have ca:=HM.o.lt;have cB:w.heap.size<wr.heap.size:=(by omega);have bJ:Hid ((wr.alloc (.cells #[f,.slice (some (gx,ox)) 64 cx,.bool false] 184)).ownsMap prog 3 RV (w.heap.size+1) k (mapD (E.take k))):=HM.o.alloc _;have aV:Hid (Below w w (wr.alloc (.cells #[f,.slice (some (gx,ox)) 64 cx,.bool false] 184))):=HB.alloc HB.size _;have b1:Hid ((wr.alloc (.cells #[f,.slice (some (gx,ox)) 64 cx,.bool false] 184)).heap[w.heap.size]?=some (.cells #[.int .i64 h] 3)):=un HH.o _;have bs:Hid (keyOf prog 3 (.int .i64 f)=some (keyL f)):=keyOf_int_mk (by kernel_rfl) (Ee f A);clear hc e0 e1 e2 I Q L B ca bn;go_wp2_with (at_mapUpdate;refine sI _ rfl _ _ _ 90 rfl 3 38 Mc KC RV (w.heap.size+1) k (mapD (E.take k)) rfl bJ.o (by unfold maxLen;omega) _ _ (keyL f) rfl rfl bs.o _ [] rfl ?_;intro w1 X m)
   have cl:Hid (w1.ownsMap prog 3 RV (w.heap.size+1) (k+1) (mapD (E.take (k+1)))):=(by show World.ownsMap _ _ _ _ _ _ _;rw[HT.o];exact X);have ab:=za (aV.o.grown m aV.o.size (by intro r hr;simp at hr;omega));have Z:=za ((m.block _ (xB b1.o) (by simp)).trans b1.o);clear X m c0 c1 c2;go_wp2;go_roundw
   .exact⟨k+1,by omega,by go_num,cl,Z,ab.o⟩
   .simp[intOf];omega
  .have HT:Hid (E.take k=E):=zo (by rw[HN.o];omega);rw[HT.o]at HM;obtain⟨r,Hr⟩:=zD wr.heap.size;have cD:w.heap.size<r:=(by rw[<-Hr.o];exact xB HH.o);go_wp2_with (at_range;refine wpList_range_own _ rfl _ 90 rfl 3 38 Mc KC RV (w.heap.size+1) k (mapD E) rfl HM.o ?_;intro w0 af a7 bd)
   rw[Hr.o]at af bd |-;have bF:=za af;have bV:=za (HB.grown a7 HB.size (by simp));have bR:=za ((a7.block _ (xB HH.o) (by simp)).trans HH.o);have bf:=za (LU E);have aA:=za (JP λx hx=>(HE.o x hx).2.1);clear af a7 bd HB bb hk
   go_frame
   go_loopw [9] (λv ws=>∃(l:Lit->Bool) (aG:Nat) (O:List Rk),Hid (ws.ranges prog 3 RV (w.heap.size+1) r k (mapD E) l aG)/\Hid (ws.ownsRow (w.heap.size+1) 184 3 v O.length (O.flatMap encK))/\Hid (O2 (wrs E) (w.heap.size+1) ws l O)/\Hid (ws.heap[w.heap.size]?=some (.cells #[h] 3))/\Hid (Below w w ws)) (λ_ ws=>ws.rangeLeft (w.heap.size+1) r)
   case atStart =>exact⟨_,_,[],bF,yL _ _ _ _,O2.start _ _ _ _ (λn D hn=>by rw[bf.o.there n,hn];rfl),bR,bV⟩
   case round=>
    obtain⟨l,aG,O,HR,HO,Y,P,ag⟩:=hrel;go_wp2_with (at_next;refine wpList_next_ranges (α:=Int) (β:=Value) _ rfl _ rfl 3 Mc RV (λx=>.int .i64 x) (λc=>c) JS (λv y _=>⟨v,rfl⟩) (w.heap.size+1) r k (mapD E) l aG rfl HR.o ?_ ?_)
    .intro _ aU;have bH:=za aU;clear aU;have H:=Up Y.o;have bQ:=za (aP.o w h (w.heap.size+1) u9 O _ hh HO.o P.o (by omega));go_wp2_with fail
     refine bQ.o.mono ?_;rintro e w5 ⟨rfl,O',hp,hs,a6,ap⟩;have aT:=rC HO.o P.o (by decide);have ao:=za ((ap.block _ (xB P.o) (λe=>aT e.symm)).trans P.o);have S:=Y.o.keep λi c _ J=>ap.block i (xB J) (λe=>rC HO.o J (by decide) e.symm);have aa:=Gb hh aA.o Y.o bH.o hp hs;have ac:∀x∈O',x.1<256:=λx hx=>(S.el x (hp.mem_iff.1 hx)).1;have a3:jp w5 (w.heap.size+1) u9 (emit (jv (wrs E) h)):=(by refine⟨O'.map (toRq (wrs E)),by rw[Kr,aa],by rw[TU ac,yD];exact a6,λx hx=>?_⟩;obtain⟨y,hy,rfl⟩:=yd.1 hx;obtain⟨G,D,bI,h2,h3,h4,h5,h6⟩:=S.el y (hp.mem_iff.1 hy);have e:(toRq (wrs E) y).D=D:=(by show (mw (wrs E) y.1).getD []=D;rw[h2];rfl);exact zw ⟨rfl,G,by rw[e];exact h3,y.2.1,y.2.2,bI,rfl,h4,h5,by rw[e];exact h6⟩);have ax:=za a3;have bv:=za (ag.o.grown ap ag.o.size (by intro q hq;have:=(HO.o.lt q hq).1;omega));obtain⟨q5,cc,am,aO⟩:=rU a6;have aK:O'.length<=256:=(by rw[hp.length_eq];exact H);have a2:=za aa;have av:=za ac;obtain⟨M,ai⟩:=zD O'.length;rw[ai.o]at am aK aO;have bO:=za aO;have c8:=xB ao.o;clear hp hs a6 ap aT S aa ac a3 aO;by_cases aD:M=0
     .have ah:Hid (Pm (wrs E) h=h):=(by show _=_;unfold Pm;rw[<-a2.o];have  :=yz.1 (by rw[ai.o];exact aD);rw[this];rfl);subst aD;have k0:=xQ w5 _ 0 _ _ _ ao.o;subst am;go_wp2
      go_quiet (fail)
      go_wp2;go_ret2;unfold SB;rw[ah.o];refine⟨_,rfl,(ax.o.below (Pz zB _)).mono (by omega),Pz bv.o _⟩
     .obtain⟨g5,rfl,_,bt⟩:=bO.o (by omega);have aE:M-1<O'.length:=(by rw[ai.o];omega);obtain⟨x,Hx⟩:=zD (O'[M-1]);have aL:=av.o x (by rw[<-Hx.o];exact Nj aE);have bD:w5.cell? (g5,(M-1)*3)=some (.int .i64 x.1):=bt _ _ (by rw[<-TU (R:=wrs E) av.o];have:=(fv (O'.map (toRq (wrs E))) (M-1) (by rw[yD];exact aE)).1;rw[this,uv,Hx.o];rfl);have ah:Hid (Pm (wrs E) h=x.1):=(by show _=_;unfold Pm;rw[<-a2.o,List.getLast?_map,List.getLast?_eq_getElem?,ai.o,zk aE,Hx.o];rfl);obtain⟨f,s⟩:=zD x.1;rw[s.o]at bD aL ah;have k0:=xQ w5 _ 0 _ _ _ ao.o;have z0:w5.frozen? (w.heap.size,0)=false:=(by simp[World.frozen?,ao.o]);have cn:Hid (jp (w5.setCell (w.heap.size,0) (.int .i64 f)) (w.heap.size+1) (g5,0,M,cc) (emit (jv (wrs E) h))):=(by have G:=ax.o;rw[am]at G;exact G.keeps (F:=λi=>i=w.heap.size) (yK.setCell (by rfl) _) (λi J _ e=>by omega));have ck:Hid (Below w w (w5.setCell (w.heap.size,0) (.int .i64 f))):=bv.o.setCell zL _;subst am;have p1:=zW (M-1) (by omega);have p2:((M:Int)-1).toNat=M-1:=(by omega);have p3:0<=(M:Int)-1:=(by omega);have p4:M-1<(M:Int):=(by omega);have p5:1<=(M:Int):=(by omega);clear bt aD;go_wp2
      go_quiet (fail)
      go_wp2;go_ret2;unfold SB;rw[ah.o];refine⟨_,rfl,(cn.o.below (Pz zB _)).mono (by omega),Pz ck.o _⟩
    .intro x c kl y ps w1 aw ay aZ aJ aM az ar W cb aN;obtain⟨x',bU,rfl,_⟩:=MG (q:=.i64) (by kernel_rfl) ay;have bP:x'=x:=(by injection bU with _ h;exact h.symm);subst bP;have hy:y=.held c:=(by unfold RV at aJ;injection aJ with h;injection h with h _;exact h.symm);subst hy;obtain⟨rq,bi,C,au,ad⟩:=bf.o.back _ (has_true_of_atKey aM);have A:x'=rq.n:=(by unfold keyL at C;injection C with _ h);have bS:c=rq.v:=(by have G:=aM .nil;rw[au .nil]at G;injection G with G;exact G.symm);subst A bS;obtain⟨_,A,L,B⟩:=HE.o rq bi;obtain⟨gx,ox,cx,Q⟩:∃gx ox cx,rq.v=.slice (some ⟨gx,ox,none⟩) 64 cx:=by
      obtain⟨_,⟨h0,_⟩|⟨g,o,ae,G,_⟩⟩:=L
      .omega
      .exact⟨g,o,ae,by rw[G,B]⟩
     have bg:=za az;obtain⟨ob,be,a4⟩:=lW HR.o;have ab:=za (ag.o.grown W ag.o.size (by intro q hq;simp at hq;omega));have aY:=za (tI HO.o λb hb=>W.block b (HO.o.lt b hb).2 (by rw[<-hb];exact λe=>(oS HO.o HR.o).2 e.symm));have bp:=za (Y.o.keep λi c _ J=>W.block i (xB J) (by intro e;injection e with e;subst e;rw[be]at J;injection J with J;exact a4 _ _ _ J));have Z:=za ((W.block _ (xB P.o) (by intro e;injection e with e;omega)).trans P.o);have b2:=za (Fw rq.v rq.D w1 (uq.below L ab.o) B);have H:=Up Y.o;have bY:=za aZ;have a8:=za ad;have bG:=za B;have bK:=za ar;rw[Q]at aN b2;obtain⟨f,s⟩:=zD rq.n;rw[s.o]at aN A;obtain⟨ON,aW⟩:=zD O.length;rw[aW.o]at aY H;clear ay aZ aJ aM az ar W cb C au ad L B Q be a4 bi;go_wp2_with (first
      | (
       go_at_call 104;refine b2.o.mono ?_;rintro e w2 ⟨v2,rfl,t,a,a1,rfl,bz,bm,bo,K⟩
       have V:Hid (∀o,(w2.alloc o).ownsRow (w.heap.size+1) 184 3 u9 ON (O.flatMap encK)):=λo=>(tt aY.o K).alloc o;have bh:=za (ab.o.trans (K.mono ab.o.size));have aH:=zr (xB Z.o) K.size;have ch:=za (xV K Z.o);have aB:=za K;have bZ:=za (And.intro bz (And.intro bm bo));clear K bz bm bo)
      | (at_builtin;refine yw _ rfl _ _ 180 rfl (w.heap.size+1) 184 i0 (.agg #[(),.slice none 0 0,.bool false]) 3 40 Hg HI.o ci.o cj.o bL.o rfl (by decide) _ _ _ rfl (V.o _) ⟨w2.heap.size,0,none⟩ 1 1 [.int .i64 (f:Int),.slice (some ⟨t,0,none⟩) 64 a,.bool false] rfl rfl (λj u hu=>Ru _ #[f,.slice (some ⟨t,0,none⟩) 64 a,.bool false] _ j u hu) (λu hu=>by simp at hu;rcases hu with rfl|rfl|rfl<;>rfl) (by unfold maxLen;omega) (by omega) (by simp;omega) ?_;intro v3 w3 U d _))
     have HG:=bZ.o;have bl:Hid (w3.ownsRow (w.heap.size+1) 184 3 v3 (O++[(f,t,a)]).length ((O++[(f,t,a)]).flatMap encK)):=(by show World.ownsRow _ _ _ _ _ _ _;rw[VM,zl,aW.o];have e:encK (f,t,a)=[.int .i64 f,.slice (some ⟨t,0,none⟩) 64 a,.bool false]:=(by show [_,_,_]=_;rw[wz A]);rw[e];exact U);have T:=oS (V.o (.cells #[f,.slice (some ⟨t,0,none⟩) 64 a,.bool false] 184)) ((bg.o.kept (pY aB.o) (by simp) (by simp)).alloc (.cells #[f,.slice (some ⟨t,0,none⟩) 64 a,.bool false] 184));have bk:Hid (w3.ranges prog 3 RV (w.heap.size+1) r k (mapD E) (λz=>l z&&!z.sameKey (keyL f)) aw):=(by have:=((bg.o.kept (pY aB.o) (by simp) (by simp)).alloc (.cells #[f,.slice (some ⟨t,0,none⟩) 64 a,.bool false] 184)).kept d T.1 T.2;rw[<-s.o];exact this);have aF:∀i c,(w2.alloc (.cells #[f,.slice (some ⟨t,0,none⟩) 64 a,.bool false] 184)).heap[i]?=some (.cells c 5)->some i≠u9.ownBlock:=λi c J e=>rC (V.o _) J (by decide) e.symm;have bx:Hid (O2 (wrs E) (w.heap.size+1) w3 (λz=>l z&&!z.sameKey (keyL f)) (O++[(f,t,a)])):=(by have G:=bp.o.keep λi c _ J=>(by have h2:=xV aB.o J;have h3:=un h2 (.cells #[f,.slice (some ⟨t,0,none⟩) 64 a,.bool false] 184);exact (d.block i (xB h3) (aF i c h3)).trans (h3.trans J.symm));have h4:=un HG.2.1 (.cells #[f,.slice (some ⟨t,0,none⟩) 64 a,.bool false] 184);have c3:=xB Z.o;exact G.step f t a rq.D a1 (by rw[<-s.o];exact bY.o) A (by rw[<-s.o];exact a8.o) bG.o ⟨by have:=HG.1.1;omega,HG.1.2⟩ ((d.block t (xB h4) (aF t a1 h4)).trans h4) HG.2.2);have bM:Hid (w3.heap[w.heap.size]?=some (.cells #[h] 3)):=(by have h4:=un ch.o (.cells #[f,.slice (some ⟨t,0,none⟩) 64 a,.bool false] 184);exact (d.block _ (xB h4) (λe=>rC (V.o _) h4 (by decide) e.symm)).trans h4);have bX:=za ((bh.o.alloc bh.o.size _).grown d (by simp;omega) (by intro q hq;have:=((V.o (.cells #[f,.slice (some ⟨t,0,none⟩) 64 a,.bool false] 184)).lt q hq).1;omega));clear U d T aF aN HG;go_wp2;go_roundw
     .exact⟨_,aw,_,bk,bl,bx,bM,bX⟩
     .rw[bk.o.left_eq,HR.o.left_eq];exact bK.o
end Go.Proofs.YtpcedcnjofbgjaaGreatDoor
namespace Go.Proofs.YtpcedcnjofbgjaaGreatDoor
open Go.Proofs.Tryz Go.RowKit
variable {E:List Rq} {a:Option Addr} {cap k n:Nat} {v:Value} {w:World}
def Oa (w:World) (v:Value) (E:List Rq):Prop:=∃a cap,v=.slice a E.length cap/\E.length<=cap/\cap<=maxLen/\(0<E.length->∃g o,a=some ⟨g,o,none⟩/\∀(j) (x),(rS E)[j]?=some x->w.cell? ⟨g,o+j,none⟩=some x)
theorem Oa.row (h:Oa w v E):uq w v 3 E.length (rS E):=by
 obtain⟨a,b,rfl,i,f,c⟩:=h;refine⟨kD E,?_⟩;rcases wM E.length with e|e
 .exact zu ⟨e,a,b,by rw[e]⟩
 .obtain⟨g,o,rfl,d⟩:=c e;exact zw ⟨g,o,b,rfl,d⟩
theorem Oa.below {w':World} (h:Oa w v E) (l:Below w w w'):Oa w' v E:=by obtain⟨a,b,rfl,f,e,k⟩:=h;refine⟨a,b,rfl,f,e,λi=>?_⟩;obtain⟨g,o,rfl,c⟩:=k i;exact⟨g,o,rfl,λj x d=>(l.cell (p:=⟨g,o+j,none⟩) (zy (c j x d))).trans (c j x d)⟩
theorem Oa.of_owns {base:Nat} (h:w.ownsRow base 184 3 v E.length (rS E)):Oa w v E:=by
 obtain⟨q,i,n,f⟩:=rU h;obtain⟨_,⟨rfl,c⟩|⟨g,b,k,rfl,p,s,o,m,_⟩⟩:=h
 .exact⟨none,0,by rw[c],by omega,by unfold maxLen;omega,λh=>by omega⟩
 .refine⟨_,b,rfl,o,m,λc=>?_⟩;obtain⟨r,e,_,d⟩:=f c;injection n with a _ _;rw[e]at a;injection a with a;injection a with a _ _;subst a;exact⟨g,0,rfl,λj x l=>by rw[yF];exact d j x l⟩
theorem Oa.take (h:Oa w (a,n,cap) E) (r:k<=n):Oa w (a,k,cap) (E.take k):=by
 obtain⟨p,d,e,q,f,l⟩:=h;cases e;have c:(E.take k).length=k:=by rw[Ni];omega
 refine⟨a,cap,by rw[c],by rw[c];omega,f,λi=>?_⟩;rw[c]at i;obtain⟨g,o,rfl,m⟩:=l (by omega);refine⟨g,o,rfl,λj x b=>m j x ?_⟩;rw[<-(NS E k).1,zI]at b;split at b
 .exact b
 .cases b
theorem Oa.drop {g o:Nat} (h:Oa w (g,o,n,cap) E) (t:k<=n):Oa w (g,o+k*3,(n-k),(cap-k)) (E.drop k):=by obtain⟨p,b,d,q,m,i⟩:=h;cases d;have a:(E.drop k).length=E.length-k:=Nk;refine⟨_,_,by rw[a],by rw[a];omega,by omega,λf=>?_⟩;rw[a]at f;obtain⟨r,s,e,l⟩:=i (by omega);cases e;refine⟨g,_,rfl,λj x c=>?_⟩;rw[<-(NS E k).2,yy]at c;rw[yp];exact l _ x c
theorem Oa.none (h:cap<=maxLen):Oa w (.slice a 0 cap) []:=⟨a,cap,rfl,yh _,h,λh=>by simp at h⟩
theorem oy {ops:Array Oper} {rest:List Oper} {o:Oper} {a:Act} {Q:Exit->Act->World->Prop} (Y:o.guard=none) (s x)
 (ho:o.op=.call {callee:=.builtin .append,args:=#[s,x],argTypes:=#[180,180]}) (v pv) (base base2) (O L) (hs:a.eval s=v) (hx:a.eval x=pv)
 (hO:jp w base v O) (hP:jp w base2 pv L) (hb:base<=base2) (Z:base<=w.heap.size) (ae:O.length+L.length<=1000000)
 (h:∀v' w',jp w' base v' (O++L)->w.grownBy w' v.ownBlock->wpList prog ops Q rest (a.put o.dst v') w'):wpList prog ops Q (o::rest) a w:=by
 obtain⟨H,p,z,B,C⟩:=yX iQ;obtain⟨E,D,q,F⟩:=hO;obtain⟨r,f,I,G⟩:=hP;have U:=Ve D;have M:=Ve f;have T:=I;obtain⟨_,⟨rfl,J⟩|⟨g,A,R,rfl,V,S,W,X,P,K⟩⟩:=I
 .have N:=yz.1 J;subst N;refine wpList_append_own_none Y s x 180 ho base 184 H 3 Hg p v E.length (rS E) hs q hx (h v w ?_ ⟨rfl,rfl,rfl,zL,λ_ _ _=>rfl⟩);refine⟨E,?_,q,F⟩;rw[D];have:L=[]:=by rw[<-f];rfl
  rw[this,yY]
 .refine yw w Y s x 180 ho base 184 H (.agg #[(),.slice none 0 0,.bool false]) 3 40 Hg p z B C rfl (by decide) v E.length (rS E) hs q ⟨g,0,none⟩ r.length A (rS r) hx (kD r) (λj u t=>?_) (I7 G) (by unfold maxLen;omega) (by omega) Z λv' w' l d _=>h v' w' ?_ d
  .have m:(⟨g,0,none⟩:Addr).add j=⟨g,j,none⟩:=(by unfold Addr.add;split<;>simp_all);rw[m,zC S];rw[<-K,zI]at t;split at t
   .simpa using t
   .cases t
  .have b:∀(i:Nat) (c),w.heap[i]?=some (.cells c 5)->w'.heap[i]?=w.heap[i]? :=λi c k=>d.block i (xB k) (λe=>rC q k (by decide) e.symm);refine⟨E++r,by rw[yo,D,f],by rw[zl,ZD];exact l,λy n=>?_⟩;rcases yN.1 n with n|n
   .exact (F y n).keep λi c _ k=>b i c k
   .exact ((G y n).mono hb).keep λi c _ k=>b i c k
theorem Yq (h:E.findIdx? (λx=>x.b)=none):barI E = -1/\(∀x∈E,x.b=false)/\E.map rab=emit (wrs E):=by
 have c:∀x∈E,x.b=false:=λx a=>by rw[vl]at h;exact h x a
 refine⟨by unfold barI;rw[h],c,?_⟩;unfold emit wrs;rw[vo];refine uI λx a=>?_;show (x.n,x.D,x.b)=(x.n,x.D,false);rw[c x a]
theorem lw (h:E.findIdx? (λx=>x.b)=some k):∃hk,barI E=k/\(∀x∈E.take k,x.b=false)/\E.map rab=emit (wrs (E.take k))++(E[k].n,E[k].D,true)::(E.drop (k+1)).map rab:=by
 have i:=h;rw[xG]at h;obtain⟨hk,g,f⟩:=h;have d:∀x∈E.take k,x.b=false:=λx c=>by
  obtain⟨j,e,rfl⟩:=wv c;rw[po];have a:j<k:=by rw[Ni]at e;omega
  simpa using f j a
 refine⟨hk,by unfold barI;rw[i],d,?_⟩
 conv=>lhs;rw[<-xr k E,yR hk,yo,yB]
 congr 1
 .unfold emit wrs;rw[vo];refine uI λx c=>?_;show (x.n,x.D,x.b)=(x.n,x.D,false);rw[d x c]
 .congr 1
  show (E[k].n,E[k].D,E[k].b)=_;rw[g]
theorem WL (P):(emit P).length=P.length:=by simp[emit]
theorem Ea (E):(wrs E).length=E.length:=by simp[wrs]
theorem oR (h:∀x∈E,RqOk w x) (e:∀x∈E,x.b=false):∀x∈E,x.b=false/\x.n<256/\uM w x.v x.D/\x.D.length=64:=by
 intro x c;have d:=e x c;rcases h x c with⟨a,_⟩|a
 .rw[d]at a;cases a
 .exact a
theorem pH (w:World) (base) (h:base<=w.heap.size):jp (w.alloc (.cells #[(),.slice none 0 0,.bool true] 184)) base (.slice (some ⟨w.heap.size,0,none⟩) 1 1) [barR]:=
 ⟨[⟨0,.slice none 0 0,[],true⟩],rfl,⟨rfl,zw ⟨w.heap.size,1,_,rfl,h,zO w _,zL,by unfold maxLen;omega,rfl,rfl⟩⟩,λx a=>by simp at a;subst a;exact zu ⟨rfl,rfl,rfl,rfl⟩⟩
theorem YW (h) (b:h<256):rE [] h []=[]:=by have a:=Q5 [] h b;exact yz.1 (by simpa using a)
def TP (L:List Rb) (h:Nat) (w:World) (e:Ending) (w':World):Prop:=
 ∃v',e=.returned (.tuple #[v',()])/\jp w' w v' (Ob L h)/\Below w w w'
theorem KF (aa:TN) (v) (E) (h:Nat) (hh:h<256) (w) (hv:Oa w v E) (hE:∀x∈E,RqOk w x) (hl:E.length<=100):
 Calls prog 158 #[v,h] w (TP (E.map rab) h w):=by
 have X:=za aa;clear aa;have HV:=za hv;have HE:=za hE;have HR:=za (λW (hW:Below w w W)=>I9 v E W (uq.below hv.row hW) (λx u=>(hE x u).below hW) hl);have b1:decide ((h:Int)<0)=false:=by rw[zz];omega
 have b2:decide (256<=(h:Int))=false:=by rw[zz];omega
 have b3:¬256<=(h:Int):=by omega
 have b4:¬256<=h:=by omega
 clear hv hE;go_enter func158,ntmps158;go_wp2_with fail
 refine (HR.o _ zB).mono ?_;rintro e w1 ⟨rfl,ax⟩;have a9:=za ax;clear ax b1 b2 b3 b4;go_wp2;obtain⟨i0,au,an,aw,I⟩:=yX iQ;have HI:=za au;have bf:=za an;have bg:=za aw;have aT:=za I;clear au an aw I;go_loopw [0,1,7] (λlv hd o wr=>∃(f:List Rq) (m:Nat) (O:List Rb),Hid (Oa w lv f)/\Hid (∀x∈f,x∈E)/\f.length+O.length<=100/\hd=.int .i64 (m:Int)/\m<256/\Hid (jp wr w o O)/\Hid (O++rE [] m (f.map rab)=Ob (E.map rab) h)/\Hid (Below w w wr)) (λlv _ _ _=>match lv with|.slice _ n _=>n|_=>0);case atStart =>exact⟨E,h,[],HV,λx u=>u,by simp;exact hl,rfl,hh,⟨[],rfl,yL _ _ _ _,λx u=>by simp at u⟩,rfl,a9⟩
 case round=>
  obtain⟨f,m,O,Q,HS,am,rfl,B,HO,S,HB⟩:=hrel;obtain⟨a,J,ay,aE,ap,ag⟩:=Q.o;obtain⟨n,HN⟩:=zD f.length;rw[HN.o]at ay aE am ag;subst ay;have a4:=za ag;have aZ:=za ap;unfold maxLen at ap;clear ag;by_cases hn:0<n
  .obtain⟨g,o,rfl,a2⟩:=a4.o hn;clear a2;have ah:Hid (∀x∈f,RqOk w x):=λx u=>HE.o x (HS.o x u);have a6:=za (FM _ f _ (uq.below Q.o.row HB.o) (λx u=>(ah.o x u).below HB.o) (by rw[HN.o];omega));have aW:=HB.o.size;go_wp2_with fail
   refine a6.o.mono ?_;rintro e w2 ⟨rfl,ae⟩;have A:=za (zi HB.o ae);have ad:=za (HO.o.below ae);have I:=A.o.size;clear ae;cases Y:f.findIdx? (λx=>x.b) with
   | none=>
    obtain⟨N,U,M⟩:=Yq Y;have al:=za N;have K:=za (Wl X.o _ f m B w2 (uq.below Q.o.row A.o) (λx u=>oR (λy hy=>(ah.o y hy).below A.o) U x u) (by rw[HN.o];omega));unfold SB at K;have T:=za M;clear Y N U M;rw[al.o];have a8:Hid ((emit (jv (wrs f) m)).length<=n):=(by show _<=_;rw[WL,<-HN.o,<-Ea];exact Rs _ _ B);have aD:=a8.o;have q1:decide ((-1)<0)=true:=(by decide);have q2:0<=(n:Int):=(by omega);have q3:n<=(J:Int):=(by omega);have H:Hid ((O++emit (jv (wrs f) m))++rE [] (Pm (wrs f) m) (([]).map rab)=Ob (E.map rab) h):=(by have p:=S.o;rw[T.o,ry,yJ]at p;show (O++_)++rE [] _ []=_;rw[YW _ (fY _ _ B),yY];exact p);have Z:=fY (wrs f) m B;clear S T;generalize emit (jv (wrs f) m)=L at *
    generalize Pm (wrs f) m=h3 at *
    by_cases P:J=n;all_goals
     try subst P
     go_wp2_with (first
      | (
       go_at_call 195;refine K.o.mono ?_;rintro e w3 ⟨pv,rfl,s,j⟩
       have R:=za s;have D:=za (ad.o.below j);have C:=za (zi A.o j);have t:=C.o.size;clear s j)
      | (at_builtin;refine oy rfl _ _ rfl _ _ w.heap.size _ _ _ rfl rfl D.o R.o I t (by omega) ?_;intro v4 w4 d c))
     have F:=za d;have G:=za (C.o.grown c t (λq hq=>by obtain⟨_,_,p,_⟩:=D.o;exact (p.lt q hq).1));clear d c;go_wp2;go_roundw
     .exact⟨[],h3,_,Oa.none (by unfold maxLen;omega),λx u=>by simp at u,by simp;omega,rfl,Z,F,H,G⟩
     .simp;omega
   | some k=>
    obtain⟨aC,N,U,M⟩:=lw Y;have al:=za N;have aO:k<n:=(by rw[<-HN.o];exact aC);have aA:Hid (Oa w (g,o,k,J) (f.take k)):=Q.o.take (by omega);have aj:(f.take k).length=k:=(by rw[Ni];omega);have K:=za (Wl X.o _ (f.take k) m B w2 (uq.below aA.o.row A.o) (λx u=>oR (λy hy=>(ah.o y (xI hy)).below A.o) U x u) (by rw[aj];omega));unfold SB at K;have T:=za M;have aD:(emit (jv (wrs (f.take k)) m)).length<=k:=(by rw[WL];have p:=Rs (wrs (f.take k)) m B;rw[Ea,aj]at p;exact p);clear Y N U M aj;rw[al.o];have q1:decide ((k:Int)<0)=false:=(by rw[zz];omega);have q2:0<=(k:Int):=(by omega);have q3:k<=(J:Int):=(by omega);have q4:k<(n:Int):=(by omega);have q5:k+1<=(n:Int):=(by omega);have q6:n<=(J:Int):=(by omega);have q7:=zW (k+1) (by omega);have q8:((k:Int)+1).toNat=k+1:=(by omega);have q9:0<=(k:Int)+1:=(by omega);have H:Hid (((O++emit (jv (wrs (f.take k)) m))++[barR])++rE [] (Pm (wrs (f.take k)) m) ((f.drop (k+1)).map rab)=Ob (E.map rab) h):=(by have p:=S.o;rw[T.o,Q6,yJ]at p;show _=_;rw[<-p];simp);have Z:=fY (wrs (f.take k)) m B;have aB:=za (Q.o.drop (k:=k+1) (by omega));have aq:Hid (∀x∈f.drop (k+1),x∈E):=λx u=>HS.o x (vN u);have af:(f.drop (k+1)).length=n-(k+1):=(by rw[Nk,HN.o]);clear S T;generalize emit (jv (wrs (f.take k)) m)=L at *
    generalize Pm (wrs (f.take k)) m=h3 at *
    have ao:(O++L).length+[barR].length<=1000000:=(by rw[zl];simp;omega);have ab:(O++L++[barR]).length=O.length+L.length+1:=(by simp;omega);by_cases P:J=k+1
    .have a3:n=k+1:=(by omega);subst P;subst a3;go_wp2_with (first
      | (
       go_at_call 195;refine K.o.mono ?_;rintro e w3 ⟨pv,rfl,s,j⟩
       have R:=za s;have D:=za (ad.o.below j);have C:=za (zi A.o j);have t:=C.o.size;have r:=trivial;clear s j)
      | (
       at_builtin;have _t:=r;refine oy rfl _ _ rfl _ _ w.heap.size _ _ _ rfl rfl D.o R.o I t (by omega) ?_;intro v4 w4 d c
       have F:=za d;have G:=za (C.o.grown c t (λq hq=>by obtain⟨_,_,p,_⟩:=D.o;exact (p.lt q hq).1));have V:=G.o.size;have z:=trivial;clear d c r _t)
      | (
       at_builtin;have _t:=z;refine oy rfl _ _ rfl _ _ w.heap.size w.heap.size _ _ rfl rfl (F.o.below (zB.alloc zL _)) (pH w4 w V) zL (by simp;omega) ao ?_;intro v5 w5 l i
       have ac:=za l;have ak:=za ((G.o.alloc V _).grown i (by simp;omega) (λq hq=>by obtain⟨_,_,p,_⟩:=F.o;exact (p.lt q hq).1));clear l i z _t))
     have a1:=yz.1 (by rw[af];omega);go_roundw
     .exact⟨f.drop (k+1),h3,_,by rw[a1];exact Oa.none (by unfold maxLen;omega),aq,by rw[af,ab];omega,rfl,Z,ac,H,ak⟩
     .simp
    .go_wp2_with (first
      | (
       go_at_call 195;refine K.o.mono ?_;rintro e w3 ⟨pv,rfl,s,j⟩
       have R:=za s;have D:=za (ad.o.below j);have C:=za (zi A.o j);have t:=C.o.size;have r:=trivial;clear s j)
      | (
       at_builtin;have _t:=r;refine oy rfl _ _ rfl _ _ w.heap.size _ _ _ rfl rfl D.o R.o I t (by omega) ?_;intro v4 w4 d c
       have F:=za d;have G:=za (C.o.grown c t (λq hq=>by obtain⟨_,_,p,_⟩:=D.o;exact (p.lt q hq).1));have V:=G.o.size;have z:=trivial;clear d c r _t)
      | (
       at_builtin;have _t:=z;refine oy rfl _ _ rfl _ _ w.heap.size w.heap.size _ _ rfl rfl (F.o.below (zB.alloc zL _)) (pH w4 w V) zL (by simp;omega) ao ?_;intro v5 w5 l i
       have ac:=za l;have ak:=za ((G.o.alloc V _).grown i (by simp;omega) (λq hq=>by obtain⟨_,_,p,_⟩:=F.o;exact (p.lt q hq).1));clear l i z _t))
     go_roundw
     .exact⟨f.drop (k+1),h3,_,aB,aq,by rw[af,ab];omega,rfl,Z,ac,H,ak⟩
     .simp;omega
  .have ar:n=0:=(by omega);have he:=yz.1 (by rw[HN.o];exact ar);have HF:Hid (O=Ob (E.map rab) h):=(by have p:=S.o;rw[he]at p;show _=_;rw[<-p];have h2:=Q5 [] m B;have  :=yz.1 (by simpa using h2);show O=O++rE [] m [];rw[this,yY]);subst ar;clear he hn;go_wp2;go_ret2;refine⟨_,rfl,?_,HB.o⟩;rw[<-HF.o];exact HO.o
