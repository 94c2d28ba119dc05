/- Part of the proofs of FsLinks: the texts Fs6. -/
import Derived.Test.YtpoglnpjadmbpaaGreatDoorKA37
set_option maxHeartbeats 16000000
set_option maxRecDepth 100000
namespace Go.Proofs.YtpoglnpjadmbpaaGreatDoor
open Go.RowKit
def qbv {α:Type} (t p:List (Int × α)):List (Int × α):=p.foldl (fun t y=>putZ t y.1 y.2) t
theorem qzq {α:Type} {a b:Int} (hab:a ≠ b) (x y:α):∀ z:List (Int × α),putZ (putZ z a x) b y=putZ (putZ z b y) a x
 | []=>by
  simp only[putZ]
  by_cases h:b<a
  ·rw[if_pos h,if_neg (by omega),if_neg hab]
  ·rw[if_neg h,if_neg (Ne.symm hab),if_pos (by omega)]
 | c :: z=>by
  have ih:=qzq hab x y z
  simp only[putZ]
  by_cases h1:a<c.1
  ·rw[if_pos h1]
   by_cases h2:b<c.1
   ·rw[if_pos h2]
    simp only[putZ]
    by_cases h:b<a
    ·rw[if_pos h,if_neg (by omega),if_neg hab,if_pos h1]
    ·rw[if_neg h,if_neg (Ne.symm hab),if_pos h2,if_pos (by omega)]
   ·rw[if_neg h2]
    by_cases h3:b=c.1
    ·rw[if_pos h3]
     simp only[putZ]
     rw[if_neg (by omega),if_neg (Ne.symm hab),if_neg h2,if_pos h3,if_pos (by omega)]
    ·rw[if_neg h3]
     simp only[putZ]
     rw[if_neg (by omega),if_neg (Ne.symm hab),if_neg h2,if_neg h3,if_pos h1]
  ·rw[if_neg h1]
   by_cases h4:a=c.1
   ·rw[if_pos h4]
    by_cases h2:b<c.1
    ·rw[if_pos h2]
     simp only[putZ]
     rw[if_pos (by omega),if_neg (by omega),if_neg hab,if_neg h1,if_pos h4]
    ·rw[if_neg h2,if_neg (by omega)]
     simp only[putZ]
     rw[if_neg (by omega),if_neg (by omega),if_neg h1,if_pos h4]
   ·rw[if_neg h4]
    by_cases h2:b<c.1
    ·rw[if_pos h2]
     simp only[putZ]
     rw[if_pos h2,if_neg (by omega),if_neg hab,if_neg h1,if_neg h4]
    ·rw[if_neg h2]
     by_cases h3:b=c.1
     ·rw[if_pos h3]
      simp only[putZ]
      rw[if_neg h2,if_pos h3,if_neg (by omega),if_neg (by omega)]
     ·rw[if_neg h3]
      simp only[putZ]
      rw[if_neg h2,if_neg h3,if_neg h1,if_neg h4,ih]
theorem qzf {α:Type}:∀ {l:List (Int × α)},(l.map (·.1)).Nodup->∀ {x y:Int × α},x ∈ l->y ∈ l->x.1=y.1->x=y
 | [],_,x,y,hx,_,_=>by cases hx
 | c :: l,hn,x,y,hx,hy,h=>by
  rw[List.map_cons,List.nodup_cons]at hn
  rcases List.mem_cons.1 hx with hx | hx
  ·rcases List.mem_cons.1 hy with hy | hy
   ·rw[hx,hy]
   ·rw[hx]at h
    exact absurd (show c.1 ∈ l.map (·.1) from List.mem_map.2 ⟨y,hy,h.symm⟩) hn.1
  ·rcases List.mem_cons.1 hy with hy | hy
   ·rw[hy]at h
    exact absurd (show c.1 ∈ l.map (·.1) from List.mem_map.2 ⟨x,hx,h⟩) hn.1
   ·exact qzf hn.2 hx hy h
theorem ybco {α:Type} {t p q:List (Int × α)} (hp:p.Perm q) (hn:(p.map (·.1)).Nodup):qbv t p=qbv t q:=by
 refine hp.foldl_eq' (fun x hx y hy z=>?_) t
 by_cases h:x.1=y.1
 ·have:=qzf hn hx hy h
  subst this;rfl
 ·exact qzq (fun e=>h (by simpa using e)) _ _ _
theorem ybig {α:Type} (t:List (Int × α)):∀ p:List (Int × α),(qbv t p).length<=t.length+p.length:=fun p=>by
 unfold qbv
 induction p generalizing t with
 | nil=>simp
 | cons y p ih=>
  have h1:=ih (putZ t y.1 y.2)
  have h2:=qdo y.1 y.2 t
  rw[List.foldl_cons,List.length_cons]
  omega
def dfK (s:Fs) (b:List Int) (put:List (Int × List Int)):Nat->List (Int × List Int)
 | 0=>put
 | j+1=>if eqB (secE s (1+j)) (sec b j)=true then dfK s b put j else putZ (dfK s b put j) ((1+j:Nat):Int) (sec b j)
def dfQ (s:Fs) (q:List Int) (put:List (Int × List Int)):List (Int × List Int):=if eqB (secE s 4) q=true then put else putZ put ((4:Nat):Int) q
def qbl (x:Tx) (s:Fs):List (Int × List Int):=dfQ s (qfh x.rows.length x.rows) (dfK s (qbs x.fo) x.put 3)
theorem qvr (s:Fs) (b:List Int) (put:List (Int × List Int)):∀ j,(dfK s b put j).length<=put.length+j
 | 0=>Nat.le_refl _
 | j+1=>by
  have ih:=qvr s b put j
  unfold dfK
  split
  ·omega
  ·have:=qdo ((1+j:Nat):Int) (sec b j) (dfK s b put j)
   omega
theorem ybxc (s:Fs) (q:List Int) (put:List (Int × List Int)):(dfQ s q put).length<=put.length+1:=by
 unfold dfQ
 split
 ·omega
 ·exact qdo _ _ _
theorem ybhr (d lg:Value) (fo fo':Fo) (rv nv tv hv:Value):((fsR d lg fo rv nv tv hv).toList.take 2++(encF fo').toList++(fsR d lg fo rv nv tv hv).toList.drop (2+(encF fo').size)).toArray=fsR d lg fo' rv nv tv hv:=by
 apply Array.ext_getElem?
 intro i
 have hs:(encF fo').toList.length=192:=by simpa using qak fo'
 have hl:(fsR d lg fo rv nv tv hv).toList.length=198:=by simpa using qgi d lg fo rv nv tv hv
 have hg:∀ j,(fsR d lg fo rv nv tv hv).toList[j]? = (fsR d lg fo rv nv tv hv)[j]? :=fun j=>Array.getElem?_toList
 rw[List.getElem?_toArray,qak]
 by_cases h1:i<2
 ·rw[List.append_assoc,List.getElem?_append_left (by rw[List.length_take,hl];omega),List.getElem?_take,if_pos h1,hg,qiu _ _ _ _ _ _ _ _ (by omega),qiu _ _ _ _ _ _ _ _ (by omega)]
  unfold qkw
  by_cases h0:i=0
  ·rw[if_pos h0,if_pos h0]
  ·rw[if_neg h0,if_neg h0,if_pos (by omega),if_pos (by omega)]
 ·by_cases h2:i<194
  ·rw[List.append_assoc,List.getElem?_append_right (by rw[List.length_take,hl];omega),List.getElem?_append_left (by rw[List.length_take,hl,hs];omega),List.length_take,hl,Array.getElem?_toList,show i - min 2 198=i - 2 by omega]
   have:=ybma d lg fo' rv nv tv hv (i - 2) (by rw[qak];omega)
   rw[show 2+(i - 2)=i by omega]at this
   exact this.symm
  ·rw[List.append_assoc,List.getElem?_append_right (by rw[List.length_take,hl];omega),List.getElem?_append_right (by rw[List.length_take,hl,hs];omega),List.getElem?_drop,List.length_take,hl,hs,hg]
   rw[show 2+192+(i - min 2 198 - 192)=i by omega]
   by_cases h3:i<198
   ·rw[qiu _ _ _ _ _ _ _ _ h3,qiu _ _ _ _ _ _ _ _ h3]
    unfold qkw
    have n0:¬ i=0:=by omega
    have n1:¬ i=1:=by omega
    simp only[n0,n1,h2,if_false]
   ·rw[Array.getElem?_eq_none (by rw[qgi];omega),Array.getElem?_eq_none (by rw[qgi];omega)]
theorem qwb (d lg:Value) (fo:Fo) (rv nv tv hv:Value) (i:Nat) (_h:194<=i) (u:Value) (hi:i<198):(fsR d lg fo rv nv tv hv).setIfInBounds i u=Array.ofFn (n:=198) fun j=>if j.val=i then u else qkw d lg fo rv nv tv hv j.val:=by
 apply Array.ext_getElem?
 intro j
 rw[Array.getElem?_setIfInBounds,qgi]
 by_cases hj:i=j
 ·rw[if_pos hj,if_pos (by omega)]
  subst hj
  simp[hi]
 ·rw[if_neg hj]
  by_cases hj2:j<198
  ·rw[qiu _ _ _ _ _ _ _ _ hj2]
   simp[hj2,Ne.symm hj]
  ·rw[Array.getElem?_eq_none (by rw[qgi];omega),Array.getElem?_eq_none (by simp;omega)]
theorem ybsk (d lg:Value) (fo:Fo) (rv nv tv hv u:Value):(fsR d lg fo rv nv tv hv).setIfInBounds 194 u=fsR d lg fo u nv tv hv:=by
 rw[qwb _ _ _ _ _ _ _ 194 (by omega) u (by omega)]
 unfold fsR
 congr 1
 funext j
 unfold qkw
 by_cases h:j.val=194
 ·simp[h]
 ·simp[h]
theorem ybmb (d lg:Value) (fo:Fo) (rv nv tv hv u:Value):(fsR d lg fo rv nv tv hv).setIfInBounds 195 u=fsR d lg fo rv u tv hv:=by
 rw[qwb _ _ _ _ _ _ _ 195 (by omega) u (by omega)]
 unfold fsR
 congr 1
 funext j
 unfold qkw
 by_cases h:j.val=195
 ·simp[h]
 ·simp[h]
theorem qaw.without {w:World} {d:Value} {st:Dk} {k:Nat} {FD:Nat->Prop} (h:qaw w d st k FD) {g:Nat} {c:Array Value} {t:TypeId} {fr:Nat × Nat} (hg:w.heap[g]? = some (.cells c t fr)) (h1:t ≠ 128) (h2:t ≠ 5) (h3:t ≠ 130):qaw w d st k (fun i=>FD i/\i ≠ g):=by
 obtain⟨gd,gs,gn,wt,E,L,rfl,hl⟩:=h
 refine⟨gd,gs,gn,wt,E,L,rfl,{ hl with fd:=⟨hl.fd,qam hl.hd hg (Ne.symm h1)⟩,fs:=⟨hl.fs,qam hl.hs hg (Ne.symm h2)⟩,fn:=⟨hl.fn,qam hl.hn hg (Ne.symm h2)⟩,fw:=fun b hb=>⟨hl.fw b hb,fun hc=>qds hl.own hg (Ne.symm h3) (by rw[hb,hc])⟩,ent:=?_,fin:=fun i hi=>hl.fin i hi.1 }⟩
 intro i n v hv
 obtain⟨q1,D,q2,g',cap,cur,e1,e2,e3,e4,e5,e6,e7⟩:=hl.ent i n v hv
 exact⟨q1,D,q2,g',cap,cur,e1,e2,⟨e3,qam e6 hg (Ne.symm h2)⟩,e4,e5,e6,e7⟩
theorem ybti {w:World} {gl:Nat} {a:Addr} {sq:Int} (h:w.heap[gl]? = some (.cells (logR a sq) 165 (0,0))):
  Calls Tryz.prog 142 #[.pointer (some ⟨gl,0,none⟩)] w (fun e w'=>e=.returned (.int .i64 30)/\w=w'):=by
 have c2:w.cell? ⟨gl,2,none⟩=some (.int .i64 32):=cell_of_row _ _ 2 _ _ _ h
 clear h
 go_enter Tryz.func142,Tryz.ntmps142
 go_wp2
 go_ret
 simp
theorem ybwl {w:World} {_base g _c:Nat} {cur:Array Value} {t:TypeId} {D:List Int} {n:Nat} (hD:D.length=n) (hh:w.heap[g]? = some (.cells cur t (0,0))) (ht:cur.toList.take n=u8s D) (o m c':Nat) (hm:o+m<=n):qaf w (.slice (some ⟨g,o,none⟩) m c') ((D.drop o).take m):=by
 have hl:((D.drop o).take m).length=m:=by rw[List.length_take,List.length_drop,hD];omega
 refine⟨by rw[qal,hl,Nat.mul_one],Or.inr ⟨g,o,c',by rw[hl],fun j x hx=>?_⟩⟩
 have hjm:j<m:=by
  have:=(List.getElem?_eq_some_iff.1 hx).1
  rwa [qal,hl]at this
 rw[cell_of_row _ _ _ _ _ _ hh,<-Array.getElem?_toList]
 have h3:(cur.toList.take n)[o+j]? = (u8s D)[o+j]? :=by rw[ht]
 rw[List.getElem?_take,if_pos (by omega)]at h3
 rw[h3]
 rw[qdf,List.getElem?_take,if_pos hjm,qdq,List.getElem?_drop]at hx
 exact hx
theorem qdr.not_cells {P:Program} {K:TypeId} {w:World} {b r:Nat} {l done:List (Int × Value)} {cnt:Nat} (h:qdr P K w b r l done cnt) {g:Nat} {c:Array Value} {t:TypeId} {fr:Nat × Nat} (hg:w.heap[g]? = some (.cells c t fr)):g ≠ r:=by
 rintro rfl
 obtain⟨h1,h2,h3,h4,left,⟨es,clock,since,seen,c0,q1,q2,q3,q4,q5,q6⟩,h5⟩:=h
 rw[hg]at q5
 injection q5 with q5
 cases q5
theorem ybiw {α β:Type}:∀ {pl:List (Int × α)} {put:List (Int × β)} (d:β),pl.map (·.1)=put.map (·.1)->qcp pl->pl.map (fun y=>(y.1,(getZ put y.1).getD d))=put:=fun {pl put} d hk hr=>by
 have hp:qcp put:=by
  have h1:(pl.map (·.1)).Pairwise (· < ·):=List.pairwise_map.2 hr
  rw[hk]at h1
  exact List.pairwise_map.1 h1
 have e:pl.map (fun y=>(y.1,(getZ put y.1).getD d))=(pl.map (·.1)).map (fun k=>(k,(getZ put k).getD d)):=by rw[List.map_map];rfl
 rw[e,hk,List.map_map]
 conv=>rhs;rw[<-List.map_id put]
 refine List.map_congr_left fun y hy=>?_
 show (y.1,(getZ put y.1).getD d)=y
 rw[qdi hp (k:=y.1) (v:=y.2) hy]
 rfl
def kpF (gt gf:Nat) (A:Array Value) (rv nv:Value) (i:Nat) (v:Value):Prop:=
 if i=5 then v=.pointer (some ⟨gt,1,none⟩) else if i=6 then v=.agg A else if i=9 then v=.pointer (some ⟨gt,193,none⟩) else if i=10 then v=rv else if i=13 then v=.pointer (some ⟨gt,194,none⟩) else if i=14 then v=nv
 else if i=16 then v=.pointer (some ⟨gf,2,none⟩) else if i=19 then v=.pointer (some ⟨gf,194,none⟩) else if i=22 then v=.pointer (some ⟨gf,195,none⟩) else if i=17\/i=20\/i=23 then v=undef
 else if i=0\/i=1\/i=2\/i=15\/i=18\/i=21 then v=.pointer (some ⟨gf,0,none⟩) else v=.pointer (some ⟨gt,0,none⟩)
theorem qny {P:Program} {o:Oper} {a:Act} {w:World} {K:Act->World->Prop} {Q:Exit->Act->World->Prop} (ty:TypeId) (x y:Operand) (ho:o.op=.store ty x y)
  (g off:Nat) (q:Option Addr) (n c:Nat) (hx:a.eval x=.pointer (some ⟨g,off,none⟩)) (hy:a.eval y=.slice q n c) (hi:(P.info? ty).map (·.size)=some 1)
  (old:Array Value) (t:TypeId) (hg:w.heap[g]? = some (.cells old t (0,0))) (ho2:off<old.size)
  (h:K (a.put o.dst undef) (w.setCell ⟨g,off,none⟩ (.slice q n c))):o.wp P a w K Q:=by
 have hc:w.cell? ⟨g,off,none⟩=some old[off]:=by rw[cell_of_row _ _ _ _ _ _ hg];exact Array.getElem?_eq_getElem ho2
 have hf:w.frozen? ⟨g,off,none⟩=false:=frozen_of_row _ _ _ _ _ hg
 cases hq:P.info? ty with
 | none=>simp[hq]at hi
 | some i=>
  have hs:i.size=1:=by simpa[hq]using hi
  unfold Oper.wp execOp
  simp only[ho,hx,hy]
  have hz:(sizeOf ty).run P w=.ok 1 w:=by simp[sizeOf,typeInfo,hq,hs]
  simp[go_sem,hz,hc,hf,Result.andThen]
  exact h
theorem ybzy {w w0:World} {F F1 T:Nat->Prop} {gt gf:Nat} {x:Tx} {s:Fs} {a:Addr} {B0:Nat} (hf:FsAt w0 gf s F1 B0 a) (hb:Below w0.heap.size w0 w) (h:TxAt w w0.heap.size F gt (.pointer (some ⟨gf,0,none⟩)) x T) (hFF:∀ i,F1 i->F i)
  (hr:qbn x.fo=0) (hq:qda x.rows=0) (hB0:B0<=w0.heap.size) (hk5:5<=s.k) (hlen:s.todo.length+x.put.length<=25):
  Calls Tryz.prog 96 #[.pointer (some ⟨gt,0,none⟩)] w
   (fun e w'=>e=.returned (.int .i64 0)/\FsAt w' gf { s with fo:=x.fo,rows:=x.rows,nodes:=x.nodes,todo:=qbv s.todo (qbl x s) } F1 B0 a/\qab F1 w0 w'):=by
 have H:=Lib.hid h
 have HF:=Lib.hid hf
 have HBB:=Lib.hid hb
 obtain⟨rv,gn,cn,gd,gp,gv,E,pl,hl⟩:=h.lies
 obtain⟨c0,c193,c194,c195,c196,c197,c198,c199⟩:=qbt hl.row
 have HL:=Lib.hid hl
 have HK5:=Lib.hid hk5
 obtain⟨A,HA⟩:∃ A,Hid (A=encF x.fo):=⟨_,rfl⟩
 have HAS:Hid (A.size=192):=by rw[HA.out];exact qak _
 obtain⟨R,HR⟩:∃ R,Hid (txR (.pointer (some ⟨gf,0,none⟩)) x.fo rv (.slice (some ⟨gn,0,none⟩) 32 cn) (.map (some gd)) (.map (some gp)) gv x.full x.fake=R):=⟨_,rfl⟩
 have HRP:Hid (∀ j,j<A.size->R[1+j]? = A[j]?):=by rw[<-HR.out,HA.out];exact qtb _ _ _ _ _ _ _ _ _
 have hrow:=hl.row
 rw[HR.out]at hrow
 have HROW:=Lib.hid hrow
 have HPK:Hid (∀ W:World,Calls Tryz.prog 76 #[.agg A] W (qlw x.fo W)):=fun W=>by rw[HA.out];exact qos _ hr W
 have HPQ:Hid (∀ W:World,Below w.heap.size w W->Calls Tryz.prog 84 #[rv] W (qvl x.rows W)):=fun W hW=>qut rv x.rows W (hl.rows.now.below hW) hq
 have hqr:=(qzu hq).1
 clear h hf hb hl hr hq hrow
 go_enter Tryz.func96,Tryz.ntmps96
 go_wp2_with (refine qar (by kernel_rfl) 80 (.tmp 19) rfl gt 1 rfl 114 R A (0,0) _ HROW.out HRP.out forT rfl (by rw[HAS.out];exact forI) ?_)
 refine (HPK.out w).mono ?_
 rintro e w1 ⟨v1,rfl,ho1,hb1⟩
 obtain⟨_,⟨_,h0⟩ | ⟨g1,cp1,cur1,rfl,hg1,hh1,hcap1,_,_,ht1⟩⟩:=id ho1
 ·omega
 have HB1:=Lib.hid hb1
 have HH1:=Lib.hid hh1
 have HT1:=Lib.hid ht1
 have HG1:Hid (w.heap.size<=g1/\g1<w1.heap.size):=⟨by omega,qac hh1⟩
 clear ho1 hb1 hh1 ht1 hg1
 have c193':=(HB1.out.cell (p:=⟨gt,193,none⟩) (qac HROW.out)).trans c193
 go_wp2_with fail
 refine (HPQ.out w1 HB1.out).mono ?_
 rintro e w2 ⟨g2,rfl,hg2,hh2,hb2⟩
 have HB2:Hid (Below w.heap.size w w2):=Below.step HB1.out hb2
 have HH2:=Lib.hid hh2
 have HH1':=Lib.hid (qaa hb2 HH1.out)
 have HG2:Hid (w.heap.size<=g2/\g2<w2.heap.size/\g1<w2.heap.size):=⟨Nat.le_trans HB1.out.size hg2,qac hh2,qac HH1'.out⟩
 clear hg2 hh2 hb2 c0 c193 c193' c194 c195 c196 c197 c198 c199
 have HTX:=Lib.hid (H.out.below HB2.out)
 have HBW2:Hid (Below w0.heap.size w0 w2):=HBB.out.trans (HB2.out.mono HBB.out.size)
 go_wp2
 go_loopw [38] (fun iv wr=>∃ j:Nat,j<=3/\iv=.int .i64 j/\Hid (qbg w0.heap.size F gt (.pointer (some ⟨gf,0,none⟩)) { x with put:=dfK s (qbs x.fo) x.put j } T w2 wr)) (fun iv _=>3 - (intOf iv).toNat)
 case atStart=>exact⟨0,by omega,rfl,qbg.same HTX.out (Below.refl _ _)⟩
 case round=>
  obtain⟨j,hj,rfl,HD⟩:=hrel
  by_cases hj3:j<3
  ·obtain⟨T1,t1,t2,t3,t4⟩:=HD.out
   have HT3:=Lib.hid t3
   have HT2:=Lib.hid t2
   have HT4:=Lib.hid t4
   have hg1T:¬ T g1:=fun hc=>by have:=H.out.fin g1 hc;have:=HG1.out.1;omega
   have hbw:Below w0.heap.size w0 wr:=HBW2.out.trans (t3.to_below H.out.new HBW2.out.size)
   have hhr:=(t3.block g1 HG2.out.2.2 hg1T).trans HH1'.out
   have hb64:qaf wr (.slice (some ⟨g1,64*j,none⟩) 64 (cp1 - 64*j)) (sec (qbs x.fo) j):=ybwl (_base:=0) (_c:=0) (qgy _) hhr (by simpa using HT1.out) (64*j) 64 _ (by omega)
   have hsl:(sec (qbs x.fo) j).length=64:=qhu (k:=3) (qgy _) hj3
   have HDF:=Lib.hid (ybal HF.out hbw t1 (1+j) (by have:=HK5.out;omega) _ _ hb64 hsl (by have:=qvr s (qbs x.fo) x.put j;show (dfK s (qbs x.fo) x.put j).length<900;omega))
   have i1:IntKind.i64.wrap (64*(j:Int))=64*(j:Int):=IntWalk.i64_in _ (by omega)
   have i2:IntKind.i64.wrap ((j:Int)+1)=(j:Int)+1:=IntWalk.i64_in _ (by omega)
   have i3:IntKind.i64.wrap (64*((j:Int)+1))=64*((j:Int)+1):=IntWalk.i64_in _ (by omega)
   have i4:IntKind.i64.wrap (1+(j:Int))=1+(j:Int):=IntWalk.i64_in _ (by omega)
   have i5:((1+j:Nat):Int)=1+(j:Int):=by omega
   rw[i5]at HDF
   have hj3':(j:Int)<3:=by omega
   clear t1 t2 t3 t4 hbw hhr hb64 hsl hg1T
   go_wp2_with fail
   rw[show 64*(j+1) - 64*j=64 by omega]
   refine HDF.out.mono ?_
   rintro e w3 ⟨rfl,T3,u1,u2,u3,u4⟩
   have HD3:Hid (qbg w0.heap.size F gt (.pointer (some ⟨gf,0,none⟩)) { x with put:=dfK s (qbs x.fo) x.put (j+1) } T w2 w3):=by
    refine⟨T3,?_,fun r hr=>?_,HT3.out.trans u3 HT2.out,fun r hr=>u4 r (HT4.out r hr)⟩
    ·have e:dfK s (qbs x.fo) x.put (j+1)=if eqB (secE s (1+j)) (sec (qbs x.fo) j)=true then dfK s (qbs x.fo) x.put j else putZ (dfK s (qbs x.fo) x.put j) (1+(j:Int)) (sec (qbs x.fo) j):=by
      conv=>lhs;unfold dfK
      rw[i5]
     rw[e]
     exact u1
    ·rcases u2 r hr with h1 | h1
     ·exact HT2.out r h1
     ·exact Or.inr (Nat.le_trans HT3.out.size h1)
   clear u1 u2 u3 u4 HDF
   go_wp2
   go_roundw
   case rel=>exact⟨j+1,by omega,by go_num,HD3⟩
   case measure=>simp[intOf];omega
  ·obtain rfl:j=3:=by omega
   obtain⟨T1,t1,t2,t3,t4⟩:=HD.out
   have HT3:=Lib.hid t3
   have HT2:=Lib.hid t2
   have HT4:=Lib.hid t4
   have hg2T:¬ T g2:=fun hc=>by have:=H.out.fin g2 hc;have:=HG2.out.1;omega
   have hbw:Below w0.heap.size w0 wr:=HBW2.out.trans (t3.to_below H.out.new HBW2.out.size)
   have hhr:=(t3.block g2 HG2.out.2.1 hg2T).trans HH2.out
   have hql:(qfh x.rows.length x.rows).length=64:=qng _ _ hqr
   have hb64:qaf wr (.slice (some ⟨g2,0,none⟩) 64 64) (qfh x.rows.length x.rows):=qav hql hhr (by
    show (u8s (qfh x.rows.length x.rows)).toArray.toList.take 64=u8s (qfh x.rows.length x.rows)
    rw[List.toList_toArray,List.take_of_length_le (by rw[qal,hql];exact Nat.le_refl _)])
   have HDF:=Lib.hid (ybal HF.out hbw t1 4 (by have:=HK5.out;omega) _ _ hb64 hql (by have:=qvr s (qbs x.fo) x.put 3;show (dfK s (qbs x.fo) x.put 3).length<900;omega))
   rw[show ((4:Nat):Int)=4 from rfl]at HDF
   clear t1 t2 t3 t4 hbw hhr hb64 hql hg2T
   go_wp2_with fail
   refine HDF.out.mono ?_
   rintro e w3 ⟨rfl,T3,u1,u2,u3,u4⟩
   have HTK:Hid (TxAt w3 w0.heap.size F gt (.pointer (some ⟨gf,0,none⟩)) { x with put:=qbl x s } T3):=u1
   have HB3:Hid (Below w0.heap.size w0 w3):=by
    have hk:=HT3.out.trans u3 HT2.out
    exact HBW2.out.trans (hk.to_below H.out.new HBW2.out.size)
   clear u1 u2 u3 u4 HDF HD HT3 HT2 HT4 HROW HRP HPK HPQ HTX HR HL
   obtain⟨rv,gn,cn,gd,gp,gv,E,pl,hl⟩:=HTK.out.lies
   obtain⟨c0,c193,c194,c195,c196,c197,c198,c199⟩:=qbt hl.row
   obtain⟨⟨gl,rv',nv',bt,bh,E',tl,FD,f1,f2,f3,f4,f5,f6,f7,f8,f9,f10,f11,f12,f13,f14,f15,f16,f17⟩,fa1,fa2,fa3,fa4,fa5,fa6,fa7⟩:=HF.out.below HB3.out
   obtain⟨d0,d1,d194,d195,d196,d197⟩:=qev f1
   have hln:=f10.len (T:=93) qpu 3
   have HFB:=Lib.hid f10
   have HGP:=Lib.hid hl.puts
   have htl:tl.length=s.todo.length:=f11.len
   have hpn:pl.length<=s.todo.length+pl.length:=by omega
   have hpl:pl.length<=x.put.length+4:=by
    rw[hl.secs.len]
    have q1:=ybxc s (qfh x.rows.length x.rows) (dfK s (qbs x.fo) x.put 3)
    have q2:=qvr s (qbs x.fo) x.put 3
    show (qbl x s).length<=_
    unfold qbl
    omega
   have HN30:Hid (tl.length+pl.length<=30):=Lib.hid (by omega)
   have HLL:=Lib.hid hl
   have HXX:=Lib.hid HTK.out
   have HGL:=Lib.hid f5
   have HROWF:=Lib.hid f1
   have HGTL:Hid (gt<w3.heap.size/\gf<w3.heap.size/\gp<w3.heap.size/\bt<w3.heap.size/\gl<w3.heap.size):=⟨qac hl.row,qac f1,hl.puts.lt,f10.lt,qac f5⟩
   have HC:Hid (w3.cell? ⟨gt,0,none⟩=some (.pointer (some ⟨gf,0,none⟩))/\w3.cell? ⟨gt,196,none⟩=some (.map (some gp))/\w3.cell? ⟨gf,1,none⟩=some (.pointer (some ⟨gl,0,none⟩))/\w3.cell? ⟨gf,196,none⟩=some (.map (some bt))):=⟨c0,c196,d1,d196⟩
   have HFREST:Hid (qaw w3 (.pointer (some a)) s.dk s.k FD/\(∀ i,FD i->F1 i)/\¬ FD gl/\F1 gl/\qas w3 B0 tl s.todo/\F1 bt/\bt ≠ bh/\¬ FD bt/\MapL Tryz.prog 3 w3 bh []/\F1 bh/\¬ FD bh):=⟨f2,f3,f4,f6,f11,f12,f13,f14,f15,f16,f17⟩
   have HFA:Hid (F1 gf/\(∀ i,F1 i->i<w3.heap.size)/\(∀ i,F1 i->i<B0)/\64<=s.k/\s.k<=256):=⟨fa1,fa3,fa4,fa5,fa6⟩
   clear hl f1 f2 f3 f4 f5 f6 f7 f8 f9 f10 f11 f12 f13 f14 f15 f16 f17 fa1 fa2 fa3 fa4 fa5 fa6 fa7 c193 c194 c195 c197 c198 c199 d0 d194 d195 d197
   go_wp2_with (at_range;refine qfq _ rfl _ _ rfl 3 38 intT qpu gp pl rfl HGP.out ?_;intro w4 hr4 hg4 hs4)
   have HB4:Hid (Below w3.heap.size w3 w4):=Below.grown (Below.refl _ _) hg4 (Nat.le_refl _) (fun q hq=>by cases hq)
   have HR4:=Lib.hid hr4
   clear hr4 hg4 hs4 c0 c196 d1 d196
   simp only[Act.put,List.setIfInBounds_toArray,List.set_cons_zero,List.set_cons_succ]
   go_loopw [9] (fun nv wr=>∃ (c:Nat) (done:List (Int × Value)) (cnt:Nat),nv=.int .i64 c/\Hid (c<=s.todo.length+done.length)/\Hid (qdr Tryz.prog 3 wr gp w3.heap.size pl done cnt)/\Hid (Below w3.heap.size w3 wr)) (fun _ wr=>wr.rangeLeft gp w3.heap.size)
   case atStart=>exact⟨s.todo.length,[],pl.length,rfl,Nat.le_refl _,HR4,HB4⟩
   case round=>
    obtain⟨c,done,cnt,rfl,HCN,HRG,HBR⟩:=hrel
    have hle:=HRG.out.left_eq
    have hgl1:=(HBR.out.cell (p:=⟨gf,1,none⟩) HGTL.out.2.1).trans HC.out.2.2.1
    go_wp2_with (at_next;refine qgn _ rfl _ rfl 3 intT gp _ pl done cnt rfl HRG.out (fun hp=>?qd) (fun xk c' w' cnt' hxz hmem hnot hlen' hrg' hlt hgr hsz hen=>?qm);(case' qm=>(have HRG':=Lib.hid hrg';have hcb:(c:Int)<=29:=(by have:=HCN.out;have:=HN30.out;omega);have HB':Hid (Below w3.heap.size w3 w'):=Below.grown HBR.out hgr HBR.out.size (fun q hq=>by injection hq with hq;omega);have hlk:=(HFB.out.of_block (HB'.out.block _ HFB.out.lt)).look_ok (k:=xk) intT qpu (u8sZ w') hxz;have hcf:=(HB'.out.cell (p:=⟨gf,196,none⟩) HGTL.out.2.1).trans HC.out.2.2.2;have hle':=hrg'.left_eq;(cases hhz:hasZ tl xk) <;> (rw[hhz]at hlk;clear hrg' hgr hsz hmem hnot))))
    ·go_roundw
     case rel=>exact⟨c+1,_,cnt',by go_num,Lib.hid (by have:=HCN.out;rw[List.length_append];simp;omega),HRG',HB'⟩
     case measure=>rw[hle,hle'];omega
    ·go_roundw
     case rel=>exact⟨c,_,cnt',rfl,Lib.hid (by have:=HCN.out;rw[List.length_append];simp;omega),HRG',HB'⟩
     case measure=>rw[hle,hle'];omega
    ·have hpd:=hp.length_eq
     have hc30:¬ 30<(c:Int):=by have:=HCN.out;have:=HN30.out;omega
     have hc30':¬ 30<c:=by omega
     have HGLr:=Lib.hid (qaa HBR.out HGL.out)
     have HR5:=Lib.hid (HGP.out.of_block (HBR.out.block _ HGP.out.lt))
     have c0r:=(HBR.out.cell (p:=⟨gt,196,none⟩) HGTL.out.1).trans HC.out.2.1
     have hgfr:=(HBR.out.cell (p:=⟨gf,196,none⟩) HGTL.out.2.1).trans HC.out.2.2.2
     go_wp2_with (first | (go_at_call 142;refine (ybti HGLr.out).mono ?_;rintro e w' ⟨rfl,rfl⟩) | (at_range;refine qfq _ rfl _ _ rfl 3 38 intT qpu gp pl rfl HR5.out ?_;intro w5 hr5 hg5 hs5))
     have HB5:Hid (Below w3.heap.size w3 w5):=Below.grown HBR.out hg5 HBR.out.size (fun q hq=>by cases hq)
     have HK5r:Hid (qab (fun i=>i=bt) w3 w5):=qab.of_below HB5.out
     have HRA:=Lib.hid hr5
     have hr2:w3.heap.size<=wr.heap.size:=HBR.out.size
     obtain⟨r2,Hr2⟩:∃ r,Hid (wr.heap.size=r):=⟨_,rfl⟩
     have HM5:Hid (MapL Tryz.prog 3 w5 bt (qbv tl [])):=HFB.out.of_block (HB5.out.block _ HFB.out.lt)
     have HS5:Hid (qas w5 B0 (qbv tl []) (qbv s.todo [])):=HFREST.out.2.2.2.2.1.keep fun g cc _ hc=>HB5.out.block g (qac hc)
     rw[Hr2.out]at HRA hr2
     have HBTL:Hid (bt ≠ r2/\gp ≠ bt/\r2 ≠ gp):=⟨by have:=HGTL.out.2.2.2.1;omega,fun hc=>by
      have h1:=HXX.out.new gp HLL.out.tp
      have h2:=HFA.out.2.2.1 bt HFREST.out.2.2.2.2.2.1
      omega,by have:=HGTL.out.2.2.1;omega⟩
     clear hr5 hg5 hs5 HRG hle c0r hgfr HR5 HGLr hgl1 hpd
     simp only[Act.put,List.setIfInBounds_toArray,List.set_cons_zero,List.set_cons_succ]
     rw[Hr2.out]
     go_loopw [14] (fun _ wq=>∃ (done:List (Int × Value)) (cnt:Nat),Hid (qdr Tryz.prog 3 wq gp r2 pl done cnt)/\Hid (qab (fun i=>i=bt) w3 wq)/\Hid (MapL Tryz.prog 3 wq bt (qbv tl done))/\Hid (qas wq B0 (qbv tl done) (qbv s.todo (done.map fun y=>(y.1,(getZ (qbl x s) y.1).getD [])))) ) (fun _ wq=>wq.rangeLeft gp r2)
     case atStart=>exact⟨[],_,HRA,HK5r,HM5,HS5⟩
     case round=>
      obtain⟨dn,cnt2,HRB,HKB,HMB,HSB⟩:=hrel
      have hleB:=HRB.out.left_eq
      have hfc:∀ W:World,qab (fun i=>i=bt) w3 W->W.cell? ⟨gf,196,none⟩=some (.map (some bt)):=fun W hk=>(hk.cell HGTL.out.2.1 (fun hc=>by
       have h1:=HROWF.out
       exact qaj h1 HFB.out hc)).trans HC.out.2.2.2
      have HFC:=Lib.hid hfc
      clear hfc
      have hdl:(qbv tl dn).length<1000000:=by
       have h1:=ybig tl dn
       have h2:dn.length<=pl.length:=by
        obtain⟨h1,h2,h3,h4,_⟩:=HRB.out
        have:=qnb (ys:=pl.map (·.1)) h3 (fun z hz=>by
         obtain⟨y,hy,rfl⟩:=List.mem_map.1 hz
         exact List.mem_map.2 ⟨y,h4 y hy,rfl⟩)
        simpa using this
       have:=HN30.out
       omega
      have HDL:=Lib.hid hdl
      clear hdl
      have hstep:∀ (w':World),wr.grownBy w' (some r2)->qab (fun i=>i=bt) w3 w'/\w'.cell? ⟨gf,196,none⟩=some (.map (some bt))/\(∀ b,b<wr.heap.size->b ≠ r2->w'.heap[b]? = wr.heap[b]?)/\MapL Tryz.prog 3 w' bt (qbv tl dn):=fun w' hgr=>by
       have hk0:qab (fun i=>i=r2) wr w':=qab.grown (F:=fun i=>i=r2) hgr (fun q hq=>by injection hq with hq;exact hq.symm)
       have hkc:qab (fun i=>i=bt) w3 w':=HKB.out.trans hk0 (fun i hi=>Or.inr (by rw[hi];exact hr2))
       exact⟨hkc,HFC.out w' hkc,fun b h1 h2=>hk0.block b h1 h2,HMB.out.of_block (hk0.block bt HMB.out.lt HBTL.out.1)⟩
      have HST:=Lib.hid hstep
      clear hstep
      go_wp2_with (first
       | (at_next;refine qgn _ rfl _ rfl 3 intT gp _ pl dn cnt2 rfl HRB.out (fun hp=>?qd2) (fun xk c' w' cnt' hxz hmem hnot hlen' hrg' hlt hgr hsz hen=>?qm2);(case' qm2=>(have HXM:=Lib.hid hmem;have HXZ:=Lib.hid hxz;have HLT:=Lib.hid hlt;have HRC:=Lib.hid hrg';obtain⟨hkc,hcf,hgrB,hmc⟩:=HST.out w' hgr;have HKC:=Lib.hid hkc;have HGB:=Lib.hid hgrB;have HMC:=Lib.hid hmc;clear hrg' hgr hsz hmem hnot hkc hgrB hmc)))
       | (at_mapUpdate;refine qhv _ rfl _ _ _ _ rfl 3 38 intT qpu bt (qbv tl dn) xk c' rfl HMC.out HDL.out rfl rfl HXZ.out ?_;intro w6 hm6 ht6))
      ·have hk6:qab (fun i=>i=bt) w' w6:=qab.grown ht6.grown (fun r hr=>by injection hr with hr;exact hr.symm)
       have HRD:Hid (qdr Tryz.prog 3 w6 gp r2 pl (dn++[(xk,c')]) cnt'):=HRC.out.of_block (hk6.block gp HRC.out.map.lt HBTL.out.2.1) (hk6.block r2 HRC.out.lt (Ne.symm HBTL.out.1))
       have hkd:qab (fun i=>i=bt) w3 w6:=HKC.out.step hk6
       have e1:qbv tl (dn++[(xk,c')])=putZ (qbv tl dn) xk c':=by unfold qbv;rw[List.foldl_append];rfl
       have HMD:Hid (MapL Tryz.prog 3 w6 bt (qbv tl (dn++[(xk,c')]))):=by show _;rw[e1];exact hm6
       have HSD:Hid (qas w6 B0 (qbv tl (dn++[(xk,c')])) (qbv s.todo ((dn++[(xk,c')]).map fun y=>(y.1,(getZ (qbl x s) y.1).getD [])))):=by
        have e2:qbv s.todo ((dn++[(xk,c')]).map fun y=>(y.1,(getZ (qbl x s) y.1).getD []))=putZ (qbv s.todo (dn.map fun y=>(y.1,(getZ (qbl x s) y.1).getD []))) xk ((getZ (qbl x s) xk).getD []):=by
         unfold qbv;rw[List.map_append,List.foldl_append];rfl
        show _
        rw[e1,e2]
        have hgp:getZ pl xk=some c':=qdi HRB.out.1 HXM.out
        rcases HLL.out.secs.get (k:=xk) with⟨q1,_⟩ | ⟨v,D,q1,q2,q3⟩
        ·rw[hgp]at q1;cases q1
        ·rw[hgp]at q1
         injection q1 with q1
         subst q1
         have q2':getZ (qbl x s) xk=some D:=q2
         rw[q2']
         refine qas.put ?_ (HSB.out.keep fun g cc _ hc=>?_)
         ·refine qgp (q3.mono hB0) fun g cc _ hc=>hkd.block g (qac hc) (qaj hc HFB.out)
         ·have h1:=HGB.out g (qac hc) (HRB.out.not_cells hc)
          have h2:=h1.trans hc
          exact (hk6.block g (qac h2) (qaj h2 HMC.out)).trans h1
       have hleD:=HRD.out.left_eq
       exact⟨⟨_,_,_,_,_,_,_,_,_,_,_,_,_,⟨_,_,HRD,Lib.hid hkd,HMD,HSD⟩,rfl⟩,by rw[hleB,hleD];exact HLT.out⟩
      ·have hne_b:∀ (g:Nat) (c:Array Value) (t:TypeId),w3.heap[g]? = some (.cells c t (0,0))->wr.heap[g]? = some (.cells c t (0,0)):=fun g c t hc=>(HKB.out.block g (qac hc) (qaj hc HFB.out)).trans hc
       have hrt:=hne_b gt _ _ HLL.out.row
       have hrf:=hne_b gf _ _ HROWF.out
       obtain⟨A2,HA2⟩:∃ A,Hid (A=encF x.fo):=⟨_,rfl⟩
       have HAS2:Hid (A2.size=192):=by rw[HA2.out];exact qak _
       have HA21:Hid (A2.all (·.oneCell')=true):=by rw[HA2.out];exact qis _
       obtain⟨c0w,c193w,c194w,c195w,c196w,c197w,c198w,c199w⟩:=qbt hrt
       obtain⟨R2,HR2⟩:∃ R,Hid (txR (.pointer (some ⟨gf,0,none⟩)) x.fo rv (.slice (some ⟨gn,0,none⟩) 32 cn) (.map (some gd)) (.map (some gp)) gv x.full x.fake=R):=⟨_,rfl⟩
       have HRP2:Hid (∀ j,j<A2.size->R2[1+j]? = A2[j]?):=by rw[<-HR2.out,HA2.out];exact qtb _ _ _ _ _ _ _ _ _
       have hrt2:wr.heap[gt]? = some (.cells R2 114 (0,0)):=by rw[<-HR2.out];exact hrt
       have HRT2:=Lib.hid hrt2
       have hgtf:gt ≠ gf:=qam hrt hrf (by decide)
       have HCW:Hid (wr.cell? ⟨gt,193,none⟩=some rv/\wr.cell? ⟨gt,194,none⟩=some (.slice (some ⟨gn,0,none⟩) 32 cn)):=⟨c193w,c194w⟩
       have hrfv:∃ q n c,rv=.slice q n c:=by
        obtain⟨_,⟨hv,a0,c0,e⟩ | ⟨g,o,c,e,_⟩⟩:=HLL.out.rows.now
        ·exact⟨_,_,_,e⟩
        ·exact⟨_,_,_,e⟩
       obtain⟨qrv,nrv,crv,hrv⟩:=hrfv
       have hgtl:gt<wr.heap.size:=qac hrt
       have HRF:=Lib.hid hrf
       clear c0w c193w c194w c195w c196w c197w c198w c199w hrt hrt2
       refine qth (by kernel_rfl) (by kernel_rfl) (fun D _ u=>qab (fun i=>i=gf) wr u/\u.heap[gf]? = some (.cells (fsR (.pointer (some a)) (.pointer (some ⟨gl,0,none⟩)) (if D 17=true then x.fo else s.fo) (if D 20=true then rv else rv') (if D 23=true then .slice (some ⟨gn,0,none⟩) 32 cn else nv') (.map (some bt)) (.map (some bh))) 96 (0,0)))
        136 (fun i=>if i<17 then 115+i else if i=17\/i=20\/i=23 then 1000+i else if i<20 then 114+i else if i<23 then 113+i else 2000+i) (kpF gt gf A2 rv (.slice (some ⟨gn,0,none⟩) 32 cn)) (fun k v=>(k=0/\v=.pointer (some ⟨gt,0,none⟩))\/(k=8/\v=.pointer (some ⟨gf,0,none⟩))) (fun i j hij=>?_) (fun i k v hk=>?_) (by kernel_rfl) ⟨rfl,rfl,fun k v hk=>?_,(qab.refl _ _).drew,HRF.out⟩ ?_ ?_
       ·split <;> split <;> (try split) <;> (try split) <;> (try split) <;> (try split) <;> (try split) <;> (try split) <;> omega
       ·have:k<115:=by rcases hk with⟨rfl,_⟩ | ⟨rfl,_⟩ <;> omega
        split <;> (try split) <;> (try split) <;> (try split) <;> omega
       ·rcases hk with⟨rfl,rfl⟩ | ⟨rfl,rfl⟩ <;> rfl
       ·intro D b u hI i o ho hD ha
        have hpt:=hI.old 0 _ (Or.inl ⟨rfl,rfl⟩)
        have hpf:=hI.old 8 _ (Or.inr ⟨rfl,rfl⟩)
        obtain⟨hKu,hRu⟩:=hI.j
        have hns:∀ n,n ≠ 17->n ≠ 20->n ≠ 23->upd D n 17=D 17/\upd D n 20=D 20/\upd D n 23=D 23:=fun n h1 h2 h3=>⟨qen (Ne.symm h1),qen (Ne.symm h2),qen (Ne.symm h3)⟩
        have hJ:∀ n,n ≠ 17->n ≠ 20->n ≠ 23->qab (fun i=>i=gf) wr u/\u.heap[gf]? = some (.cells (fsR (.pointer (some a)) (.pointer (some ⟨gl,0,none⟩)) (if upd D n 17=true then x.fo else s.fo) (if upd D n 20=true then rv else rv') (if upd D n 23=true then .slice (some ⟨gn,0,none⟩) 32 cn else nv') (.map (some bt)) (.map (some bh))) 96 (0,0)):=fun n h1 h2 h3=>by
         obtain⟨e1,e2,e3⟩:=hns n h1 h2 h3
         rw[e1,e2,e3]
         exact⟨hKu,hRu⟩
        match i,ho,hD,ha with
        | 0,ho,hD,ha=>
         simp only[List.getElem?_cons_zero,Option.some.injEq]at ho
         subst ho
         exact qaq (.tmp 8) rfl ⟨_,rfl,(fun hc=>absurd hc (by decide)),hpf,fun _ _ _=>hJ 0 (by omega) (by omega) (by omega)⟩
        | 1,ho,hD,ha=>
         simp only[List.getElem?_cons_zero,List.getElem?_cons_succ,Option.some.injEq]at ho
         subst ho
         exact qaq (.tmp 8) rfl ⟨_,rfl,(fun hc=>absurd hc (by decide)),hpf,fun _ _ _=>hJ 1 (by omega) (by omega) (by omega)⟩
        | 2,ho,hD,ha=>
         simp only[List.getElem?_cons_zero,List.getElem?_cons_succ,Option.some.injEq]at ho
         subst ho
         exact qaq (.tmp 8) rfl ⟨_,rfl,(fun hc=>absurd hc (by decide)),hpf,fun _ _ _=>hJ 2 (by omega) (by omega) (by omega)⟩
        | 3,ho,hD,ha=>
         simp only[List.getElem?_cons_zero,List.getElem?_cons_succ,Option.some.injEq]at ho
         subst ho
         exact qaq (.tmp 0) rfl ⟨_,rfl,(fun hc=>absurd hc (by decide)),hpt,fun _ _ _=>hJ 3 (by omega) (by omega) (by omega)⟩
        | 4,ho,hD,ha=>
         simp only[List.getElem?_cons_zero,List.getElem?_cons_succ,Option.some.injEq]at ho
         subst ho
         have e3:=hI.fact 3 (ha ⟨3,.data⟩ (by simp) rfl)
         exact qbx (.tmp 118) rfl ⟨gt,0,none⟩ e3 ⟨_,rfl,(fun hc=>absurd hc (by decide)),rfl,fun _ _ _=>hJ 4 (by omega) (by omega) (by omega)⟩
        | 5,ho,hD,ha=>
         simp only[List.getElem?_cons_zero,List.getElem?_cons_succ,Option.some.injEq]at ho
         subst ho
         have e4:=hI.fact 4 (ha ⟨4,.data⟩ (by simp) rfl)
         exact qae (v:=.pointer (some ⟨gt,1,none⟩)) (w':=u) (by unfold execOp;simp only[Act.eval];rw[show b.tmps.getD 119 undef=_ from e4];simp[go_sem]) ⟨_,rfl,(fun hc=>absurd hc (by decide)),rfl,fun _ _ _=>hJ 5 (by omega) (by omega) (by omega)⟩
        | 6,ho,hD,ha=>
         simp only[List.getElem?_cons_zero,List.getElem?_cons_succ,Option.some.injEq]at ho
         subst ho
         have e5:=hI.fact 5 (ha ⟨5,.data⟩ (by simp) rfl)
         refine wp_load_mid 80 (.tmp 120) rfl gt 1 e5 A2.toList _ (quw ((hKu.block gt hgtl hgtf).trans HRT2.out) HRP2.out) forT rfl (by rw[Array.length_toList,HAS2.out];exact forI) ?_
         exact⟨_,rfl,(fun hc=>absurd hc (by decide)),rfl,fun _ _ _=>hJ 6 (by omega) (by omega) (by omega)⟩
        | 7,ho,hD,ha=>
         simp only[List.getElem?_cons_zero,List.getElem?_cons_succ,Option.some.injEq]at ho
         subst ho
         exact qaq (.tmp 0) rfl ⟨_,rfl,(fun hc=>absurd hc (by decide)),hpt,fun _ _ _=>hJ 7 (by omega) (by omega) (by omega)⟩
        | 8,ho,hD,ha=>
         simp only[List.getElem?_cons_zero,List.getElem?_cons_succ,Option.some.injEq]at ho
         subst ho
         have e7:=hI.fact 7 (ha ⟨7,.data⟩ (by simp) rfl)
         exact qbx (.tmp 122) rfl ⟨gt,0,none⟩ e7 ⟨_,rfl,(fun hc=>absurd hc (by decide)),rfl,fun _ _ _=>hJ 8 (by omega) (by omega) (by omega)⟩
        | 9,ho,hD,ha=>
         simp only[List.getElem?_cons_zero,List.getElem?_cons_succ,Option.some.injEq]at ho
         subst ho
         have e8:=hI.fact 8 (ha ⟨8,.data⟩ (by simp) rfl)
         exact qae (v:=.pointer (some ⟨gt,193,none⟩)) (w':=u) (by unfold execOp;simp only[Act.eval];rw[show b.tmps.getD 123 undef=_ from e8];simp[go_sem]) ⟨_,rfl,(fun hc=>absurd hc (by decide)),rfl,fun _ _ _=>hJ 9 (by omega) (by omega) (by omega)⟩
        | 10,ho,hD,ha=>
         simp only[List.getElem?_cons_zero,List.getElem?_cons_succ,Option.some.injEq]at ho
         subst ho
         have e9:=hI.fact 9 (ha ⟨9,.data⟩ (by simp) rfl)
         have hc:u.cell? ⟨gt,193,none⟩=some rv:=(hKu.cell hgtl hgtf).trans HCW.out.1
         exact qae (v:=rv) (w':=u) (by unfold execOp;simp only[Act.eval];rw[show b.tmps.getD 124 undef=_ from e9];simp[go_sem,hc]) ⟨_,rfl,(fun hc=>absurd hc (by decide)),rfl,fun _ _ _=>hJ 10 (by omega) (by omega) (by omega)⟩
        | 11,ho,hD,ha=>
         simp only[List.getElem?_cons_zero,List.getElem?_cons_succ,Option.some.injEq]at ho
         subst ho
         exact qaq (.tmp 0) rfl ⟨_,rfl,(fun hc=>absurd hc (by decide)),hpt,fun _ _ _=>hJ 11 (by omega) (by omega) (by omega)⟩
        | 12,ho,hD,ha=>
         simp only[List.getElem?_cons_zero,List.getElem?_cons_succ,Option.some.injEq]at ho
         subst ho
         have e11:=hI.fact 11 (ha ⟨11,.data⟩ (by simp) rfl)
         exact qbx (.tmp 126) rfl ⟨gt,0,none⟩ e11 ⟨_,rfl,(fun hc=>absurd hc (by decide)),rfl,fun _ _ _=>hJ 12 (by omega) (by omega) (by omega)⟩
        | 13,ho,hD,ha=>
         simp only[List.getElem?_cons_zero,List.getElem?_cons_succ,Option.some.injEq]at ho
         subst ho
         have e12:=hI.fact 12 (ha ⟨12,.data⟩ (by simp) rfl)
         exact qae (v:=.pointer (some ⟨gt,194,none⟩)) (w':=u) (by unfold execOp;simp only[Act.eval];rw[show b.tmps.getD 127 undef=_ from e12];simp[go_sem]) ⟨_,rfl,(fun hc=>absurd hc (by decide)),rfl,fun _ _ _=>hJ 13 (by omega) (by omega) (by omega)⟩
        | 14,ho,hD,ha=>
         simp only[List.getElem?_cons_zero,List.getElem?_cons_succ,Option.some.injEq]at ho
         subst ho
         have e13:=hI.fact 13 (ha ⟨13,.data⟩ (by simp) rfl)
         have hc:u.cell? ⟨gt,194,none⟩=some (.slice (some ⟨gn,0,none⟩) 32 cn):=(hKu.cell hgtl hgtf).trans HCW.out.2
         exact qae (v:=(.slice (some ⟨gn,0,none⟩) 32 cn)) (w':=u) (by unfold execOp;simp only[Act.eval];rw[show b.tmps.getD 128 undef=_ from e13];simp[go_sem,hc]) ⟨_,rfl,(fun hc=>absurd hc (by decide)),rfl,fun _ _ _=>hJ 14 (by omega) (by omega) (by omega)⟩
        | 15,ho,hD,ha=>
         simp only[List.getElem?_cons_zero,List.getElem?_cons_succ,Option.some.injEq]at ho
         subst ho
         have e0:=hI.fact 0 (ha ⟨0,.data⟩ (by simp) rfl)
         exact qbx (.tmp 115) rfl ⟨gf,0,none⟩ e0 ⟨_,rfl,(fun hc=>absurd hc (by decide)),rfl,fun _ _ _=>hJ 15 (by omega) (by omega) (by omega)⟩
        | 16,ho,hD,ha=>
         simp only[List.getElem?_cons_zero,List.getElem?_cons_succ,Option.some.injEq]at ho
         subst ho
         have e15:=hI.fact 15 (ha ⟨15,.data⟩ (by simp) rfl)
         exact qae (v:=.pointer (some ⟨gf,2,none⟩)) (w':=u) (by unfold execOp;simp only[Act.eval];rw[show b.tmps.getD 130 undef=_ from e15];simp[go_sem]) ⟨_,rfl,(fun hc=>absurd hc (by decide)),rfl,fun _ _ _=>hJ 16 (by omega) (by omega) (by omega)⟩
        | 17,ho,hD,ha=>
         simp only[List.getElem?_cons_zero,List.getElem?_cons_succ,Option.some.injEq]at ho
         subst ho
         have e16:=hI.fact 16 (ha ⟨16,.data⟩ (by simp) rfl)
         have e6:=hI.fact 6 (ha ⟨6,.data⟩ (by simp) rfl)
         skip
         refine qjf 80 (.tmp 131) (.tmp 121) rfl gf 2 A2 e16 e6 _ _ (fsR (.pointer (some a)) (.pointer (some ⟨gl,0,none⟩)) x.fo (if D 20=true then rv else rv') (if D 23=true then .slice (some ⟨gn,0,none⟩) 32 cn else nv') (.map (some bt)) (.map (some bh))) hRu (by rw[HAS2.out];exact forI) (by rw[HAS2.out,qgi];omega) HA21.out (by rw[HA2.out];exact ybhr _ _ _ _ _ _ _ _) ?_
         refine⟨_,rfl,fun _=>rfl,rfl,fun _ _ _=>⟨hKu.step (qab.setRow (F:=fun i=>i=gf) rfl _),?_⟩⟩
         rw[qnw,if_pos rfl,qen (by omega),qen (by omega)]
         exact setRow_heap _ _ _ _ _ _ hRu
        | 18,ho,hD,ha=>
         simp only[List.getElem?_cons_zero,List.getElem?_cons_succ,Option.some.injEq]at ho
         subst ho
         have e1:=hI.fact 1 (ha ⟨1,.data⟩ (by simp) rfl)
         exact qbx (.tmp 116) rfl ⟨gf,0,none⟩ e1 ⟨_,rfl,(fun hc=>absurd hc (by decide)),rfl,fun _ _ _=>hJ 18 (by omega) (by omega) (by omega)⟩
        | 19,ho,hD,ha=>
         simp only[List.getElem?_cons_zero,List.getElem?_cons_succ,Option.some.injEq]at ho
         subst ho
         have e18:=hI.fact 18 (ha ⟨18,.data⟩ (by simp) rfl)
         exact qae (v:=.pointer (some ⟨gf,194,none⟩)) (w':=u) (by unfold execOp;simp only[Act.eval];rw[show b.tmps.getD 132 undef=_ from e18];simp[go_sem]) ⟨_,rfl,(fun hc=>absurd hc (by decide)),rfl,fun _ _ _=>hJ 19 (by omega) (by omega) (by omega)⟩
        | 20,ho,hD,ha=>
         simp only[List.getElem?_cons_zero,List.getElem?_cons_succ,Option.some.injEq]at ho
         subst ho
         have e19:=hI.fact 19 (ha ⟨19,.data⟩ (by simp) rfl)
         have e10:=hI.fact 10 (ha ⟨10,.data⟩ (by simp) rfl)
         subst hrv
         refine qny 84 (.tmp 133) (.tmp 125) rfl gf 194 qrv nrv crv e19 e10 (by kernel_rfl) _ _ hRu (by rw[qgi];omega) ?_
         refine⟨_,rfl,fun _=>rfl,rfl,fun _ _ _=>⟨hKu.step (qab.setCell (F:=fun i=>i=gf) (p:=⟨gf,194,none⟩) rfl _),?_⟩⟩
         rw[qnw,if_pos rfl,qen (by omega),qen (by omega),<-ybsk _ _ _ (if D 20=true then _ else rv') _ _ _ _]
         exact heap_setCell_same _ _ 194 _ _ _ hRu
        | 21,ho,hD,ha=>
         simp only[List.getElem?_cons_zero,List.getElem?_cons_succ,Option.some.injEq]at ho
         subst ho
         have e2:=hI.fact 2 (ha ⟨2,.data⟩ (by simp) rfl)
         exact qbx (.tmp 117) rfl ⟨gf,0,none⟩ e2 ⟨_,rfl,(fun hc=>absurd hc (by decide)),rfl,fun _ _ _=>hJ 21 (by omega) (by omega) (by omega)⟩
        | 22,ho,hD,ha=>
         simp only[List.getElem?_cons_zero,List.getElem?_cons_succ,Option.some.injEq]at ho
         subst ho
         have e21:=hI.fact 21 (ha ⟨21,.data⟩ (by simp) rfl)
         exact qae (v:=.pointer (some ⟨gf,195,none⟩)) (w':=u) (by unfold execOp;simp only[Act.eval];rw[show b.tmps.getD 134 undef=_ from e21];simp[go_sem]) ⟨_,rfl,(fun hc=>absurd hc (by decide)),rfl,fun _ _ _=>hJ 22 (by omega) (by omega) (by omega)⟩
        | 23,ho,hD,ha=>
         simp only[List.getElem?_cons_zero,List.getElem?_cons_succ,Option.some.injEq]at ho
         subst ho
         have e22:=hI.fact 22 (ha ⟨22,.data⟩ (by simp) rfl)
         have e14:=hI.fact 14 (ha ⟨14,.data⟩ (by simp) rfl)
         refine qny 92 (.tmp 135) (.tmp 129) rfl gf 195 (some ⟨gn,0,none⟩) 32 cn e22 e14 (by kernel_rfl) _ _ hRu (by rw[qgi];omega) ?_
         refine⟨_,rfl,fun _=>rfl,rfl,fun _ _ _=>⟨hKu.step (qab.setCell (F:=fun i=>i=gf) (p:=⟨gf,195,none⟩) rfl _),?_⟩⟩
         rw[qnw,if_pos rfl,qen (by omega),qen (by omega),<-ybmb _ _ _ _ (if D 23=true then _ else nv') _ _ _]
         exact heap_setCell_same _ _ 195 _ _ _ hRu
       ·intro D b u hI hall
        obtain⟨hKu,hRu⟩:=hI.j
        rw[if_pos (hall 17 (by simp)),if_pos (hall 20 (by simp)),if_pos (hall 23 (by simp))]at hRu
        rename_i K hK
        refine hK _ _ (wp_seq (wp_region_lit (wpList_plain rfl fun K2 hK2=>qki (.const (.int .i64 0)) rfl (hK2 _ _ ?_))))
        have e3:(b.put (some 2) (.int .i64 0)).tmps[2]? = some (.int .i64 0):=by
         show (b.tmps.setIfInBounds 2 (.int .i64 0))[2]? = _
         rw[Array.getElem?_setIfInBounds,if_pos rfl,if_pos (by rw[hI.size];omega)]
        refine wp_ret ?_
        have hkB:qab (fun i=>i=bt\/i=gf) w3 u:=(HKB.out.mono fun i _ hi=>Or.inl hi).step (hKu.mono fun i _ hi=>Or.inr hi)
        have hkF:qab F1 w3 u:=hkB.mono fun i _ hi=>by
         rcases hi with hi | hi
         ·rw[hi];exact HFREST.out.2.2.2.2.2.1
         ·rw[hi];exact HFA.out.1
        have hgfl:gf<wr.heap.size:=qac HRF.out
        have hbf:bt ≠ gf:=fun hc=>qaj HROWF.out HFB.out hc.symm
        have hlf:gl ≠ gf:=qam HGL.out HROWF.out (by decide)
        have hbhf:bh ≠ gf:=fun hc=>qaj HROWF.out HFREST.out.2.2.2.2.2.2.2.2.1 hc.symm
        have hgnF:∀ i,T3 i->¬ F1 i:=fun i hi hc=>by
         have h1:=HXX.out.new i hi
         have h2:=HFA.out.2.2.1 i hc
         omega
        have hbu:∀ g,g<w3.heap.size->g ≠ bt->g ≠ gf->u.heap[g]? = w3.heap[g]? :=fun g h1 h2 h3=>hkB.block g h1 (fun hc=>hc.elim h2 h3)
        refine bodyPost_ret (v:=.int .i64 0) ?_ hI.dfs ⟨rfl,⟨⟨gl,rv,.slice (some ⟨gn,0,none⟩) 32 cn,bt,bh,E,qbv tl dn,(fun i=>FD i/\i ≠ gf),hRu,?_,fun i hi=>HFREST.out.2.1 i hi.1,fun hc=>HFREST.out.2.2.1 hc.1,?_,HFREST.out.2.2.2.1,?_,?_,?_,?_,?_,HFREST.out.2.2.2.2.2.1,HFREST.out.2.2.2.2.2.2.1,fun hc=>HFREST.out.2.2.2.2.2.2.2.1 hc.1,?_,HFREST.out.2.2.2.2.2.2.2.2.2.1,fun hc=>HFREST.out.2.2.2.2.2.2.2.2.2.2 hc.1⟩,HFA.out.1,HXX.out.len,fun i hi=>Nat.lt_of_lt_of_le (HFA.out.2.1 i hi) hkF.size,HFA.out.2.2.1,HFA.out.2.2.2.1,HFA.out.2.2.2.2,HXX.out.rows⟩,(qab.of_below HB3.out).step hkF⟩
        ·simp[results,Tryz.results96,go_sem]
         intro hc
         have:=hI.size
         omega
        ·exact (HFREST.out.1.without HROWF.out (by decide) (by decide) (by decide)).keep hkB fun i hi hc=>by
          rcases hc with hc | hc
          ·rw[hc]at hi;exact HFREST.out.2.2.2.2.2.2.2.1 hi.1
          ·exact hi.2 hc
        ·exact (hbu gl HGTL.out.2.2.2.2 (fun hc=>qaj HGL.out HFB.out hc) hlf).trans HGL.out
        ·exact (HLL.out.rows.grow fun i _ hi=>Or.inl (hFF i hi)).keep hkF
        ·have hE:E.length=32:=by rw[HLL.out.nds.1];exact HXX.out.len
         have h1:=ybfo (G:=F1) HLL.out.own (fun b hb=>by
          injection hb with hb
          rw[<-hb]
          exact hgnF _ HLL.out.tn)
         rw[hE]
         exact (h1.keep hkF).mono fun w' hw'=>qai.of_owns hw'
        ·exact (HLL.out.nds.grow fun i _ hi=>Or.inl (hFF i hi)).keep hkF
        ·exact HMB.out.of_block (hKu.block bt HMB.out.lt hbf)
        ·have e:qbv s.todo (qbl x s)=qbv s.todo (dn.map fun y=>(y.1,(getZ (qbl x s) y.1).getD [])):=by
          have h1:=ybiw (put:=qbl x s) ([]:List Int) HLL.out.secs.1 HLL.out.puts.2.1
          have h2:(dn.map fun y=>(y.1,(getZ (qbl x s) y.1).getD ([]:List Int))).Perm (qbl x s):=by
           have:=hp.map fun y=>(y.1,(getZ (qbl x s) y.1).getD ([]:List Int))
           rwa [h1]at this
          refine (ybco h2 ?_).symm
          rw[List.map_map]
          exact HRB.out.2.2.1
         rw[e]
         exact HSB.out.keep fun g cc _ hc=>hKu.block g (qac hc) (fun hc2=>by
          rw[hc2,HRF.out]at hc
          injection hc with hc
          injection hc with _ hc
          exact absurd hc (by decide))
        ·exact HFREST.out.2.2.2.2.2.2.2.2.1.of_block (hbu bh HFREST.out.2.2.2.2.2.2.2.2.1.lt (Ne.symm HFREST.out.2.2.2.2.2.2.1) hbhf)
end Go.Proofs.YtpoglnpjadmbpaaGreatDoor
