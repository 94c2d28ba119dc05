/- Part of the proofs of FsLinks: the texts Fs7. -/
import Derived.Test.YtpoglnpjadmbpaaGreatDoorKA38
set_option maxHeartbeats 16000000
set_option maxRecDepth 100000
namespace Go.Proofs.YtpoglnpjadmbpaaGreatDoor
open Go.RowKit
theorem qas.drop {w:World} {B:Nat} {k:Int}:∀ {pl:List (Int × Value)} {l:List (Int × List Int)},qas w B pl l->qas w B (delZ pl k) (delZ l k)
 | [],[],_=>qas.nil _ _
 | [],y :: l,h=>by have:=h.len;simp at this
 | x :: pl,[],h=>by have:=h.len;simp at this
 | x :: pl,y :: l,h=>by
  obtain⟨h1,h2,h3⟩:=h.tail
  have ih:=qas.drop (k:=k) h3
  unfold delZ at ih ⊢
  rw[List.filter_cons,List.filter_cons,h1]
  split
  ·exact qas.cons h1 h2 ih
  ·exact ih
theorem ybri {α:Type} (l:List (Int × α)) (k:Int):(delZ l k).length<=l.length:=List.length_filter_le _ _
theorem qbp.nodeAt {w:World} {B:Nat} {F T:Nat->Prop} {gt:Nat} {fp:Value} {x:Tx} {rv:Value} {gn cn gd gp:Nat} {gv:Value} {E:List Nd} {pl:List (Int × Value)} (h:qbp w B F T gt fp x rv gn cn gd gp gv E pl) (hlen:x.nodes.length=32) (i:Nat) (hi:i<32) (X:Pn) (hX:x.nodes[i]? = some X):
  ∃ yq yn yc,w.cell? ⟨gn,i*8,none⟩=some (.int .i64 X.k)/\w.cell? ⟨gn,i*8+1,none⟩=some (.int .i64 X.m)/\w.cell? ⟨gn,i*8+2,none⟩=some (.int .i64 X.u)/\w.cell? ⟨gn,i*8+3,none⟩=some (.int .i64 X.g) /\
   w.cell? ⟨gn,i*8+4,none⟩=some (.int .i64 X.s)/\w.cell? ⟨gn,i*8+5,none⟩=some (.int .i64 X.l)/\w.cell? ⟨gn,i*8+6,none⟩=some (.int .i64 X.up)/\w.cell? ⟨gn,i*8+7,none⟩=some (.slice yq yn yc) /\
   Out (fun i=>F i\/T i) w (fun w'=>qao w' (.slice yq yn yc) X.P):=by
 have hEL:E.length=32:=by rw[h.nds.1];exact hlen
 have hrow:qai w (.slice (some ⟨gn,0,none⟩) 32 cn) 8 E.length (qax E):=by rw[hEL];exact qai.of_owns h.own
 obtain⟨p2,cp2,hv2,HP⟩:=qel hrow
 rw[hEL]at hv2 HP
 injection hv2 with e1 _ e2
 subst e1 e2
 obtain⟨g,o,hg0,hg,hc⟩:=HP.out (by omega)
 injection hg0 with hg0
 injection hg0 with e1 e2
 subst e1 e2
 have hiE:i<E.length:=by omega
 have hiX:i<x.nodes.length:=by omega
 obtain⟨e0,e1,e2,e3,e4,e5,e6,e7⟩:=qcz hc i hiE
 have HND:=h.nds.2 i hiE hiX
 have hXX:x.nodes[i]=X:=by rw[List.getElem?_eq_getElem hiX]at hX;injection hX
 rw[hXX]at HND
 obtain⟨f0,f1,f2,f3,f4,f5,f6,HIY⟩:=HND
 rw[f0]at e0;rw[f1]at e1;rw[f2]at e2;rw[f3]at e3;rw[f4]at e4;rw[f5]at e5;rw[f6]at e6
 simp only[Nat.zero_add]at e0 e1 e2 e3 e4 e5 e6 e7
 exact⟨_,_,_,e0,e1,e2,e3,e4,e5,e6,e7,HIY⟩
def gonS (s:Nat->Bool) (g:List Int):Nat->Bool:=g.foldl (fun s p=>del s p.toNat) s
def gonP (put:List (Int × List Int)) (g:List Int):List (Int × List Int):=g.foldl (fun t p=>delZ t p) put
theorem ybfa (g:List Int):∀ put:List (Int × List Int),(gonP put g).length<=put.length:=by
 unfold gonP
 induction g with
 | nil=>intro put;exact Nat.le_refl _
 | cons p g ih=>intro put;rw[List.foldl_cons];exact Nat.le_trans (ih _) (ybri _ _)
def qbf (X:Pn):List Int:=qgz X.k X.m X.u X.g X.s X.l X.up X.P
def qdt (X:Pn):Int:=qan X.k X.m X.u X.g X.s X.l X.up X.P
def qeu (x:Tx) (X0 X1:Pn):Tx:={ x with fo:=hasF x.fo (gonS (x.fo.hs 0) x.gone),put:=gonP (putZ x.put (x.fo.nd 0 0) (qbf X0++qbf X1)) x.gone }
def enF (gt:Nat) (p:Int) (i:Nat) (v:Value):Prop:=
 if i=1\/i=4 then v=.int .i64 0 else if i=6\/i=7\/i=8\/i=9\/i=13\/i=14\/i=15\/i=16 then v=.pointer (some ⟨gt,1,none⟩) else if i=10\/i=11 then v=.int .i64 p else v=.pointer (some ⟨gt,0,none⟩)
def atL (L:List (Option Value)) (i:Nat) (v:Value):Prop:=match L[i]? with | some (some x)=>v=x | _=>True
def ebL (gt gp:Nat) (p0:Nat) (ga gb:Nat):List (Option Value):=
 let t:Option Value:=some (.pointer (some ⟨gt,0,none⟩))
 let o:Option Value:=some (.pointer (some ⟨gt,1,none⟩))
 [t,t,some (.pointer (some ⟨gt,196,none⟩)),some (.map (some gp)),t,some (.int .i64 0),t,o,o,o,o,some (.int .i64 (p0:Int)),some (.slice (some ⟨ga,0,none⟩) 32 32),some (.slice (some ⟨gb,0,none⟩) 32 32),none]
def ebF (gt gp p0:Nat) (B:Nat) (ga gb:Nat) (D:List Int) (i:Nat) (v:Value) (u:World):Prop:=
 atL (ebL gt gp p0 ga gb) i v/\(i=14->qet u B v D)
theorem ybrm {gt gp p0:Nat} {B:Nat} {ga gb:Nat} {D:List Int} (i:Nat) (v:Value) (u u':World) (hb:Below u.heap.size u u') (h:ebF gt gp p0 B ga gb D i v u):ebF gt gp p0 B ga gb D i v u':=
 ⟨h.1,fun hi=>qgp (h.2 hi) fun g _ _ hc=>hb.block g (qac hc)⟩
def ecL (gt:Nat) (p:Nat) (S0 S1:Array Value):List (Option Value):=
 let t:Option Value:=some (.pointer (some ⟨gt,0,none⟩))
 let o:Option Value:=some (.pointer (some ⟨gt,1,none⟩))
 let s:Option Value:=some (.pointer (some ⟨gt,17,none⟩))
 [t,t,t,o,o,s,some (.agg S0),some (.int .i64 (p:Int)),some (.agg S1),t,o,o,s]
theorem ybrb (l:List Int) (j:Nat):(byts l)[j]? = (u8s l)[j]? :=by simp[byts,u8s]
theorem ybae {w:World} {g:Nat} {l:List Int} {t:TypeId} (h:w.heap[g]? = some (.cells (byts l) t (0,0))) (j:Nat) (y:Value) (hy:(u8s l)[j]? = some y):w.cell? ((⟨g,0,none⟩:Addr).add j)=some y:=by
 have hadd:(⟨g,0,none⟩:Addr).add j=⟨g,j,none⟩:=by unfold Addr.add;split <;> simp_all
 rw[hadd,cell_of_row _ _ _ _ _ _ h,ybrb,hy]
theorem ybod {w:World} {B B':Nat} {v:Value} {xs:List Value} {D:List Int} (h:w.ownsRow B 5 1 v (32+32) xs) (hD:D.length=64) (hx:u8s D=xs) (hB:B'<=B):qet w B' v D:=by
 obtain⟨_,⟨_,hn⟩ | ⟨g,cap,cur,rfl,hg,hh,hcap,_,_,ht⟩⟩:=h
 ·cases hn
 ·exact⟨g,cap,cur,rfl,hD,hcap,Nat.le_trans hB hg,hh,by rw[hx];exact ht⟩
theorem qlr {P:Program} {o:Oper} {a:Act} {w:World} {K:Act->World->Prop} {Q:Exit->Act->World->Prop} (s x:Operand) (t:TypeId) (ho:o.op=Op.call { callee:=Callee.builtin Builtin.append,args:=#[s,x],argTypes:=#[t,t] })
  (e:TypeId) (i:TypeInfo) (z:Value) (size bytes:Nat) (h1:P.underlying t=some (.slice e)) (h2:P.info? e=some i) (h3:i.zero=some z) (h4:i.size=size) (h5:i.bytes=bytes) (h6:z.cells.size=size) (h7:0<size)
  (b:Addr) (n cap:Nat) (olds:List Value) (hs:a.eval s=.slice (some b) n cap) (hlo:olds.length=n*size) (holds:∀ j u,olds[j]? = some u->w.cell? (b.add j)=some u)
  (ad:Addr) (m c:Nat) (news:List Value) (hx:a.eval x=.slice (some ad) m c) (hn:news.length=m*size) (hc:∀ j u,news[j]? = some u->w.cell? (ad.add j)=some u)
  (hfull:cap<n+m) (b1:n+m<=maxLen) (b2:(n+m)*bytes<=140737488355328)
  (hK:∀ v' w',w'.ownsRow w.heap.size e size v' (n+m) (olds++news)->w.grownBy w' none->K (a.put o.dst v') w'):o.wp P a w K Q:=by
 obtain⟨v',w',hrun,r1,r2⟩:=run_append_arg_grows (P:=P) w t o.type e i z size bytes h1 h2 h3 h4 h5 h6 h7 b n cap olds hlo holds ad m c news hn hc hfull b1 b2
 unfold Oper.wp
 simp[execOp,ho,resolve,invoke,builtin,hs,hx,hrun,Result.andThen]
 exact hK v' w' r1 r2
theorem qbp.withFo {w w':World} {B:Nat} {F T:Nat->Prop} {gt:Nat} {fp:Value} {x:Tx} {rv:Value} {gn cn gd gp:Nat} {gv:Value} {E:List Nd} {pl:List (Int × Value)} (h:qbp w B F T gt fp x rv gn cn gd gp gv E pl) (hT:T gt) (fo:Fo)
  (hk:qab (fun i=>i=gt) w w') (hr:w'.heap[gt]? = some (.cells (txR fp fo rv (.slice (some ⟨gn,0,none⟩) 32 cn) (.map (some gd)) (.map (some gp)) gv x.full x.fake) 114 (0,0))):qbp w' B F T gt fp { x with fo:=fo } rv gn cn gd gp gv E pl:=by
 have hkT:qab T w w':=hk.mono fun i _ hi=>by rw[hi];exact hT
 have hb:∀ b,b<w.heap.size->b ≠ gt->w'.heap[b]? = w.heap[b]? :=fun b h1 h2=>hk.block b h1 h2
 refine⟨hr,ybak h.rows hkT (fun _ hi=>Or.inl hi),?_,ybjs h.nds hkT (fun _ hi=>Or.inl hi),?_,?_,?_,h.ne,?_,h.tn,h.td,h.tp,h.tg⟩
 ·exact qbi h.own fun b hb2=>hb b (h.own.lt b hb2).2 (qef h.own h.row (by decide) b hb2)
 ·exact h.dirt.of_block (hb gd h.dirt.lt (Ne.symm (qaj h.row h.dirt)))
 ·exact h.puts.of_block (hb gp h.puts.lt (Ne.symm (qaj h.row h.puts)))
 ·exact h.secs.keep fun g cc _ hc=>hb g (qac hc) (qam hc h.row (by decide))
 ·exact qbi h.gone fun b hb2=>hb b (h.gone.lt b hb2).2 (qef h.gone h.row (by decide) b hb2)
theorem qbp.withPut {w w':World} {B:Nat} {F T:Nat->Prop} {gt:Nat} {fp:Value} {x:Tx} {rv:Value} {gn cn gd gp:Nat} {gv:Value} {E:List Nd} {pl pl':List (Int × Value)} {l':List (Int × List Int)} (h:qbp w B F T gt fp x rv gn cn gd gp gv E pl)
  (hk:qab (fun i=>i=gp) w w') (hm:MapL Tryz.prog 3 w' gp pl') (hs:qas w' B pl' l'):qbp w' B F T gt fp { x with put:=l' } rv gn cn gd gp gv E pl':=by
 have hkT:qab T w w':=hk.mono fun i _ hi=>by rw[hi];exact h.tp
 have hb:∀ b,b<w.heap.size->b ≠ gp->w'.heap[b]? = w.heap[b]? :=fun b h1 h2=>hk.block b h1 h2
 obtain⟨cu,q1,q2,q3,q4,q5,q6⟩:=h.block
 refine⟨(hb gt (qac h.row) (qaj h.row h.puts)).trans h.row,ybak h.rows hkT (fun _ hi=>Or.inl hi),?_,ybjs h.nds hkT (fun _ hi=>Or.inl hi),?_,hm,hs,h.ne,?_,h.tn,h.td,h.tp,h.tg⟩
 ·exact qbi h.own fun b hb2=>hb b (h.own.lt b hb2).2 (by injection hb2 with hb2;rw[<-hb2];exact qaj q1 h.puts)
 ·exact h.dirt.of_block (hb gd h.dirt.lt h.ne)
 ·refine qbi h.gone fun b hb2=>hb b (h.gone.lt b hb2).2 ?_
  obtain⟨_,⟨hv,_⟩ | ⟨g,c1,cu1,hv,_,hh1,_⟩⟩:=id h.gone
  ·rw[hv]at hb2;cases hb2
  ·rw[hv]at hb2
   injection hb2 with hb2
   rw[<-hb2]
   exact qaj hh1 h.puts
def qcr (x:Tx) (X0 X1:Pn) (j:Nat):Tx:={ x with fo:=hasF x.fo (gonS (x.fo.hs 0) (x.gone.take j)),put:=gonP (putZ x.put (x.fo.nd 0 0) (qbf X0++qbf X1)) (x.gone.take j) }
theorem ybmk (s:Nat->Bool) (g:List Int) (p:Int):gonS s (g++[p])=del (gonS s g) p.toNat:=by unfold gonS;rw[List.foldl_append];rfl
theorem ybmj (t:List (Int × List Int)) (g:List Int) (p:Int):gonP t (g++[p])=delZ (gonP t g) p:=by unfold gonP;rw[List.foldl_append];rfl
theorem qcy (f:Fo) (s t:Nat->Bool):hasF (hasF f s) t=hasF f t:=by
 unfold hasF
 congr 1
 funext k
 simp only
 split <;> rfl
theorem qms (f:Fo):hasF f (f.hs 0)=f:=by
 unfold hasF
 cases f with
 | mk nd hs=>
  congr 1
  funext k
  simp only
  split
  ·next h=>rw[h]
  ·rfl
theorem ybch (x:Tx) (X0 X1:Pn):qcr x X0 X1 0={ x with put:=putZ x.put (x.fo.nd 0 0) (qbf X0++qbf X1) }:=by
 unfold qcr gonS gonP
 rw[List.take_zero,List.foldl_nil,List.foldl_nil,qms]
theorem ybcg (x:Tx) (X0 X1:Pn) (j:Nat) (p:Int) (hj:x.gone[j]? = some p):qcr x X0 X1 (j+1)={ qcr x X0 X1 j with fo:=hasF (qcr x X0 X1 j).fo (del ((qcr x X0 X1 j).fo.hs 0) p.toNat),put:=delZ (qcr x X0 X1 j).put p }:=by
 have ht:x.gone.take (j+1)=x.gone.take j++[p]:=by rw[List.take_add_one,hj];rfl
 unfold qcr
 rw[ht,ybmk,ybmj]
 simp only[qcy]
 rfl
theorem ybht (x:Tx) (X0 X1:Pn):qcr x X0 X1 x.gone.length=qeu x X0 X1:=by unfold qcr qeu;rw[List.take_length]
theorem ybgi {w w0:World} {F F1 T:Nat->Prop} {gt gf:Nat} {x:Tx} {s:Fs} {a:Addr} {B0:Nat} (hf:FsAt w0 gf s F1 B0 a) (hb:Below w0.heap.size w0 w) (h:TxAt w w0.heap.size F gt (.pointer (some ⟨gf,0,none⟩)) x T) (hFF:∀ i,F1 i->F i)
  (hrows:s.rows=[]) (hfull:x.full=false) (hns:qbm x.fo) (p0:Nat) (hp0:x.fo.nd 0 0=(p0:Int)) (hp1:0<p0) (hp2:p0<256) (b1 b2:Bool) (hd1:(getZ x.dirty 1).getD (.bool false)=.bool b1) (hd2:(getZ x.dirty 2).getD (.bool false)=.bool b2) (hd12:(b1 || b2)=true)
  (hdn:∀ k:Nat,1<=k->k<16->getZ x.dirty (2*(k:Int)+1)=none/\getZ x.dirty (2*(k:Int)+2)=none) (X0 X1:Pn) (hX0:x.nodes[0]? = some X0) (hX1:x.nodes[1]? = some X1) (hr0:qdt X0=0) (hr1:qdt X1=0) (hl0:(qbf X0).length=32) (hl1:(qbf X1).length=32)
  (hg:∀ p ∈ x.gone,0<=p/\p<256) (hr:qbn (qeu x X0 X1).fo=0) (hq:qda x.rows=0) (hB0:B0<=w0.heap.size) (hk5:5<=s.k) (hlen:s.todo.length+x.put.length<=24):
  Calls Tryz.prog 54 #[.pointer (some ⟨gt,0,none⟩)] w
   (fun e w'=>e=.returned (.int .i64 0)/\FsAt w' gf { s with fo:=(qeu x X0 X1).fo,rows:=x.rows,nodes:=x.nodes,todo:=qbv s.todo (qbl (qeu x X0 X1) s) } F1 B0 a/\qab F1 w0 w'):=by
 have H:=Lib.hid h
 have HF:=Lib.hid hf
 have HBB:=Lib.hid hb
 have HFI:=Lib.hid (ybzw h (hf.below hb) hrows)
 have HP0:=Lib.hid hp0
 have HNS:=Lib.hid hns
 have HDN:=Lib.hid hdn
 have HD:Hid ((getZ x.dirty 1).getD (.bool false)=.bool b1/\(getZ x.dirty 2).getD (.bool false)=.bool b2):=⟨hd1,hd2⟩
 have HPKd:Hid ((qbf X0).length=32/\(qbf X1).length=32):=⟨hl0,hl1⟩
 have HKEEP:Hid (∀ (W:World) (T':Nat->Prop),Below w0.heap.size w0 W->TxAt W w0.heap.size F gt (.pointer (some ⟨gf,0,none⟩)) (qeu x X0 X1) T'->Calls Tryz.prog 96 #[.pointer (some ⟨gt,0,none⟩)] W
   (fun e w'=>e=.returned (.int .i64 0)/\FsAt w' gf { s with fo:=(qeu x X0 X1).fo,rows:=x.rows,nodes:=x.nodes,todo:=qbv s.todo (qbl (qeu x X0 X1) s) } F1 B0 a/\qab F1 w0 w')):=fun W T' hW hT=>ybzy HF.out hW hT hFF hr hq hB0 hk5 (by
  have h1:=ybfa x.gone (putZ x.put (x.fo.nd 0 0) (qbf X0++qbf X1))
  have h2:=qdo (x.fo.nd 0 0) (qbf X0++qbf X1) x.put
  show s.todo.length+(gonP (putZ x.put (x.fo.nd 0 0) (qbf X0++qbf X1)) x.gone).length<=25
  omega)
 have HXN:Hid (x.nodes[0]? = some X0/\x.nodes[1]? = some X1):=⟨hX0,hX1⟩
 have HGO:=Lib.hid hg
 have HPLN:Hid (x.put.length<=24):=Lib.hid (by omega)
 clear hf h hb hns hdn hd1 hd2 hX0 hX1 hr hq hg hl0 hl1
 go_enter Tryz.func54,Tryz.ntmps54
 go_wp2_with fail
 refine HFI.out.mono ?_
 rintro e w' ⟨rfl,rfl⟩
 go_wp2
 go_loopw [14] (fun iv wr=>∃ j:Nat,j<=16/\iv=.int .i64 j/\Hid (qbg w0.heap.size F gt (.pointer (some ⟨gf,0,none⟩)) x T w wr)) (fun iv _=>16 - (intOf iv).toNat)
 case atStart=>exact⟨0,by omega,rfl,qbg.same H.out (Below.refl _ _)⟩
 case round=>
  obtain⟨j,hj,rfl,HD1⟩:=hrel
  obtain⟨T1,t1,t2,t3,t4⟩:=HD1.out
  have HT1:=Lib.hid t1
  have HT23:Hid ((∀ i,T1 i->T i\/w.heap.size<=i)/\qab T w wr/\∀ i,T i->T1 i):=⟨t2,t3,t4⟩
  obtain⟨rv,gn,cn,gd,gp,gv,E,pl,hl⟩:=t1.lies
  obtain⟨c0,c193,c194,c195,c196,c197,c198,c199⟩:=qbt hl.row
  clear t1 t2 t3 t4
  by_cases hj16:j<16
  ·have hj16':(j:Int)<16:=by omega
   by_cases hj0:j=0
   ·subst hj0
    have hlk1:=hl.dirt.look (k:=1) intT qpt (qmb wr) (by unfold InZ;omega)
    have hlk2:=hl.dirt.look (k:=2) intT qpt (qmb wr) (by unfold InZ;omega)
    rw[HD.out.1]at hlk1
    rw[HD.out.2]at hlk2
    have HL:=Lib.hid hl
    have HOW:=Lib.hid (fun (W:World) (hW:Below wr.heap.size wr W)=>ybps (HT1.out.below hW) p0 hp1 hp2 HNS.out)
    obtain⟨R,HR⟩:∃ R,Hid (txR (.pointer (some ⟨gf,0,none⟩)) x.fo rv (.slice (some ⟨gn,0,none⟩) 32 cn) (.map (some gd)) (.map (some gp)) gv x.full x.fake=R):=⟨_,rfl⟩
    have hrow:=hl.row
    rw[HR.out]at hrow
    have hR1:R[1]? = some (.int .i64 (p0:Int)):=by
     rw[<-HR.out,qhd _ _ _ _ _ _ _ _ _ _ (by omega)]
     show some (Value.int .i64 (x.fo.nd 0 0))=_
     rw[HP0.out]
    have HROW:=Lib.hid hrow
    have HR1:=Lib.hid hR1
    have HRS:Hid (1<R.size):=by show _<_;rw[<-HR.out,qgm];omega
    have HSET:Hid (R.setIfInBounds 1 (.int .i64 (p0:Int))=R):=by
     apply Array.ext_getElem?
     intro q
     rw[Array.getElem?_setIfInBounds]
     by_cases hq:1=q
     ·subst hq
      rw[if_pos rfl,HR1.out,if_pos HRS.out]
     ·rw[if_neg hq]
    clear hrow hR1
    have hb12:b1=true\/(b1=false/\b2=true):=by cases b1 <;> cases b2 <;> simp_all
    rcases hb12 with rfl | ⟨rfl,rfl⟩
    all_goals
     go_upto_region 7 with fail
     refine qhe (by kernel_rfl) (by kernel_rfl) (fun u u'=>Below u.heap.size u u') ((Below.refl _ _).drew) (fun u u' h1 h2=>Below.step h1 h2) 155 [35,36,37,38,39,40,41,42,43,44,45,46,47,48,49,50,51] (fun i v _=>enF gt p0 i v) (fun _ _ _ _ _ h=>h) 17 (by kernel_rfl) (by kernel_rfl) ⟨rfl,rfl⟩ ?_ ?_
     ·intro Dn b u hI i o hi7 ho hD' ha
      have hpt:=hI.old 0 (.pointer (some ⟨gt,0,none⟩)) ⟨by decide,by decide,rfl⟩
      have hp3:=hI.old 3 (.int .i64 0) ⟨by decide,by decide,rfl⟩
      have hcR:u.cell? ⟨gt,1,none⟩=some (.int .i64 (p0:Int)):=(cell_of_row _ _ _ _ _ _ (qaa hI.b HROW.out)).trans HR1.out
      match i,hi7,ho,hD',ha with
      | 0,_,ho,_,ha=>
       simp only[List.getElem?_cons_zero,Option.some.injEq]at ho
       subst ho
       exact qaq (.tmp 0) rfl ⟨_,rfl,Below.refl _ _,hpt⟩
      | 1,_,ho,_,ha=>
       simp only[List.getElem?_cons_zero,List.getElem?_cons_succ,Option.some.injEq]at ho
       subst ho
       exact qaq (.tmp 3) rfl ⟨_,rfl,Below.refl _ _,hp3⟩
      | 2,_,ho,_,ha=>
       simp only[List.getElem?_cons_zero,List.getElem?_cons_succ,Option.some.injEq]at ho
       subst ho
       exact qaq (.tmp 0) rfl ⟨_,rfl,Below.refl _ _,hpt⟩
      | 3,_,ho,_,ha=>
       simp only[List.getElem?_cons_zero,List.getElem?_cons_succ,Option.some.injEq]at ho
       subst ho
       exact qaq (.tmp 0) rfl ⟨_,rfl,Below.refl _ _,hpt⟩
      | 4,_,ho,_,ha=>
       simp only[List.getElem?_cons_zero,List.getElem?_cons_succ,Option.some.injEq]at ho
       subst ho
       exact qaq (.tmp 3) rfl ⟨_,rfl,Below.refl _ _,hp3⟩
      | 5,_,ho,_,ha=>
       simp only[List.getElem?_cons_zero,List.getElem?_cons_succ,Option.some.injEq]at ho
       subst ho
       have e3:=hI.fact 3 (ha ⟨3,.data⟩ (by simp) rfl)
       exact qbx (.tmp 38) rfl ⟨gt,0,none⟩ e3 ⟨_,rfl,Below.refl _ _,rfl⟩
      | 6,_,ho,_,ha=>
       simp only[List.getElem?_cons_zero,List.getElem?_cons_succ,Option.some.injEq]at ho
       subst ho
       have e5:=hI.fact 5 (ha ⟨5,.data⟩ (by simp) rfl)
       exact qae (v:=.pointer (some ⟨gt,1,none⟩)) (w':=u) (by unfold execOp;simp only[Act.eval];rw[show b.tmps.getD 40 undef=_ from e5];simp[go_sem]) ⟨_,rfl,Below.refl _ _,rfl⟩
      | 7,_,ho,_,ha=>
       simp only[List.getElem?_cons_zero,List.getElem?_cons_succ,Option.some.injEq]at ho
       subst ho
       have e6:=hI.fact 6 (ha ⟨6,.data⟩ (by simp) rfl)
       exact qae (v:=.pointer (some ⟨gt,1,none⟩)) (w':=u) (by unfold execOp;simp only[Act.eval];rw[show b.tmps.getD 41 undef=_ from e6];simp[go_sem]) ⟨_,rfl,Below.refl _ _,rfl⟩
      | 8,_,ho,_,ha=>
       simp only[List.getElem?_cons_zero,List.getElem?_cons_succ,Option.some.injEq]at ho
       subst ho
       have e7:=hI.fact 7 (ha ⟨7,.data⟩ (by simp) rfl)
       exact qae (v:=.pointer (some ⟨gt,1,none⟩)) (w':=u) (by unfold execOp;simp only[Act.eval];rw[show b.tmps.getD 42 undef=_ from e7];simp[go_sem]) ⟨_,rfl,Below.refl _ _,rfl⟩
      | 9,_,ho,_,ha=>
       simp only[List.getElem?_cons_zero,List.getElem?_cons_succ,Option.some.injEq]at ho
       subst ho
       have e8:=hI.fact 8 (ha ⟨8,.data⟩ (by simp) rfl)
       have e4:=hI.fact 4 (ha ⟨4,.data⟩ (by simp) rfl)
       exact qae (v:=.pointer (some ⟨gt,1,none⟩)) (w':=u) (by unfold execOp;simp only[Act.eval];rw[show b.tmps.getD 43 undef=_ from e8,show b.tmps.getD 39 undef=_ from e4];simp[go_sem]) ⟨_,rfl,Below.refl _ _,rfl⟩
      | 10,_,ho,_,ha=>
       simp only[List.getElem?_cons_zero,List.getElem?_cons_succ,Option.some.injEq]at ho
       subst ho
       have e9:=hI.fact 9 (ha ⟨9,.data⟩ (by simp) rfl)
       have hc:u.cell? ⟨gt,1,none⟩=some (.int .i64 (p0:Int)):=hcR
       exact qae (v:=(.int .i64 (p0:Int))) (w':=u) (by unfold execOp;simp only[Act.eval];rw[show b.tmps.getD 44 undef=_ from e9];simp[go_sem,hc]) ⟨_,rfl,Below.refl _ _,rfl⟩
      | 11,_,ho,_,ha=>
       simp only[List.getElem?_cons_zero,List.getElem?_cons_succ,Option.some.injEq]at ho
       subst ho
       have e2:=hI.fact 2 (ha ⟨2,.data⟩ (by simp) rfl)
       have e10:=hI.fact 10 (ha ⟨10,.data⟩ (by simp) rfl)
       refine qoh 93 #[.tmp 37,.tmp 45] #[67,3] rfl (fun _ _=>by kernel_rfl) #[.pointer (some ⟨gt,0,none⟩),.int .i64 (p0:Int)] (by simp only[List.map_toArray,List.map_cons,List.map_nil,Act.eval];rw[show b.tmps.getD 37 undef=_ from e2,show b.tmps.getD 45 undef=_ from e10];rfl) (fun v' w'=>v'=.int .i64 (p0:Int)/\Below u.heap.size u w')
        ((HOW.out u hI.b).mono fun e w' ⟨he,hb⟩=>⟨_,he,rfl,hb⟩) ?_
       rintro v' w' ⟨rfl,hb'⟩
       exact⟨_,rfl,hb',rfl⟩
      | 12,_,ho,_,ha=>
       simp only[List.getElem?_cons_zero,List.getElem?_cons_succ,Option.some.injEq]at ho
       subst ho
       have e0:=hI.fact 0 (ha ⟨0,.data⟩ (by simp) rfl)
       exact qbx (.tmp 35) rfl ⟨gt,0,none⟩ e0 ⟨_,rfl,Below.refl _ _,rfl⟩
      | 13,_,ho,_,ha=>
       simp only[List.getElem?_cons_zero,List.getElem?_cons_succ,Option.some.injEq]at ho
       subst ho
       have e12:=hI.fact 12 (ha ⟨12,.data⟩ (by simp) rfl)
       exact qae (v:=.pointer (some ⟨gt,1,none⟩)) (w':=u) (by unfold execOp;simp only[Act.eval];rw[show b.tmps.getD 47 undef=_ from e12];simp[go_sem]) ⟨_,rfl,Below.refl _ _,rfl⟩
      | 14,_,ho,_,ha=>
       simp only[List.getElem?_cons_zero,List.getElem?_cons_succ,Option.some.injEq]at ho
       subst ho
       have e13:=hI.fact 13 (ha ⟨13,.data⟩ (by simp) rfl)
       exact qae (v:=.pointer (some ⟨gt,1,none⟩)) (w':=u) (by unfold execOp;simp only[Act.eval];rw[show b.tmps.getD 48 undef=_ from e13];simp[go_sem]) ⟨_,rfl,Below.refl _ _,rfl⟩
      | 15,_,ho,_,ha=>
       simp only[List.getElem?_cons_zero,List.getElem?_cons_succ,Option.some.injEq]at ho
       subst ho
       have e14:=hI.fact 14 (ha ⟨14,.data⟩ (by simp) rfl)
       exact qae (v:=.pointer (some ⟨gt,1,none⟩)) (w':=u) (by unfold execOp;simp only[Act.eval];rw[show b.tmps.getD 49 undef=_ from e14];simp[go_sem]) ⟨_,rfl,Below.refl _ _,rfl⟩
      | 16,_,ho,_,ha=>
       simp only[List.getElem?_cons_zero,List.getElem?_cons_succ,Option.some.injEq]at ho
       subst ho
       have e15:=hI.fact 15 (ha ⟨15,.data⟩ (by simp) rfl)
       have e1:=hI.fact 1 (ha ⟨1,.data⟩ (by simp) rfl)
       exact qae (v:=.pointer (some ⟨gt,1,none⟩)) (w':=u) (by unfold execOp;simp only[Act.eval];rw[show b.tmps.getD 50 undef=_ from e15,show b.tmps.getD 36 undef=_ from e1];simp[go_sem]) ⟨_,rfl,Below.refl _ _,rfl⟩
      | n+17,hi7,_,_,_=>omega
     ·intro Dn b u hI hall o ho f Hf hbe
      simp only[List.getElem?_cons_zero,List.getElem?_cons_succ,Option.some.injEq]at ho
      subst ho
      have e16:=hI.fact 16 (hall 16 (by omega))
      have e11:=hI.fact 11 (hall 11 (by omega))
      have hru:=qaa hI.b HROW.out
      refine ybau 3 (.tmp 51) (.tmp 46) rfl gt 1 (p0:Int) e16 e11 (by kernel_rfl) _ _ hru HRS.out ?_
      have hkp:qab (fun i=>i=gt) wr (u.setCell ⟨gt,1,none⟩ (.int .i64 (p0:Int))):=(qab.of_below hI.b).step (qab.setCell (F:=fun i=>i=gt) (p:=⟨gt,1,none⟩) rfl _)
      have hrn:(u.setCell ⟨gt,1,none⟩ (.int .i64 (p0:Int))).heap[gt]? = some (.cells R 114 (0,0)):=by
       rw[heap_setCell_same _ _ 1 _ _ _ hru,HSET.out]
      rw[<-HR.out]at hrn
      have hdid:qbg w0.heap.size F gt (.pointer (some ⟨gf,0,none⟩)) { x with fo:=x.fo } T1 wr (u.setCell ⟨gt,1,none⟩ (.int .i64 (p0:Int))):=HL.out.putHas HT1.out x.fo hkp hrn
      obtain⟨T2,d1,d2,d3,d4⟩:=hdid
      have HDN2:Hid (qbg w0.heap.size F gt (.pointer (some ⟨gf,0,none⟩)) x T w (u.setCell ⟨gt,1,none⟩ (.int .i64 (p0:Int)))):=by
       refine⟨T2,d1,fun r hr=>?_,HT23.out.2.1.trans d3 HT23.out.1,fun r hr=>d4 r (HT23.out.2.2 r hr)⟩
       rcases d2 r hr with h1 | h1
       ·exact HT23.out.1 r h1
       ·exact Or.inr (Nat.le_trans HT23.out.2.1.size h1)
      rename_i K hK
      refine hK _ _ ?_
      rw[hbe]
      simp only[Act.put,List.foldl_cons,List.foldl_nil,List.setIfInBounds_toArray,List.set_cons_zero,List.set_cons_succ]
      clear e16 e11 hru hkp hrn d1 d2 d3 d4 hbe Hf hall hI
      generalize u.setCell ⟨gt,1,none⟩ (.int .i64 (p0:Int))=u2 at *
      go_wp2
      go_roundw
      case rel=>exact⟨1,by omega,by go_num,HDN2⟩
      case measure=>simp[intOf]
   ·obtain⟨n1,n2⟩:=HDN.out j (by omega) hj16
    have hlk1:=hl.dirt.look (k:=2*(j:Int)+1) intT qpt (qmb wr) (by unfold InZ;omega)
    have hlk2:=hl.dirt.look (k:=2*(j:Int)+2) intT qpt (qmb wr) (by unfold InZ;omega)
    rw[n1,Option.getD_none]at hlk1
    rw[n2,Option.getD_none]at hlk2
    have i1:IntKind.i64.wrap (2*(j:Int))=2*(j:Int):=IntWalk.i64_in _ (by omega)
    have i2:IntKind.i64.wrap (2*(j:Int)+1)=2*(j:Int)+1:=IntWalk.i64_in _ (by omega)
    have i3:IntKind.i64.wrap (2*(j:Int)+2)=2*(j:Int)+2:=IntWalk.i64_in _ (by omega)
    go_wp2
    go_roundw
    case rel=>exact⟨j+1,by omega,by go_num,HD1⟩
    case measure=>simp[intOf];omega
  ·obtain rfl:j=16:=by omega
   rw[show ({ x with fo:=x.fo }:Tx).full=x.full from rfl]at c198
   rw[hfull]at c198
   clear c0 c193 c194 c195 c196 c197 c199
   go_wp2
   go_loopw [57] (fun iv wq=>∃ j:Nat,j<=16/\iv=.int .i64 j/\Hid (qbg w0.heap.size F gt (.pointer (some ⟨gf,0,none⟩)) { x with put:=if j=0 then x.put else putZ x.put (x.fo.nd 0 0) (qbf X0++qbf X1) } T w wq)) (fun iv _=>16 - (intOf iv).toNat)
   case atStart=>exact⟨0,by omega,rfl,HD1⟩
   case round=>
    obtain⟨j,hj,rfl,HD2⟩:=hrel
    obtain⟨T1,t1,t2,t3,t4⟩:=HD2.out
    have HT1:=Lib.hid t1
    have HT23:Hid ((∀ i,T1 i->T i\/w.heap.size<=i)/\qab T w wr/\∀ i,T i->T1 i):=⟨t2,t3,t4⟩
    obtain⟨rv,gn,cn,gd,gp,gv,E,pl,hl⟩:=t1.lies
    obtain⟨c0,c193,c194,c195,c196,c197,c198,c199⟩:=qbt hl.row
    clear t1 t2 t3 t4 c198
    by_cases hj16:j<16
    ·have hj16':(j:Int)<16:=by omega
     by_cases hj0:j=0
     ·subst hj0
      have hlk1:=hl.dirt.look (k:=1) intT qpt (qmb wr) (by unfold InZ;omega)
      have hlk2:=hl.dirt.look (k:=2) intT qpt (qmb wr) (by unfold InZ;omega)
      rw[HD.out.1]at hlk1
      rw[HD.out.2]at hlk2
      have HL:=Lib.hid hl
      obtain⟨yq,yn,yc,y0,y1,y2,y3,y4,y5,y6,y7,hy⟩:=hl.nodeAt HT1.out.len 0 (by omega) X0 HXN.out.1
      obtain⟨zq,zn,zc,z0,z1,z2,z3,z4,z5,z6,z7,hz⟩:=hl.nodeAt HT1.out.len 1 (by omega) X1 HXN.out.2
      simp only[Nat.zero_mul,Nat.one_mul,Nat.zero_add,Nat.reduceAdd]at y0 y1 y2 y3 y4 y5 y6 y7 z0 z1 z2 z3 z4 z5 z6 z7
      have HGNL:Hid (gn<wr.heap.size/\gt<wr.heap.size):=⟨(hl.own.lt gn rfl).2,qac hl.row⟩
      have HZ:Hid (wr.cell? ⟨gn,8,none⟩=some (.int .i64 X1.k)/\wr.cell? ⟨gn,9,none⟩=some (.int .i64 X1.m)/\wr.cell? ⟨gn,10,none⟩=some (.int .i64 X1.u)/\wr.cell? ⟨gn,11,none⟩=some (.int .i64 X1.g)/\wr.cell? ⟨gn,12,none⟩=some (.int .i64 X1.s)/\wr.cell? ⟨gn,13,none⟩=some (.int .i64 X1.l)/\wr.cell? ⟨gn,14,none⟩=some (.int .i64 X1.up)/\wr.cell? ⟨gn,15,none⟩=some (.slice zq zn zc)):=⟨z0,z1,z2,z3,z4,z5,z6,z7⟩
      have HC194:=Lib.hid c194
      have HPA:=Lib.hid (qkp X0.k X0.m X0.u X0.g X0.s X0.l X0.up (.slice yq yn yc) X0.P wr hy.now hr0)
      have HPB:Hid (∀ W:World,Below wr.heap.size wr W->Calls Tryz.prog 77 #[.agg #[.int .i64 X1.k,.int .i64 X1.m,.int .i64 X1.u,.int .i64 X1.g,.int .i64 X1.s,.int .i64 X1.l,.int .i64 X1.up,.slice zq zn zc]] W (qlx X1.k X1.m X1.u X1.g X1.s X1.l X1.up X1.P W)):=fun W hW=>qkp _ _ _ _ _ _ _ _ _ W (qai.below hz.now hW) hr1
      have hR1:wr.cell? ⟨gt,1,none⟩=some (.int .i64 (p0:Int)):=by
       rw[cell_of_row _ _ _ _ _ _ hl.row,qhd _ _ _ _ _ _ _ _ _ _ (by omega)]
       show some (Value.int .i64 (x.fo.nd 0 0))=_
       rw[HP0.out]
      have HR1:Hid (wr.cell? ⟨gt,1,none⟩=some (.int .i64 (p0:Int))/\wr.cell? ⟨gt,196,none⟩=some (.map (some gp))):=⟨hR1,c196⟩
      clear z0 z1 z2 z3 z4 z5 z6 z7 hl hy hz hR1 c0 c193 c197 c199
      have hb12:b1=true\/(b1=false/\b2=true):=by cases b1 <;> cases b2 <;> simp_all
      rcases hb12 with rfl | ⟨rfl,rfl⟩
      all_goals
       go_wp2_with fail
       refine HPA.out.mono ?_
       rintro e w5 ⟨ga,rfl,hga,hha,hb5⟩
       have HB5:=Lib.hid hb5
       have HHA:=Lib.hid hha
       have HGA:=Lib.hid hga
       have c194':=(HB5.out.cell (p:=⟨gt,194,none⟩) HGNL.out.2).trans HC194.out
       have z0:=(HB5.out.cell (p:=⟨gn,8,none⟩) HGNL.out.1).trans HZ.out.1
       have z1:=(HB5.out.cell (p:=⟨gn,9,none⟩) HGNL.out.1).trans HZ.out.2.1
       have z2:=(HB5.out.cell (p:=⟨gn,10,none⟩) HGNL.out.1).trans HZ.out.2.2.1
       have z3:=(HB5.out.cell (p:=⟨gn,11,none⟩) HGNL.out.1).trans HZ.out.2.2.2.1
       have z4:=(HB5.out.cell (p:=⟨gn,12,none⟩) HGNL.out.1).trans HZ.out.2.2.2.2.1
       have z5:=(HB5.out.cell (p:=⟨gn,13,none⟩) HGNL.out.1).trans HZ.out.2.2.2.2.2.1
       have z6:=(HB5.out.cell (p:=⟨gn,14,none⟩) HGNL.out.1).trans HZ.out.2.2.2.2.2.2.1
       have z7:=(HB5.out.cell (p:=⟨gn,15,none⟩) HGNL.out.1).trans HZ.out.2.2.2.2.2.2.2
       clear hga hha hb5
       go_wp2_with fail
       refine (HPB.out w5 HB5.out).mono ?_
       rintro e w6 ⟨gb,rfl,hgb,hhb,hb6⟩
       have HB6:=Lib.hid (Below.step HB5.out hb6)
       have HHB:=Lib.hid hhb
       have HHA6:=Lib.hid (qaa hb6 HHA.out)
       clear hgb hhb hb6 c194' z0 z1 z2 z3 z4 z5 z6 z7 y0 y1 y2 y3 y4 y5 y6 y7 hlk1 hlk2 c194 c195 c196
       obtain⟨i0,u1,u2,u3,u4⟩:=info_parts qtd
       have HU:Hid (Tryz.prog.info? 5=some i0/\i0.zero=some (.int .u8 0)/\i0.size=1/\i0.bytes=1/\(Value.int .u8 0).cells.size=1):=⟨u1,u2,u3,u4,rfl⟩
       have HN0:Hid (w0.heap.size<=w6.heap.size):=Nat.le_trans (HBB.out.trans (HT23.out.2.1.to_below H.out.new HBB.out.size)).size HB6.out.size
       clear u1 u2 u3 u4
       go_upto_region 19 with fail
       refine qhe (by kernel_rfl) (by kernel_rfl) (fun u u'=>Below u.heap.size u u') ((Below.refl _ _).drew) (fun u u' h1 h2=>Below.step h1 h2) 155 [109,110,111,112,113,114,115,116,117,118,119,120,121,122,123] (ebF gt gp p0 w0.heap.size ga gb (qbf X0++qbf X1)) ybrm 15 (by kernel_rfl) (by kernel_rfl) ⟨rfl,rfl⟩ ?_ ?_
       ·intro Dn b u hI i o hi7 ho hD' ha
        have hp0:=hI.old 0 (.pointer (some ⟨gt,0,none⟩)) ⟨by decide,by decide,rfl⟩
        have hp4:=hI.old 4 (.int .i64 0) ⟨by decide,by decide,rfl⟩
        have hp5:=hI.old 5 (.slice (some ⟨ga,0,none⟩) 32 32) ⟨by decide,by decide,rfl⟩
        have hp7:=hI.old 7 (.slice (some ⟨gb,0,none⟩) 32 32) ⟨by decide,by decide,rfl⟩
        have hB6u:=Below.step HB6.out hI.b
        have hcR:u.cell? ⟨gt,1,none⟩=some (.int .i64 (p0:Int)):=(hB6u.cell (p:=⟨gt,1,none⟩) HGNL.out.2).trans HR1.out.1
        have hcP:u.cell? ⟨gt,196,none⟩=some (.map (some gp)):=(hB6u.cell (p:=⟨gt,196,none⟩) HGNL.out.2).trans HR1.out.2
        match i,hi7,ho,hD',ha with
        | 0,_,ho,_,ha=>
         simp only[List.getElem?_cons_zero,Option.some.injEq]at ho
         subst ho
         exact qaq (.tmp 0) rfl ⟨_,rfl,Below.refl _ _,hp0,fun hc=>absurd hc (by decide)⟩
        | 1,_,ho,_,ha=>
         simp only[List.getElem?_cons_zero,List.getElem?_cons_succ,Option.some.injEq]at ho
         subst ho
         have e0:=(hI.fact 0 (ha ⟨0,.data⟩ (by simp) rfl)).1
         exact qbx (.tmp 109) rfl ⟨gt,0,none⟩ e0 ⟨_,rfl,Below.refl _ _,rfl,fun hc=>absurd hc (by decide)⟩
        | 2,_,ho,_,ha=>
         simp only[List.getElem?_cons_zero,List.getElem?_cons_succ,Option.some.injEq]at ho
         subst ho
         have e1:=(hI.fact 1 (ha ⟨1,.data⟩ (by simp) rfl)).1
         exact qae (v:=(.pointer (some ⟨gt,196,none⟩))) (w':=u) (by unfold execOp;simp only[Act.eval];rw[show b.tmps.getD 110 undef=_ from e1];simp[go_sem]) ⟨_,rfl,Below.refl _ _,rfl,fun hc=>absurd hc (by decide)⟩
        | 3,_,ho,_,ha=>
         simp only[List.getElem?_cons_zero,List.getElem?_cons_succ,Option.some.injEq]at ho
         subst ho
         have e2:=(hI.fact 2 (ha ⟨2,.data⟩ (by simp) rfl)).1
         exact qae (v:=(.map (some gp))) (w':=u) (by unfold execOp;simp only[Act.eval];rw[show b.tmps.getD 111 undef=_ from e2];simp[go_sem,hcP]) ⟨_,rfl,Below.refl _ _,rfl,fun hc=>absurd hc (by decide)⟩
        | 4,_,ho,_,ha=>
         simp only[List.getElem?_cons_zero,List.getElem?_cons_succ,Option.some.injEq]at ho
         subst ho
         exact qaq (.tmp 0) rfl ⟨_,rfl,Below.refl _ _,hp0,fun hc=>absurd hc (by decide)⟩
        | 5,_,ho,_,ha=>
         simp only[List.getElem?_cons_zero,List.getElem?_cons_succ,Option.some.injEq]at ho
         subst ho
         exact qaq (.tmp 4) rfl ⟨_,rfl,Below.refl _ _,hp4,fun hc=>absurd hc (by decide)⟩
        | 6,_,ho,_,ha=>
         simp only[List.getElem?_cons_zero,List.getElem?_cons_succ,Option.some.injEq]at ho
         subst ho
         have e4:=(hI.fact 4 (ha ⟨4,.data⟩ (by simp) rfl)).1
         exact qbx (.tmp 113) rfl ⟨gt,0,none⟩ e4 ⟨_,rfl,Below.refl _ _,rfl,fun hc=>absurd hc (by decide)⟩
        | 7,_,ho,_,ha=>
         simp only[List.getElem?_cons_zero,List.getElem?_cons_succ,Option.some.injEq]at ho
         subst ho
         have e6:=(hI.fact 6 (ha ⟨6,.data⟩ (by simp) rfl)).1
         exact qae (v:=(.pointer (some ⟨gt,1,none⟩))) (w':=u) (by unfold execOp;simp only[Act.eval];rw[show b.tmps.getD 115 undef=_ from e6];simp[go_sem]) ⟨_,rfl,Below.refl _ _,rfl,fun hc=>absurd hc (by decide)⟩
        | 8,_,ho,_,ha=>
         simp only[List.getElem?_cons_zero,List.getElem?_cons_succ,Option.some.injEq]at ho
         subst ho
         have e7:=(hI.fact 7 (ha ⟨7,.data⟩ (by simp) rfl)).1
         exact qae (v:=(.pointer (some ⟨gt,1,none⟩))) (w':=u) (by unfold execOp;simp only[Act.eval];rw[show b.tmps.getD 116 undef=_ from e7];simp[go_sem]) ⟨_,rfl,Below.refl _ _,rfl,fun hc=>absurd hc (by decide)⟩
        | 9,_,ho,_,ha=>
         simp only[List.getElem?_cons_zero,List.getElem?_cons_succ,Option.some.injEq]at ho
         subst ho
         have e8:=(hI.fact 8 (ha ⟨8,.data⟩ (by simp) rfl)).1
         exact qae (v:=(.pointer (some ⟨gt,1,none⟩))) (w':=u) (by unfold execOp;simp only[Act.eval];rw[show b.tmps.getD 117 undef=_ from e8];simp[go_sem]) ⟨_,rfl,Below.refl _ _,rfl,fun hc=>absurd hc (by decide)⟩
        | 10,_,ho,_,ha=>
         simp only[List.getElem?_cons_zero,List.getElem?_cons_succ,Option.some.injEq]at ho
         subst ho
         have e9:=(hI.fact 9 (ha ⟨9,.data⟩ (by simp) rfl)).1
         have e5:=(hI.fact 5 (ha ⟨5,.data⟩ (by simp) rfl)).1
         exact qae (v:=(.pointer (some ⟨gt,1,none⟩))) (w':=u) (by unfold execOp;simp only[Act.eval];rw[show b.tmps.getD 118 undef=_ from e9,show b.tmps.getD 114 undef=_ from e5];simp[go_sem]) ⟨_,rfl,Below.refl _ _,rfl,fun hc=>absurd hc (by decide)⟩
        | 11,_,ho,_,ha=>
         simp only[List.getElem?_cons_zero,List.getElem?_cons_succ,Option.some.injEq]at ho
         subst ho
         have e10:=(hI.fact 10 (ha ⟨10,.data⟩ (by simp) rfl)).1
         exact qae (v:=(.int .i64 (p0:Int))) (w':=u) (by unfold execOp;simp only[Act.eval];rw[show b.tmps.getD 119 undef=_ from e10];simp[go_sem,hcR]) ⟨_,rfl,Below.refl _ _,rfl,fun hc=>absurd hc (by decide)⟩
        | 12,_,ho,_,ha=>
         simp only[List.getElem?_cons_zero,List.getElem?_cons_succ,Option.some.injEq]at ho
         subst ho
         exact qaq (.tmp 5) rfl ⟨_,rfl,Below.refl _ _,hp5,fun hc=>absurd hc (by decide)⟩
        | 13,_,ho,_,ha=>
         simp only[List.getElem?_cons_zero,List.getElem?_cons_succ,Option.some.injEq]at ho
         subst ho
         exact qaq (.tmp 7) rfl ⟨_,rfl,Below.refl _ _,hp7,fun hc=>absurd hc (by decide)⟩
        | 14,_,ho,_,ha=>
         simp only[List.getElem?_cons_zero,List.getElem?_cons_succ,Option.some.injEq]at ho
         subst ho
         have e12:=(hI.fact 12 (ha ⟨12,.data⟩ (by simp) rfl)).1
         have e13:=(hI.fact 13 (ha ⟨13,.data⟩ (by simp) rfl)).1
         have hxa:=qaa hI.b HHA6.out
         have hxb:=qaa hI.b HHB.out
         refine qlr (.tmp 121) (.tmp 122) 38 rfl 5 i0 (.int .u8 0) 1 1 u8sT HU.out.1 HU.out.2.1 HU.out.2.2.1 HU.out.2.2.2.1 HU.out.2.2.2.2 (by decide) ⟨ga,0,none⟩ 32 32 (u8s (qbf X0)) (by simp only[Act.eval];exact e12) (by rw[qal,HPKd.out.1]) (ybae hxa) ⟨gb,0,none⟩ 32 32 (u8s (qbf X1)) (by simp only[Act.eval];exact e13) (by rw[qal,HPKd.out.2]) (ybae hxb) (by decide) (by unfold maxLen;decide) (by decide) ?_
         intro v' w' hown hgr
         refine⟨_,rfl,(Below.refl _ u).grown hgr (Nat.le_refl _) (fun k hk=>by cases hk),trivial,fun _=>?_⟩
         exact ybod hown (by rw[List.length_append,HPKd.out.1,HPKd.out.2]) (qbj _ _) (Nat.le_trans HN0.out hI.b.size)
        | n+15,hi7,_,_,_=>omega
       ·intro Dn b u hI hall o ho f Hf hbe
        simp only[List.getElem?_cons_zero,List.getElem?_cons_succ,Option.some.injEq]at ho
        subst ho
        have e3:b.tmps.getD 112 undef=.map (some gp):=(hI.fact 3 (hall 3 (by omega))).1
        have e11:b.tmps.getD 120 undef=.int .i64 (p0:Int):=(hI.fact 11 (hall 11 (by omega))).1
        have e14:qet u w0.heap.size (b.tmps.getD 123 undef) (qbf X0++qbf X1):=(hI.fact 14 (hall 14 (by omega))).2 rfl
        have hB6u:=Below.step HB6.out hI.b
        have hLu:=HL.out.below hB6u
        have hTu:=HT1.out.below hB6u
        generalize hu6:b.tmps.getD 123 undef=u6 at e14
        obtain⟨w7,hrun,hm7,ht7⟩:=hLu.puts.store intT qpu (by have h1:pl.length=x.put.length:=hLu.secs.len;have h2:=HPLN.out;omega) (k:=(p0:Int)) (by unfold InZ;omega) u6
        refine qvi (w':=w7) (by unfold execOp;simp only[Act.eval];rw[e3,e11,hu6];simp[hrun,Result.andThen]) ?_
        have hk7:qab (fun i=>i=gp) u w7:=qab.grown ht7.grown (fun r hr=>by injection hr with hr;exact hr.symm)
        have ht8:=hLu.putMap hTu (p0:Int) _ (qbf X0++qbf X1) e14 hk7 hm7 (by have h2:=HPLN.out;simp only[if_true];omega)
        have hkT:qab T1 wr w7:=(qab.of_below hB6u).step (hk7.mono fun i _ hi=>by rw[hi];exact hLu.tp)
        have HDN2:Hid (qbg w0.heap.size F gt (.pointer (some ⟨gf,0,none⟩)) { x with put:=putZ x.put (x.fo.nd 0 0) (qbf X0++qbf X1) } T w w7):=by
         refine⟨T1,?_,HT23.out.1,HT23.out.2.1.trans hkT HT23.out.1,HT23.out.2.2⟩
         rw[HP0.out]
         exact ht8
        rename_i K hK
        refine hK _ _ ?_
        rw[hbe]
        simp only[Act.put,List.foldl_cons,List.foldl_nil,List.setIfInBounds_toArray,List.set_cons_zero,List.set_cons_succ]
        clear e3 e11 e14 hu6 hLu hTu hrun hm7 ht7 hk7 ht8 hkT hbe Hf hall hI hB6u
        go_wp2
        refine⟨?_,?measure⟩
        repeat apply Exists.intro
        refine⟨?rel,rfl⟩
        case rel=>exact⟨1,by omega,by go_num,by rw[if_neg (by omega)];exact HDN2⟩
        case measure=>simp[intOf]
     ·obtain⟨n1,n2⟩:=HDN.out j (by omega) hj16
      have hlk1:=hl.dirt.look (k:=2*(j:Int)+1) intT qpt (qmb wr) (by unfold InZ;omega)
      have hlk2:=hl.dirt.look (k:=2*(j:Int)+2) intT qpt (qmb wr) (by unfold InZ;omega)
      rw[n1,Option.getD_none]at hlk1
      rw[n2,Option.getD_none]at hlk2
      have i1:IntKind.i64.wrap (2*(j:Int))=2*(j:Int):=IntWalk.i64_in _ (by omega)
      have i2:IntKind.i64.wrap (2*(j:Int)+1)=2*(j:Int)+1:=IntWalk.i64_in _ (by omega)
      have i3:IntKind.i64.wrap (2*(j:Int)+2)=2*(j:Int)+2:=IntWalk.i64_in _ (by omega)
      rw[if_neg hj0]at HD2
      go_wp2
      go_roundw
      case rel=>exact⟨j+1,by omega,by go_num,by rw[if_neg (by omega)];exact HD2⟩
      case measure=>simp[intOf];omega
    ·obtain rfl:j=16:=by omega
     have HL:Hid (qbp wr w0.heap.size F T1 gt (.pointer (some ⟨gf,0,none⟩)) (qcr x X0 X1 0) rv gn cn gd gp gv E pl):=by
      show qbp _ _ _ _ _ _ _ _ _ _ _ _ _ _ _
      rw[ybch]
      exact hl
     obtain⟨q,cg,rfl,HGV⟩:=qat hl.gone
     have HGV:=Lib.hid HGV
     clear hl c0 c193 c194 c195 c196 c199
     have hcgw:wr.cell? ⟨gt,197,none⟩=some (.slice q x.gone.length cg):=c197
     clear c197
     have HGL:Hid (x.gone.length<=1000):=H.out.gone
     obtain⟨m,Hm⟩:∃ m,Hid (x.gone.length=m):=⟨_,rfl⟩
     rw[Hm.out]at hcgw
     have hmb:m<=1000:=by have h1:=HGL.out;have h2:=Hm.out;omega
     go_wp2
     go_loopw [130] (fun iv wq=>∃ j pl',j<=m/\iv=.int .i64 (j:Int)/\Hid (qbp wq w0.heap.size F T1 gt (.pointer (some ⟨gf,0,none⟩)) (qcr x X0 X1 j) rv gn cn gd gp (.slice q x.gone.length cg) E pl')/\Hid (qab T1 wr wq)) (fun iv _=>m - (intOf iv).toNat)
     case atStart=>exact⟨0,pl,by omega,rfl,HL,qab.refl _ _⟩
     case round=>
      obtain⟨j,pl',hjm,rfl,HLJ,HKJ⟩:=hrel
      obtain⟨c0,c193,c194,c195,c196,c197,c198,c199⟩:=qbt HLJ.out.row
      clear c0 c193 c194 c195 c197 c198 c199
      have HC196:=Lib.hid c196
      clear c196
      by_cases hj1:j<m
      ·have hjg:j<x.gone.length:=by rw[Hm.out];exact hj1
       have HGJ:wr.ownsRow w0.heap.size 3 1 (.slice q x.gone.length cg) x.gone.length (ints x.gone):=HLJ.out.gone
       obtain⟨q2,c2,hv2,hh2⟩:=qat HGJ
       injection hv2 with e1 _ e2
       subst e1 e2
       obtain⟨gg,rfl,hgB,hgc⟩:=hh2 (by omega)
       have hpp:=HGO.out _ (List.getElem_mem hjg)
       obtain⟨p,Hp⟩:∃ p:Nat,Hid (x.gone[j]'hjg=(p:Int)):=⟨(x.gone[j]'hjg).toNat,by show _=_;omega⟩
       have hp256:p<256:=by have:=Hp.out;omega
       have cj:=hgc j _ (qdn x.gone j hjg)
       rw[Hp.out]at cj
       have HXG:Hid (x.gone[j]? = some (p:Int)):=by show _=_;rw[List.getElem?_eq_getElem hjg,Hp.out]
       have hjm2:(j:Int)<(m:Int):=by omega
       obtain⟨R,HR⟩:∃ R,Hid (txR (.pointer (some ⟨gf,0,none⟩)) (qcr x X0 X1 j).fo rv (.slice (some ⟨gn,0,none⟩) 32 cn) (.map (some gd)) (.map (some gp)) (.slice (some ⟨gg,0,none⟩) x.gone.length cg) (qcr x X0 X1 j).full (qcr x X0 X1 j).fake=R):=⟨_,rfl⟩
       have HRS:Hid (R.size=200):=by show _=_;rw[<-HR.out];exact qgm _ _ _ _ _ _ _ _ _
       obtain⟨S0,HS0⟩:∃ S,Hid (S=enc ((qcr x X0 X1 j).fo.hs 0)):=⟨_,rfl⟩
       have HS0S:Hid (S0.size=32):=by rw[HS0.out];exact qau _
       have HSP:Hid (∀ j,j<S0.size->R[17+j]? = S0[j]?):=by rw[<-HR.out,HS0.out];exact ybpr _ _ _ _ _ _ _ _ _
       obtain⟨S1,HS1⟩:∃ S,Hid (S=enc (del ((qcr x X0 X1 j).fo.hs 0) p)):=⟨_,rfl⟩
       have HS1S:Hid (S1.size=32):=by rw[HS1.out];exact qau _
       have HS11:Hid (S1.all (·.oneCell')=true):=by rw[HS1.out];exact qit _
       have HWO:Hid (∀ W:World,Calls Tryz.prog 95 #[.agg S0,.int .i64 (p:Int)] W fun e w'=>e=.returned (.agg S1)/\Below W.heap.size W w'):=fun W=>by
        have:=ybjw ((qcr x X0 X1 j).fo.hs 0) (p:Int) W (by omega) (by omega)
        rw[Int.toNat_natCast]at this
        rw[HS0.out,HS1.out]
        exact this
       obtain⟨R1,HR1'⟩:∃ R1,Hid (txR (.pointer (some ⟨gf,0,none⟩)) (hasF (qcr x X0 X1 j).fo (del ((qcr x X0 X1 j).fo.hs 0) p)) rv (.slice (some ⟨gn,0,none⟩) 32 cn) (.map (some gd)) (.map (some gp)) (.slice (some ⟨gg,0,none⟩) x.gone.length cg) (qcr x X0 X1 j).full (qcr x X0 X1 j).fake=R1):=⟨_,rfl⟩
       have HPB:Hid ((R.toList.take 17++S1.toList++R.toList.drop (17+S1.size)).toArray=R1):=by rw[<-HR.out,HS1.out,<-HR1'.out];exact qvg _ _ _ _ _ _ _ _ _ _
       have hrow:=HLJ.out.row
       rw[HR.out]at hrow
       have HROW:=Lib.hid hrow
       clear hrow HGJ hgc hh2 hpp hgB
       go_upto_region 24 with fail
       refine qhe (by kernel_rfl) (by kernel_rfl) (fun u u'=>Below u.heap.size u u') ((Below.refl _ _).drew) (fun u u' h1 h2=>Below.step h1 h2) 155 [134,135,136,137,138,139,140,141,142,143,144,145,146] (fun i v _=>atL (ecL gt p S0 S1) i v) (fun _ _ _ _ _ h=>h) 13 (by kernel_rfl) (by kernel_rfl) ⟨rfl,rfl⟩ ?_ ?_
       ·intro Dn b u hI i o hi7 ho hD' ha
        have hp0:=hI.old 0 (.pointer (some ⟨gt,0,none⟩)) ⟨by decide,by decide,rfl⟩
        have hp10:=hI.old 10 (.int .i64 (p:Int)) ⟨by decide,by decide,rfl⟩
        match i,hi7,ho,hD',ha with
        | 0,_,ho,_,ha=>
         simp only[List.getElem?_cons_zero,Option.some.injEq]at ho
         subst ho
         exact qaq (.tmp 0) rfl ⟨_,rfl,Below.refl _ _,hp0⟩
        | 1,_,ho,_,ha=>
         simp only[List.getElem?_cons_zero,List.getElem?_cons_succ,Option.some.injEq]at ho
         subst ho
         exact qaq (.tmp 0) rfl ⟨_,rfl,Below.refl _ _,hp0⟩
        | 2,_,ho,_,ha=>
         simp only[List.getElem?_cons_zero,List.getElem?_cons_succ,Option.some.injEq]at ho
         subst ho
         have e1:=hI.fact 1 (ha ⟨1,.data⟩ (by simp) rfl)
         exact qbx (.tmp 135) rfl ⟨gt,0,none⟩ e1 ⟨_,rfl,Below.refl _ _,rfl⟩
        | 3,_,ho,_,ha=>
         simp only[List.getElem?_cons_zero,List.getElem?_cons_succ,Option.some.injEq]at ho
         subst ho
         have e2:=hI.fact 2 (ha ⟨2,.data⟩ (by simp) rfl)
         exact qae (v:=(.pointer (some ⟨gt,1,none⟩))) (w':=u) (by unfold execOp;simp only[Act.eval];rw[show b.tmps.getD 136 undef=_ from e2];simp[go_sem]) ⟨_,rfl,Below.refl _ _,rfl⟩
        | 4,_,ho,_,ha=>
         simp only[List.getElem?_cons_zero,List.getElem?_cons_succ,Option.some.injEq]at ho
         subst ho
         have e3:=hI.fact 3 (ha ⟨3,.data⟩ (by simp) rfl)
         exact qae (v:=(.pointer (some ⟨gt,1,none⟩))) (w':=u) (by unfold execOp;simp only[Act.eval];rw[show b.tmps.getD 137 undef=_ from e3];simp[go_sem]) ⟨_,rfl,Below.refl _ _,rfl⟩
        | 5,_,ho,_,ha=>
         simp only[List.getElem?_cons_zero,List.getElem?_cons_succ,Option.some.injEq]at ho
         subst ho
         have e4:=hI.fact 4 (ha ⟨4,.data⟩ (by simp) rfl)
         exact qae (v:=(.pointer (some ⟨gt,17,none⟩))) (w':=u) (by unfold execOp;simp only[Act.eval];rw[show b.tmps.getD 138 undef=_ from e4];simp[go_sem]) ⟨_,rfl,Below.refl _ _,rfl⟩
        | 6,_,ho,_,ha=>
         simp only[List.getElem?_cons_zero,List.getElem?_cons_succ,Option.some.injEq]at ho
         subst ho
         have e5:=hI.fact 5 (ha ⟨5,.data⟩ (by simp) rfl)
         refine wp_load_mid 76 (.tmp 139) rfl gt 17 e5 S0.toList _ (quw (qaa hI.b HROW.out) HSP.out) setT rfl (by rw[Array.length_toList,HS0S.out];exact setI) ?_
         exact⟨_,rfl,Below.refl _ _,rfl⟩
        | 7,_,ho,_,ha=>
         simp only[List.getElem?_cons_zero,List.getElem?_cons_succ,Option.some.injEq]at ho
         subst ho
         exact qaq (.tmp 10) rfl ⟨_,rfl,Below.refl _ _,hp10⟩
        | 8,_,ho,_,ha=>
         simp only[List.getElem?_cons_zero,List.getElem?_cons_succ,Option.some.injEq]at ho
         subst ho
         have e6:=hI.fact 6 (ha ⟨6,.data⟩ (by simp) rfl)
         have e7:=hI.fact 7 (ha ⟨7,.data⟩ (by simp) rfl)
         refine qoh 95 #[.tmp 140,.tmp 141] #[76,3] rfl (fun _ _=>by kernel_rfl) #[.agg S0,.int .i64 (p:Int)] (by simp only[List.map_toArray,List.map_cons,List.map_nil,Act.eval];rw[show b.tmps.getD 140 undef=_ from e6,show b.tmps.getD 141 undef=_ from e7];rfl) (fun v' w'=>v'=.agg S1/\Below u.heap.size u w')
          ((HWO.out u).mono fun e w' ⟨he,hb⟩=>⟨_,he,rfl,hb⟩) ?_
         rintro v' w' ⟨rfl,hb'⟩
         exact⟨_,rfl,hb',rfl⟩
        | 9,_,ho,_,ha=>
         simp only[List.getElem?_cons_zero,List.getElem?_cons_succ,Option.some.injEq]at ho
         subst ho
         have e0:=hI.fact 0 (ha ⟨0,.data⟩ (by simp) rfl)
         exact qbx (.tmp 134) rfl ⟨gt,0,none⟩ e0 ⟨_,rfl,Below.refl _ _,rfl⟩
        | 10,_,ho,_,ha=>
         simp only[List.getElem?_cons_zero,List.getElem?_cons_succ,Option.some.injEq]at ho
         subst ho
         have e9:=hI.fact 9 (ha ⟨9,.data⟩ (by simp) rfl)
         exact qae (v:=(.pointer (some ⟨gt,1,none⟩))) (w':=u) (by unfold execOp;simp only[Act.eval];rw[show b.tmps.getD 143 undef=_ from e9];simp[go_sem]) ⟨_,rfl,Below.refl _ _,rfl⟩
        | 11,_,ho,_,ha=>
         simp only[List.getElem?_cons_zero,List.getElem?_cons_succ,Option.some.injEq]at ho
         subst ho
         have e10:=hI.fact 10 (ha ⟨10,.data⟩ (by simp) rfl)
         exact qae (v:=(.pointer (some ⟨gt,1,none⟩))) (w':=u) (by unfold execOp;simp only[Act.eval];rw[show b.tmps.getD 144 undef=_ from e10];simp[go_sem]) ⟨_,rfl,Below.refl _ _,rfl⟩
        | 12,_,ho,_,ha=>
         simp only[List.getElem?_cons_zero,List.getElem?_cons_succ,Option.some.injEq]at ho
         subst ho
         have e11:=hI.fact 11 (ha ⟨11,.data⟩ (by simp) rfl)
         exact qae (v:=(.pointer (some ⟨gt,17,none⟩))) (w':=u) (by unfold execOp;simp only[Act.eval];rw[show b.tmps.getD 145 undef=_ from e11];simp[go_sem]) ⟨_,rfl,Below.refl _ _,rfl⟩
        | n+13,hi7,_,_,_=>omega
       ·intro Dn b u hI hall o ho f Hf hbe
        simp only[List.getElem?_cons_zero,List.getElem?_cons_succ,Option.some.injEq]at ho
        subst ho
        have e8:=hI.fact 8 (hall 8 (by omega))
        have e12:=hI.fact 12 (hall 12 (by omega))
        have hru:=qaa hI.b HROW.out
        refine qjf 76 (.tmp 146) (.tmp 142) rfl gt 17 S1 e12 e8 114 R R1 hru (by rw[HS1S.out];exact setI) (by rw[HS1S.out,HRS.out];omega) HS11.out HPB.out ?_
        have hkp:qab (fun i=>i=gt) wr (u.setRow gt R1):=(qab.of_below hI.b).step (qab.setRow (F:=fun i=>i=gt) rfl _)
        have hrn:(u.setRow gt R1).heap[gt]? = some (.cells (txR (.pointer (some ⟨gf,0,none⟩)) (hasF (qcr x X0 X1 j).fo (del ((qcr x X0 X1 j).fo.hs 0) p)) rv (.slice (some ⟨gn,0,none⟩) 32 cn) (.map (some gd)) (.map (some gp)) (.slice (some ⟨gg,0,none⟩) x.gone.length cg) (qcr x X0 X1 j).full (qcr x X0 X1 j).fake) 114 (0,0)):=by
         rw[HR1'.out]
         exact setRow_heap _ _ _ _ _ _ hru
        have HL2:=Lib.hid (HLJ.out.withFo HT1.out.self _ hkp hrn)
        have HK2:Hid (qab (fun i=>i=gt) wr (u.setRow gt R1)):=hkp
        rename_i K hK
        refine hK _ _ ?_
        rw[hbe]
        simp only[Act.put,List.foldl_cons,List.foldl_nil,List.setIfInBounds_toArray,List.set_cons_zero,List.set_cons_succ]
        clear e8 e12 hru hkp hrn hbe Hf hall hI
        generalize u.setRow gt R1=u2 at *
        have c196:=(qbt HL2.out.row).2.2.2.2.1
        have HPM:=Lib.hid HL2.out.puts
        go_wp2_with (refine qtf _ rfl _ _ _ _ rfl 38 intT qpu gp pl' (p:Int) rfl HPM.out rfl (by unfold InZ;omega) ?_;intro w9 hm9 ht9)
        have hk9:qab (fun i=>i=gp) u2 w9:=qab.grown ht9.grown (fun r hr=>by injection hr with hr;exact hr.symm)
        have HL9:Hid (qbp w9 w0.heap.size F T1 gt (.pointer (some ⟨gf,0,none⟩)) (qcr x X0 X1 (j+1)) rv gn cn gd gp (.slice (some ⟨gg,0,none⟩) x.gone.length cg) E (delZ pl' (p:Int))):=by
         show qbp _ _ _ _ _ _ _ _ _ _ _ _ _ _ _
         rw[ybcg x X0 X1 j (p:Int) HXG.out,Int.toNat_natCast]
         exact HL2.out.withPut hk9 hm9 (qas.drop (HL2.out.secs.keep fun g cc _ hc=>hk9.block g (qac hc) (qaj hc HL2.out.puts)))
        have HK9:Hid (qab T1 _ w9):=HKJ.out.step ((HK2.out.mono fun i _ hi=>by rw[hi];exact HT1.out.self).step (hk9.mono fun i _ hi=>by rw[hi];exact HL2.out.tp))
        clear c196 hk9 hm9 ht9
        go_wp2
        go_roundw
        case rel=>exact⟨j+1,_,by omega,by go_num,HL9,HK9⟩
        case measure=>simp[intOf];omega
      ·obtain rfl:j=m:=by omega
       have hjm2:¬ ((j:Int)<(j:Int)):=by omega
       have hkw:=HKJ.out
       have hbw:=(HBB.out.trans (HT23.out.2.1.to_below H.out.new HBB.out.size)).trans (hkw.to_below HT1.out.new (HBB.out.trans (HT23.out.2.1.to_below H.out.new HBB.out.size)).size)
       have hLe:=HLJ.out
       rw[<-Hm.out,ybht]at hLe
       have htx:=qbp.at hLe HT1.out.self HT1.out.len (fun i hi=>Nat.lt_of_lt_of_le (HT1.out.fin i hi) hkw.size) HT1.out.new HT1.out.gone (by
        have h1:=ybfa x.gone (putZ x.put (x.fo.nd 0 0) (qbf X0++qbf X1))
        have h2:=qdo (x.fo.nd 0 0) (qbf X0++qbf X1) x.put
        have h3:=HPLN.out
        show (gonP (putZ x.put (x.fo.nd 0 0) (qbf X0++qbf X1)) x.gone).length<=1000
        omega) HT1.out.dirty HT1.out.rows HT1.out.fake
       have HKE:=Lib.hid (HKEEP.out wr T1 hbw htx)
       clear hkw hbw hLe htx
       go_wp2_with fail
       refine HKE.out.mono ?_
       rintro e w9 ⟨rfl,hk9⟩
       have HK9:=Lib.hid hk9
       clear hk9
       go_wp2
       go_ret
       exact⟨rfl,HK9.out⟩
end Go.Proofs.YtpoglnpjadmbpaaGreatDoor
