/- Part of the proofs of FsLinks: the texts Tx1, Tx2, Tx3. -/
import Derived.Test.YtpoglnpjadmbpaaGreatDoorKA33
set_option maxHeartbeats 16000000
set_option maxRecDepth 100000
namespace Go.Proofs.YtpoglnpjadmbpaaGreatDoor
open Go.RowKit
section
variable {w : World} {gt : Nat} {fp : Value} {fo : Fo} {rv nv dv pv gv : Value} {full : Bool} {fake : Int} {t : TypeId} {fr : Nat × Nat}
theorem qbt (h:w.heap[gt]? = some (.cells (txR fp fo rv nv dv pv gv full fake) t fr)):
  w.cell? ⟨gt,0,none⟩=some fp/\w.cell? ⟨gt,193,none⟩=some rv/\w.cell? ⟨gt,194,none⟩=some nv/\w.cell? ⟨gt,195,none⟩=some dv/\w.cell? ⟨gt,196,none⟩=some pv/\w.cell? ⟨gt,197,none⟩=some gv/\w.cell? ⟨gt,198,none⟩=some (.bool full)/\w.cell? ⟨gt,199,none⟩=some (.int .i64 fake):=
 have c:=fun i (hi:i<200)=>(cell_of_row _ _ i _ _ _ h).trans (qhd fp fo rv nv dv pv gv full fake i hi)
 ⟨c 0 (by omega),c 193 (by omega),c 194 (by omega),c 195 (by omega),c 196 (by omega),c 197 (by omega),c 198 (by omega),c 199 (by omega)⟩
end
def ybgq (G:Nat->Prop) (X:Pn) (w':World) (q:Option Addr) (n c:Nat):Prop:=Out G w' (fun w2=>qao w2 (.slice q n c) X.P)
theorem qkh {w:World} {B:Nat} {F T:Nat->Prop} {gt:Nat} {fp:Value} {x:Tx} (h:TxAt w B F gt fp x T) (i:Nat) (hi:i<32) (X:Pn) (hX:x.nodes[i]? = some X):
  Calls Tryz.prog 48 #[.pointer (some ⟨gt,0,none⟩),.int .i64 ((i:Int)+1)] w
   (fun e w'=>∃ q n c,e=.returned (.agg #[.int .i64 X.k,.int .i64 X.m,.int .i64 X.u,.int .i64 X.g,.int .i64 X.s,.int .i64 X.l,.int .i64 X.up,.slice q n c])/\ybgq (fun i=>F i\/T i) X w' q n c/\Below w.heap.size w w'):=by
 obtain⟨⟨rv,gn,cn,gd,gp,gv,E,pl,h1,h2,h3,h4,h5,h6,h7,h8,h9,h10,h11,h12,h13⟩,a1,a2,a3,a4,a5,a6,a7,a8,a9⟩:=h
 obtain⟨_,_,c194,_⟩:=qbt h1
 have hEL:E.length=32:=by rw[h4.1];exact a2
 have hrow:qai w (.slice (some ⟨gn,0,none⟩) 32 cn) 8 E.length (qax E):=by rw[hEL];exact qai.of_owns h3
 obtain⟨p2,cp2,hv2,HP⟩:=qel hrow
 rw[hEL]at hv2 HP
 injection hv2 with e1 _ e2
 subst e1 e2
 obtain⟨g,o,hg0,hg,hc⟩:=HP.out (by omega)
 injection hg0 with hg0
 injection hg0 with e1 e2
 subst e1 e2
 have hiE:i<E.length:=by omega
 have hiX:i<x.nodes.length:=by omega
 obtain⟨e0,e1,e2,e3,e4,e5,e6,e7⟩:=qcz hc i hiE
 have HND:=h4.2 i hiE hiX
 have hXX:x.nodes[i]=X:=by rw[List.getElem?_eq_getElem hiX]at hX;injection hX
 rw[hXX]at HND
 generalize E[i]=y at e0 e1 e2 e3 e4 e5 e6 e7 HND
 obtain⟨yk,ym,yu,yg,ys,yl,yup,yq,yn,yc⟩:=y
 obtain⟨f0,f1,f2,f3,f4,f5,f6,HIY⟩:=HND
 dsimp only at e0 e1 e2 e3 e4 e5 e6 e7 f0 f1 f2 f3 f4 f5 f6
 subst f0 f1 f2 f3 f4 f5 f6
 have HI:=Lib.hid HIY
 have hgtl:gt<w.heap.size:=qac h1
 have hgtn:¬ gt=w.heap.size:=by omega
 have hgn:¬ gn=w.heap.size:=by omega
 have i1:IntKind.i64.wrap ((i:Int)+1 - 1)=(i:Int):=by rw[IntWalk.i64_in _ (by omega)];omega
 simp only[Nat.zero_add]at e0 e1 e2 e3 e4 e5 e6 e7
 clear h1 h2 h3 h4 h5 h6 h7 h9 h10 h11 h12 h13 HP hc HIY hrow hX hXX hiX a1 a2 a3 a4 a5 a6 a7 a8 a9
 go_enter Tryz.func48,Tryz.ntmps48
 go_wp2
 obtain⟨z0,z1,z2,z3,z4,z5,z6,z7⟩:=qag (heap_alloc_new w (.cells #[.int .i64 X.k,.int .i64 X.m,.int .i64 X.u,.int .i64 X.g,.int .i64 X.s,.int .i64 X.l,.int .i64 X.up,.slice yq yn yc] 103))
 have HB:Hid (Below w.heap.size w (w.alloc (.cells #[.int .i64 X.k,.int .i64 X.m,.int .i64 X.u,.int .i64 X.g,.int .i64 X.s,.int .i64 X.l,.int .i64 X.up,.slice yq yn yc] 103))):=(Below.refl _ _).alloc (Nat.le_refl _) _
 exact bodyPost_ret (v:=.agg #[.int .i64 X.k,.int .i64 X.m,.int .i64 X.u,.int .i64 X.g,.int .i64 X.s,.int .i64 X.l,.int .i64 X.up,.slice yq yn yc]) (by simp[results,Tryz.results48,go_sem,z0,z1,z2,z3,z4,z5,z6,z7]) rfl ⟨_,_,_,rfl,HI.out.below HB.out,HB.out⟩
theorem ybnl (E:List Nd) (i:Nat) (hi:i<E.length) (e:Nd):((qax E).toArray.toList.take (i*8)++(nd8 e).toArray.toList++(qax E).toArray.toList.drop (i*8+(nd8 e).toArray.size)).toArray=(qax (E.set i e)).toArray:=by
 congr 1
 have h8:(nd8 e).toArray.size=8:=rfl
 rw[h8,List.toList_toArray,List.toList_toArray]
 induction E generalizing i with
 | nil=>simp at hi
 | cons y E ih=>
  have hc:qax (y :: E)=nd8 y++qax E:=rfl
  have hl:(nd8 y).length=8:=rfl
  cases i with
  | zero=>
   rw[hc,List.set_cons_zero]
   show (nd8 y++qax E).take 0++nd8 e++(nd8 y++qax E).drop 8=nd8 e++qax E
   rw[List.take_zero,List.nil_append,List.drop_append_of_le_length (by rw[hl];exact Nat.le_refl _),show (nd8 y).drop 8=[] from rfl,List.nil_append]
  | succ i=>
   have:=ih i (by simpa using hi)
   rw[hc,List.set_cons_succ,show qax (y :: E.set i e)=nd8 y++qax (E.set i e) from rfl,<-this]
   rw[show (i+1)*8=8+i*8 by omega,show 8+i*8+8=8+(i*8+8) by omega]
   rw[List.take_append,List.drop_append,hl]
   have e1:(nd8 y).take (8+i*8)=nd8 y:=List.take_of_length_le (by rw[hl];omega)
   have e2:(nd8 y).drop (8+(i*8+8))=[]:=List.drop_eq_nil_of_le (by rw[hl];omega)
   rw[e1,e2,List.nil_append,show 8+i*8 - 8=i*8 by omega,show 8+(i*8+8) - 8=i*8+8 by omega,List.append_assoc,List.append_assoc,List.append_assoc]
theorem ybdp {α:Type} (l d:List α) (a m:Nat) (h:a+d.length<=m) (hm:m<=l.length):(l.take a++d++l.drop (a+d.length)).take m=(l.take m).take a++d++(l.take m).drop (a+d.length):=by
 have e1:(l.take m).take a=l.take a:=by rw[List.take_take,Nat.min_eq_left (by omega)]
 rw[e1,List.append_assoc,List.take_append,List.take_append,List.length_take,Nat.min_eq_left (by omega)]
 rw[List.take_of_length_le (by rw[List.length_take];omega),List.take_of_length_le (l:=d) (by omega),List.append_assoc]
 congr 2
 rw[List.drop_take]
 congr 1
 omega
theorem qtc {w:World} {B:Nat} {F T:Nat->Prop} {gt:Nat} {fp:Value} {x:Tx} (h:TxAt w B F gt fp x T) (i:Nat) (hi:i<32) (X:Pn) (q:Option Addr) (n c:Nat) (hX:ybgq (fun i=>F i\/T i) X w q n c) (hd:x.dirty.length<900):
  Calls Tryz.prog 53 #[.pointer (some ⟨gt,0,none⟩),.int .i64 ((i:Int)+1),.agg #[.int .i64 X.k,.int .i64 X.m,.int .i64 X.u,.int .i64 X.g,.int .i64 X.s,.int .i64 X.l,.int .i64 X.up,.slice q n c]] w
   (fun e w'=>e=.returned (.tuple #[])/\qbg B F gt fp { x with nodes:=x.nodes.set i X,dirty:=putZ x.dirty ((i:Int)+1) (.bool true) } T w w'):=by
 have H:=Lib.hid h
 obtain⟨⟨rv,gn,cn,gd,gp,gv,E,pl,h1,h2,h3,h4,h5,h6,h7,h8,h9,h10,h11,h12,h13⟩,a1,a2,a3,a4,a5,a6,a7,a8,a9⟩:=h
 have HLI:Hid (qbp w B F T gt fp x rv gn cn gd gp gv E pl):=⟨h1,h2,h3,h4,h5,h6,h7,h8,h9,h10,h11,h12,h13⟩
 obtain⟨c0,c193,c194,c195,c196,c197,c198,c199⟩:=qbt h1
 have hEL:E.length=32:=by rw[h4.1];exact a2
 have hgtl:gt<w.heap.size:=qac h1
 have hgtn:¬ gt=w.heap.size:=by omega
 have i1:IntKind.i64.wrap ((i:Int)+1 - 1)=(i:Int):=by rw[IntWalk.i64_in _ (by omega)];omega
 obtain⟨_,⟨hv,_⟩ | ⟨gn',cp',cur,hv,hgB,hh,hcap,hmax,hsz,htk⟩⟩:=id h3
 ·cases hv
 injection hv with e1 _ e2
 injection e1 with e1
 injection e1 with e1
 subst e1 e2
 have HN:=Lib.hid hh
 have HCU:Hid (cur.size=cn*8/\32<=cn):=⟨hsz,hcap⟩
 have HNE:Hid (gt ≠ gn):=qam h1 hh (by decide)
 have HROW:=Lib.hid h1
 have HDY:=Lib.hid h5
 clear h1 h2 h3 h4 h5 h6 h7 h9 h10 h11 h12 h13 htk hsz hmax hcap a1 a2 a3 a4 a5 a6 a7 a8 a9
 go_enter Tryz.func53,Tryz.ntmps53
 go_wp2_with fail
 have hbx:=heap_alloc_new w (.cells #[.int .i64 X.k,.int .i64 X.m,.int .i64 X.u,.int .i64 X.g,.int .i64 X.s,.int .i64 X.l,.int .i64 X.up,.slice q n c] 103)
 have HBX:=Lib.hid hbx
 have HB1:Hid (Below w.heap.size w (w.alloc (.cells #[.int .i64 X.k,.int .i64 X.m,.int .i64 X.u,.int .i64 X.g,.int .i64 X.s,.int .i64 X.l,.int .i64 X.up,.slice q n c] 103))):=(Below.refl _ _).alloc (Nat.le_refl _) _
 have d194:=(HB1.out.cell (p:=⟨gt,194,none⟩) hgtl).trans c194
 clear hbx
 generalize w.alloc (.cells #[.int .i64 X.k,.int .i64 X.m,.int .i64 X.u,.int .i64 X.g,.int .i64 X.s,.int .i64 X.l,.int .i64 X.up,.slice q n c] 103)=w1 at *
 have k194:=cell_regrown d194
 refine qdu 8 (by kernel_rfl) (by kernel_rfl) ?_
 simp only[List.take_succ_cons,List.take_zero,List.drop_succ_cons,List.drop_zero]
 repeat (first
  | go_big_quiet_skip
  | (refine qji rfl 103 (.tmp 5) rfl w.heap.size rfl 103 #[.int .i64 X.k,.int .i64 X.m,.int .i64 X.u,.int .i64 X.g,.int .i64 X.s,.int .i64 X.l,.int .i64 X.up,.slice q n c] (0,0) _ (fun _ hw=>qkk hw HBX.out) Tryz.underlying103 rfl ybil ?_;simp only[Act.put,List.setIfInBounds_toArray,List.set_cons_zero,List.set_cons_succ])
  | (go_big_quiet_want;go_big_quiet_op;go_big_quiet_on))
 refine wpQuiet_nil ?_
 intro w2 hw2
 have hb2:=Below.step HB1.out (qcd hw2)
 obtain⟨e,He⟩:∃ e:Nd,Hid (e=⟨X.k,X.m,X.u,X.g,X.s,X.l,X.up,q,n,c⟩):=⟨_,rfl⟩
 obtain⟨cur2,HC2⟩:∃ cu:Array Value,Hid ((cur.toList.take (i*8)++(#[.int .i64 X.k,.int .i64 X.m,.int .i64 X.u,.int .i64 X.g,.int .i64 X.s,.int .i64 X.l,.int .i64 X.up,.slice q n c]:Array Value).toList++cur.toList.drop (i*8+8)).toArray=cu):=⟨_,rfl⟩
 have HN2:Hid (w2.heap[gn]? = some (.cells cur 103 (0,0))):=qaa hb2 HN.out
 have HSZ:Hid (cur.size=cn*8/\32<=cn):=HCU.out
 have hgg:gt ≠ gn:=HNE.out
 have H1r:=Lib.hid (qaa hb2 HROW.out)
 have d195:(w2.setRow gn cur2).cell? ⟨gt,195,none⟩=some (.map (some gd)):=(World.cell?_of_block (setRow_other w2 gn gt cur2 hgg)).trans (qbt H1r.out).2.2.2.1
 have HD2:Hid (MapL Tryz.prog 3 (w2.setRow gn cur2) gd x.dirty):=(HDY.out.of_block (hb2.block _ HDY.out.lt)).of_block (setRow_other w2 gn gd cur2 (fun hc=>by
  have h1:=HDY.out.of_block (hb2.block _ HDY.out.lt)
  obtain⟨⟨es,clock,h2,_⟩,_⟩:=h1
  rw[hc,HN2.out]at h2
  injection h2 with h2
  cases h2))
 clear k194 d194
 go_wp2_with (first
  | (refine qfl rfl 103 (.tmp 13) (.tmp 12) rfl gn (i*8) #[.int .i64 X.k,.int .i64 X.m,.int .i64 X.u,.int .i64 X.g,.int .i64 X.s,.int .i64 X.l,.int .i64 X.up,.slice q n c] rfl rfl 103 cur cur2 HN2.out ybil (by have:=HSZ.out;show i*8+8<=cur.size;omega) (qjv _ _ _ _ _ _ _ _ rfl) HC2.out ?_)
  | (at_mapUpdate;refine qhv _ rfl _ _ _ _ rfl 3 4 intT qpt gd x.dirty ((i:Int)+1) (.bool true) rfl HD2.out (by omega) rfl rfl (by unfold InZ;omega) ?_;intro w4 hm4 ht4))
 go_end0
 have HL:=H.out
 have hLL:qbp w B F T gt fp x rv gn cn gd gp gv E pl:=HLI.out
 have hk2:qab T w w2:=qab.of_below hb2
 have hk3:qab T w (w2.setRow gn cur2):=hk2.step (qab.setRow hLL.tn _)
 have hk4:qab T w w4:=hk3.step (qab.grown ht4.grown (fun r hr=>by injection hr with hr;rw[<-hr];exact hLL.td))
 have hbl:∀ b,b<w.heap.size->b ≠ gn->b ≠ gd->w4.heap[b]? = w.heap[b]? :=fun b hb h1 h2=>
  (ht4.grown.block b (by simp;exact Nat.lt_of_lt_of_le hb hb2.size) (by intro hc;injection hc with hc;exact h2 hc)).trans ((setRow_other w2 gn b cur2 h1).trans (hb2.block b hb))
 have hgd4:w4.heap[gn]? = some (.cells cur2 103 (0,0)):=by
  have h1:(w2.setRow gn cur2).heap[gn]? = some (.cells cur2 103 (0,0)):=setRow_heap _ _ _ _ _ _ HN2.out
  exact (ht4.grown.block gn (qac h1) (by intro hc;injection hc with hc;exact qaj h1 HD2.out hc)).trans h1
 obtain⟨cu,q1,q2,q3,q4,q5,q6⟩:=hLL.block
 have hcu:cu=cur:=by rw[HN.out]at q1;injection q1 with q1;injection q1 with q1;exact q1.symm
 subst hcu
 have hEL:E.length=32:=by rw[hLL.nds.1];exact HL.len
 have hl8:(nd8 ⟨X.k,X.m,X.u,X.g,X.s,X.l,X.up,q,n,c⟩).length=8:=rfl
 have htk:cur2.toList.take 256=qax (E.set i ⟨X.k,X.m,X.u,X.g,X.s,X.l,X.up,q,n,c⟩):=by
  rw[<-HC2.out]
  have h1:=ybdp cu.toList (nd8 ⟨X.k,X.m,X.u,X.g,X.s,X.l,X.up,q,n,c⟩) (i*8) 256 (by rw[hl8];omega) (by simp only[Array.length_toList];omega)
  rw[hl8]at h1
  show (cu.toList.take (i*8)++nd8 ⟨X.k,X.m,X.u,X.g,X.s,X.l,X.up,q,n,c⟩++cu.toList.drop (i*8+8)).take 256=_
  rw[h1,q5]
  have h2:=ybnl E i (by omega) ⟨X.k,X.m,X.u,X.g,X.s,X.l,X.up,q,n,c⟩
  have h3:=congrArg Array.toList h2
  rw[List.toList_toArray,List.toList_toArray]at h3
  exact h3
 have hcs:cur2.size=cn*8:=by
  rw[<-HC2.out]
  simp only[List.size_toArray,List.length_append,List.length_take,List.length_drop,Array.length_toList,List.length_cons,List.length_nil]
  omega
 refine⟨rfl,T,qbp.at (rv:=rv) (gn:=gn) (cn:=cn) (gd:=gd) (gp:=gp) (gv:=gv) (E:=E.set i ⟨X.k,X.m,X.u,X.g,X.s,X.l,X.up,q,n,c⟩) (pl:=pl) ⟨?_,ybak hLL.rows hk4 (fun _ hi=>Or.inl hi),?_,?_,hm4,?_,?_,hLL.ne,?_,hLL.tn,hLL.td,hLL.tp,hLL.tg⟩ HL.self (by simpa using HL.len) (fun i hi=>Nat.lt_of_lt_of_le (HL.fin i hi) hk4.size) HL.new HL.gone HL.put ?_ HL.rows HL.fake,fun _ hi=>Or.inl hi,hk4,fun _ hi=>hi⟩
 ·exact (hbl gt (qac hLL.row) hgg (qaj hLL.row hLL.dirt)).trans hLL.row
 ·refine⟨by rw[ybii,List.length_set,hEL],Or.inr ⟨gn,cn,cur2,rfl,q6,hgd4,q3,q4,hcs,htk⟩⟩
 ·refine qbo.set (ybjs hLL.nds hk4 (fun _ hi=>Or.inl hi)) ⟨rfl,rfl,rfl,rfl,rfl,rfl,rfl,?_⟩ i
  exact ybak hX hk4 (fun _ hi=>Or.inl hi)
 ·exact hLL.puts.of_block (hbl gp hLL.puts.lt (Ne.symm (qaj q1 hLL.puts)) (Ne.symm hLL.ne))
 ·exact hLL.secs.keep fun g cc _ hc=>hbl g (qac hc) (qam hc q1 (by decide)) (qaj hc hLL.dirt)
 ·refine qbi hLL.gone fun b hb=>hbl b (hLL.gone.lt b hb).2 ?_ ?_
  ·exact qef hLL.gone q1 (by decide) b hb
  ·obtain⟨_,⟨hv,_⟩ | ⟨g,c1,cu1,hv,_,hh1,_⟩⟩:=id hLL.gone
   ·rw[hv]at hb;cases hb
   ·rw[hv]at hb
    injection hb with hb
    rw[<-hb]
    exact qaj hh1 hLL.dirt
 ·exact Nat.le_trans (qdo _ _ _) (by omega)
theorem qbp.putHas {w w':World} {B:Nat} {F T:Nat->Prop} {gt:Nat} {fp:Value} {x:Tx} {rv:Value} {gn cn gd gp:Nat} {gv:Value} {E:List Nd} {pl:List (Int × Value)} (h:qbp w B F T gt fp x rv gn cn gd gp gv E pl) (hx:TxAt w B F gt fp x T) (fo:Fo)
  (hk:qab (fun i=>i=gt) w w') (hr:w'.heap[gt]? = some (.cells (txR fp fo rv (.slice (some ⟨gn,0,none⟩) 32 cn) (.map (some gd)) (.map (some gp)) gv x.full x.fake) 114 (0,0))):qbg B F gt fp { x with fo:=fo } T w w':=by
 have hkT:qab T w w':=hk.mono fun i _ hi=>by rw[hi];exact hx.self
 have hb:∀ b,b<w.heap.size->b ≠ gt->w'.heap[b]? = w.heap[b]? :=fun b h1 h2=>hk.block b h1 h2
 obtain⟨cu,q1,q2,q3,q4,q5,q6⟩:=h.block
 refine⟨T,qbp.at (x:={ x with fo:=fo }) (rv:=rv) (gn:=gn) (cn:=cn) (gd:=gd) (gp:=gp) (gv:=gv) (E:=E) (pl:=pl) ⟨hr,ybak h.rows hkT (fun _ hi=>Or.inl hi),?_,ybjs h.nds hkT (fun _ hi=>Or.inl hi),?_,?_,?_,h.ne,?_,h.tn,h.td,h.tp,h.tg⟩ hx.self hx.len (fun i hi=>Nat.lt_of_lt_of_le (hx.fin i hi) hk.size) hx.new hx.gone hx.put hx.dirty hx.rows hx.fake,fun _ hi=>Or.inl hi,hkT,fun _ hi=>hi⟩
 ·exact qbi h.own fun b hb2=>hb b (h.own.lt b hb2).2 (qef h.own h.row (by decide) b hb2)
 ·exact h.dirt.of_block (hb gd h.dirt.lt (Ne.symm (qaj h.row h.dirt)))
 ·exact h.puts.of_block (hb gp h.puts.lt (Ne.symm (qaj h.row h.puts)))
 ·exact h.secs.keep fun g cc _ hc=>hb g (qac hc) (qam hc h.row (by decide))
 ·exact qbi h.gone fun b hb2=>hb b (h.gone.lt b hb2).2 (qef h.gone h.row (by decide) b hb2)
def ybet (f:Fo) (k n:Nat):Prop:=37<=n/\n<k/\qfe f 4 n=false/\∀ m,37<=m->m<n->qfe f 4 m=true
def useF (f:Fo) (n:Nat):Fo:=hasF f (ins (f.hs 0) n)
theorem ybvb {w:World} {B:Nat} {F F1 T:Nat->Prop} {gt gf:Nat} {x:Tx} {s:Fs} {a:Addr} {B0:Nat} (h:TxAt w B F gt (.pointer (some ⟨gf,0,none⟩)) x T) (hf:FsAt w gf s F1 B0 a) (n:Nat) (hn:ybet x.fo s.k n):
  Calls Tryz.prog 138 #[.pointer (some ⟨gt,0,none⟩)] w
   (fun e w'=>e=.returned (.int .i64 (n:Int))/\qbg B F gt (.pointer (some ⟨gf,0,none⟩)) { x with fo:=useF x.fo n } T w w'):=by
 have H:=Lib.hid h
 obtain⟨rv,gn,cn,gd,gp,gv,E,pl,hl⟩:=h.lies
 have HL:=Lib.hid hl
 obtain⟨⟨gl,rv',nv',bt,bh,E',tl,FD,f1,f2,_⟩,_,_,_,_,k0,k1,_⟩:=hf
 have HK:Hid (64<=s.k/\s.k<=256):=⟨k0,k1⟩
 obtain⟨c0,_⟩:=qbt hl.row
 have d0:w.cell? ⟨gf,0,none⟩=some (.pointer (some a)):=(cell_of_row _ _ 0 _ _ _ f1).trans (qiu _ _ _ _ _ _ _ 0 (by omega))
 have HD:=Lib.hid f2
 have k0':=cell_regrown c0
 have k1':=cell_regrown d0
 obtain⟨A,HA⟩:∃ A,Hid (A=encF x.fo):=⟨_,rfl⟩
 have HAS:Hid (A.size=192):=by rw[HA.out];exact qak _
 obtain⟨S,HS⟩:∃ S,Hid (S=enc (qfe x.fo 4)):=⟨_,rfl⟩
 have HTK:Hid (∀ W:World,Calls Tryz.prog 171 #[.agg A] W fun e w'=>e=.returned (.agg S)/\Below W.heap.size W w'):=fun W=>by rw[HA.out,HS.out];exact ybpm x.fo W
 have HFI:Hid (∀ W:World,Calls Tryz.prog 172 #[.agg S,.int .i64 37,.int .i64 (s.k:Int)] W fun e w'=>e=.returned (.tuple #[.int .i64 n,.int .i64 0])/\Below W.heap.size W w'):=fun W=>by
  rw[HS.out]
  have:=HK.out
  exact ybhn (qfe x.fo 4) 37 s.k n W (by omega) (by omega) (by omega) (by omega) (by have:=hn.1;omega) (by have:=hn.2.1;omega) (by have:=hn.2.1;omega) hn.2.2.1 (fun m h1 h2=>hn.2.2.2 m (by omega) h2)
 obtain⟨R,HR⟩:∃ R,Hid (txR (.pointer (some ⟨gf,0,none⟩)) x.fo rv (.slice (some ⟨gn,0,none⟩) 32 cn) (.map (some gd)) (.map (some gp)) gv x.full x.fake=R):=⟨_,rfl⟩
 have HRS:Hid (R.size=200):=by show _=_;rw[<-HR.out];exact qgm _ _ _ _ _ _ _ _ _
 have HRP:Hid (∀ j,j<A.size->R[1+j]? = A[j]?):=by rw[<-HR.out,HA.out];exact qtb _ _ _ _ _ _ _ _ _
 obtain⟨S0,HS0⟩:∃ S,Hid (S=enc (x.fo.hs 0)):=⟨_,rfl⟩
 have HS0S:Hid (S0.size=32):=by rw[HS0.out];exact qau _
 have HSP:Hid (∀ j,j<S0.size->R[17+j]? = S0[j]?):=by rw[<-HR.out,HS0.out];exact ybpr _ _ _ _ _ _ _ _ _
 obtain⟨S1,HS1⟩:∃ S,Hid (S=enc (ins (x.fo.hs 0) n)):=⟨_,rfl⟩
 have HS1S:Hid (S1.size=32):=by rw[HS1.out];exact qau _
 have HS11:Hid (S1.all (·.oneCell')=true):=by rw[HS1.out];exact qit _
 have HWI:Hid (∀ W:World,Calls Tryz.prog 75 #[.agg S0,.int .i64 (n:Int)] W fun e w'=>e=.returned (.agg S1)/\Below W.heap.size W w'):=fun W=>by
  have:=ybdx (x.fo.hs 0) (n:Int) W (by omega) (by have:=hn.2.1;have:=HK.out;omega)
  rw[Int.toNat_natCast]at this
  rw[HS0.out,HS1.out]
  exact this
 obtain⟨R1,HR1⟩:∃ R1,Hid (txR (.pointer (some ⟨gf,0,none⟩)) (useF x.fo n) rv (.slice (some ⟨gn,0,none⟩) 32 cn) (.map (some gd)) (.map (some gp)) gv x.full x.fake=R1):=⟨_,rfl⟩
 have HPB:Hid ((R.toList.take 17++S1.toList++R.toList.drop (17+S1.size)).toArray=R1):=by rw[<-HR.out,HS1.out,<-HR1.out];exact qvg _ _ _ _ _ _ _ _ _ _
 have hrow:=hl.row
 rw[HR.out]at hrow
 have HROW:=Lib.hid hrow
 clear h hl f1 f2 k0 k1 hn c0 d0 hrow
 go_enter Tryz.func138,Tryz.ntmps138
 go_wp2_with fail
 refine wp_region_quiet_below (by kernel_rfl) (by kernel_rfl) ?_
 repeat (first
  | go_big_quiet_skip
  | (refine qio rfl 80 (.tmp 8) rfl gt 1 rfl 114 R A (0,0) _ (fun _ hw=>qkk hw HROW.out) HRP.out forT rfl (by rw[HAS.out];exact forI) ?_;simp only[Act.put,List.setIfInBounds_toArray,List.set_cons_zero,List.set_cons_succ])
  | (refine qeo 171 #[.tmp 9] #[80] rfl rfl (fun _ _=>by kernel_rfl) #[.agg A] (by kernel_rfl) (.agg S) (fun _ _=>qff) (fun w' _=>HTK.out w') ?_;simp only[Act.put,List.setIfInBounds_toArray,List.set_cons_zero,List.set_cons_succ])
  | (refine qeo 41 #[.tmp 17] #[25] rfl rfl (fun _ _=>by kernel_rfl) #[.pointer (some a)] (by kernel_rfl) (.int .i64 (s.k:Int)) (fun _ _=>qff) (fun w' hw=>(qfz (HD.out.below (qcd hw))).mono fun e w2 ⟨he,hw2⟩=>⟨he,hw2 ▸ Below.refl _ _⟩) ?_;simp only[Act.put,List.setIfInBounds_toArray,List.set_cons_zero,List.set_cons_succ])
  | (refine qeo 172 #[.tmp 10,.const (.int .i64 37),.tmp 18] #[76,3,3] rfl rfl (fun _ _=>by kernel_rfl) #[.agg S,.int .i64 37,.int .i64 (s.k:Int)] (by kernel_rfl) (.tuple #[.int .i64 n,.int .i64 0]) (fun _ _=>qff) (fun w' _=>HFI.out w') ?_;simp only[Act.put,List.setIfInBounds_toArray,List.set_cons_zero,List.set_cons_succ])
  | (go_big_quiet_want;go_big_quiet_op;go_big_quiet_on))
 refine wpQuiet_nil ?_
 intro w1 hw1
 have HB1:=Lib.hid (qcd hw1)
 have HROW1:=Lib.hid (qaa HB1.out HROW.out)
 clear k0' k1' hw1
 go_wp2_with fail
 refine qdu 13 (by kernel_rfl) (by kernel_rfl) ?_
 simp only[List.take_succ_cons,List.take_zero,List.drop_succ_cons,List.drop_zero]
 repeat (first
  | go_big_quiet_skip
  | (refine qio rfl 76 (.tmp 43) rfl gt 17 rfl 114 R S0 (0,0) _ (fun _ hw=>qkk hw HROW1.out) HSP.out setT rfl (by rw[HS0S.out];exact setI) ?_;simp only[Act.put,List.setIfInBounds_toArray,List.set_cons_zero,List.set_cons_succ])
  | (refine qeo 75 #[.tmp 44,.tmp 45] #[76,3] rfl rfl (fun _ _=>by kernel_rfl) #[.agg S0,.int .i64 n] (by kernel_rfl) (.agg S1) (fun _ _=>qff) (fun w' _=>HWI.out w') ?_;simp only[Act.put,List.setIfInBounds_toArray,List.set_cons_zero,List.set_cons_succ])
  | (go_big_quiet_want;go_big_quiet_op;go_big_quiet_on))
 refine wpQuiet_nil ?_
 intro w2 hw2
 have HB2:=Lib.hid (Below.step HB1.out (qcd hw2))
 have HROW2:=Lib.hid (qaa (qcd hw2) HROW1.out)
 clear hw2
 go_wp2_with (refine qfl rfl 76 (.tmp 50) (.tmp 46) rfl gt 17 S1 rfl rfl 114 R R1 HROW2.out (by rw[HS1S.out];exact setI) (by rw[HS1S.out,HRS.out];omega) HS11.out HPB.out ?_)
 go_ret
 refine⟨rfl,HL.out.putHas H.out (useF x.fo n) ((qab.of_below HB2.out).step (qab.setRow (F:=fun i=>i=gt) rfl _)) ?_⟩
 rw[HR1.out]
 exact setRow_heap _ _ _ _ _ _ HROW2.out
theorem ybdm {f:Fo} (h:∀ k,1<=k->k<4->qbd f k=false) (p:Nat):qdc f 4 p=false:=by
 rw[ybjl,h 1 (by omega) (by omega),h 2 (by omega) (by omega),h 3 (by omega) (by omega)];rfl
theorem ybzz {w:World} {B:Nat} {F F1 T:Nat->Prop} {gt gf:Nat} {x:Tx} {s:Fs} {a:Addr} {B0:Nat} (h:TxAt w B F gt (.pointer (some ⟨gf,0,none⟩)) x T) (hf:FsAt w gf s F1 B0 a) (n:Nat) (hn:ybet x.fo s.k n):
  Calls Tryz.prog 93 #[.pointer (some ⟨gt,0,none⟩),.int .i64 0] w
   (fun e w'=>e=.returned (.int .i64 (n:Int))/\qbg B F gt (.pointer (some ⟨gf,0,none⟩)) { x with fo:=useF x.fo n } T w w'):=by
 have HC:=Lib.hid (ybvb h hf n hn)
 clear h hf hn
 go_enter Tryz.func93,Tryz.ntmps93
 go_wp2_with fail
 refine HC.out.mono ?_
 rintro e w' ⟨rfl,h2⟩
 have H2:=Lib.hid h2
 clear h2
 go_wp2
 go_ret
 exact⟨rfl,H2.out⟩
theorem ybps {w:World} {B:Nat} {F T:Nat->Prop} {gt:Nat} {fp:Value} {x:Tx} (h:TxAt w B F gt fp x T) (p:Nat) (hp:0<p) (hp2:p<256) (hs:∀ k,1<=k->k<4->qbd x.fo k=false):
  Calls Tryz.prog 93 #[.pointer (some ⟨gt,0,none⟩),.int .i64 (p:Int)] w
   (fun e w'=>e=.returned (.int .i64 (p:Int))/\Below w.heap.size w w'):=by
 obtain⟨rv,gn,cn,gd,gp,gv,E,pl,hl⟩:=h.lies
 obtain⟨A,HA⟩:∃ A,Hid (A=encF x.fo):=⟨_,rfl⟩
 have HAS:Hid (A.size=192):=by rw[HA.out];exact qak _
 have HSH:Hid (∀ W:World,Calls Tryz.prog 139 #[.agg A,.int .i64 (p:Int)] W fun e w'=>e=.returned (.bool false)/\Below W.heap.size W w'):=fun W=>by
  have:=ybpa x.fo p hp2 W
  rw[ybdm hs p]at this
  rw[HA.out]
  exact this
 obtain⟨R,HR⟩:∃ R,Hid (txR fp x.fo rv (.slice (some ⟨gn,0,none⟩) 32 cn) (.map (some gd)) (.map (some gp)) gv x.full x.fake=R):=⟨_,rfl⟩
 have HRP:Hid (∀ j,j<A.size->R[1+j]? = A[j]?):=by rw[<-HR.out,HA.out];exact qtb _ _ _ _ _ _ _ _ _
 have hrow:=hl.row
 rw[HR.out]at hrow
 have HROW:=Lib.hid hrow
 have b0:(p == 0)=false:=by simp;omega
 have b1:((p:Int) == 0)=false:=by simp;omega
 have b2:¬ p=0:=by omega
 clear h hl hs hrow
 go_enter Tryz.func93,Tryz.ntmps93
 go_wp2_with (refine qar (by kernel_rfl) 80 (.tmp 11) rfl gt 1 rfl 114 R A (0,0) _ HROW.out HRP.out forT rfl (by rw[HAS.out];exact forI) ?_)
 refine (HSH.out w).mono ?_
 rintro e w' ⟨rfl,hb⟩
 have HB:=Lib.hid hb
 clear hb
 go_wp2
 go_ret
 exact⟨rfl,HB.out⟩
theorem qpu : Tryz.prog.underlying 93=some (.map 3 38):=by kernel_rfl
theorem u8sZ : ∀ w,(zeroValue 38).run Tryz.prog w=.ok (.slice none 0 0) w:=(zero_of_info (P:=Tryz.prog) (t:=38) (v:=.slice none 0 0) (n:=1) (by kernel_rfl)).1
def secE (s:Fs) (n:Nat):List Int:=(getZ s.todo (n:Int)).getD (sec s.dk.N n)
theorem qev {w:World} {gf:Nat} {d lg:Value} {fo:Fo} {rv nv tv hv:Value} {t:TypeId} {fr:Nat × Nat} (h:w.heap[gf]? = some (.cells (fsR d lg fo rv nv tv hv) t fr)):
  w.cell? ⟨gf,0,none⟩=some d/\w.cell? ⟨gf,1,none⟩=some lg/\w.cell? ⟨gf,194,none⟩=some rv/\w.cell? ⟨gf,195,none⟩=some nv/\w.cell? ⟨gf,196,none⟩=some tv/\w.cell? ⟨gf,197,none⟩=some hv:=
 have c:=fun i (hi:i<198)=>(cell_of_row _ _ i _ _ _ h).trans (qiu d lg fo rv nv tv hv i hi)
 ⟨c 0 (by omega),c 1 (by omega),c 194 (by omega),c 195 (by omega),c 196 (by omega),c 197 (by omega)⟩
theorem qrq {w:World} {gf:Nat} {s:Fs} {F:Nat->Prop} {B:Nat} {a:Addr} (h:FsAt w gf s F B a) (n:Nat) (hn:n<s.k):
  Calls Tryz.prog 137 #[.pointer (some ⟨gf,0,none⟩),.int .i64 (n:Int)] w (qqw (secE s n) w):=by
 obtain⟨⟨gl,rv,nv,bt,bh,E,tl,FD,h1,h2,h3,h4,h5,h6,h7,h8,h9,h10,h11,h12,h13,h14,h15,h16,h17⟩,a1,a2,a3,a4,a5,a6,a7⟩:=h
 obtain⟨c0,_,_,_,c196,_⟩:=qev h1
 have hlk:=h10.look_ok (k:=(n:Int)) intT qpu (u8sZ w) (by unfold InZ;omega)
 have HRD:=Lib.hid (qka h2 n hn)
 rcases h11.get (k:=(n:Int)) with⟨g1,g2⟩ | ⟨v,D,g1,g2,g3⟩
 ·unfold hasZ at hlk
  rw[g1]at hlk
  have HE:Hid (secE s n=sec s.dk.N n):=by show _=_;unfold secE;rw[g2];rfl
  rw[show ((none:Option Value).getD (.slice none 0 0))=.slice none 0 0 from rfl,show ((none:Option Value).isSome)=false from rfl]at hlk
  clear h1 h2 h3 h4 h5 h6 h7 h8 h9 h10 h11 h12 h13 h14 h15 h16 h17 a1 a2 a3 a4 a5 a6 a7 g1 g2
  go_enter Tryz.func137,Tryz.ntmps137
  go_wp2_with fail
  refine HRD.out.mono ?_
  rintro e w1 ⟨v1,rfl,hv1⟩
  have HV:=Lib.hid hv1
  clear hv1
  go_wp2
  go_ret2
  rw[HE.out]
  exact⟨v1,rfl,HV.out⟩
 ·unfold hasZ at hlk
  rw[g1]at hlk
  have HE:Hid (secE s n=D):=by show _=_;unfold secE;rw[g2];rfl
  rw[show ((some v).getD (.slice none 0 0))=v from rfl,show ((some v).isSome)=true from rfl]at hlk
  have hD64:D.length=64:=by obtain⟨_,_,_,_,hh,_⟩:=g3;exact hh
  have HCL:=Lib.hid (qgr v D w g3.at (by omega) (by omega))
  clear h1 h2 h3 h4 h5 h6 h7 h8 h9 h10 h11 h12 h13 h14 h15 h16 h17 a1 a2 a3 a4 a5 a6 a7 g1 g2 g3
  go_enter Tryz.func137,Tryz.ntmps137
  go_wp2_with fail
  refine HCL.out.mono ?_
  rintro e w1 ⟨v1,rfl,hv1⟩
  have HV:=Lib.hid hv1
  clear hv1
  go_wp2
  go_ret2
  rw[HE.out]
  exact⟨v1,rfl,HV.out⟩
def secT (x:Tx) (s:Fs) (n:Nat):List Int:=(getZ x.put (n:Int)).getD (secE s n)
theorem ybpt {w:World} {B:Nat} {F F1 T:Nat->Prop} {gt gf:Nat} {x:Tx} {s:Fs} {a:Addr} {B0:Nat} (h:TxAt w B F gt (.pointer (some ⟨gf,0,none⟩)) x T) (hf:FsAt w gf s F1 B0 a) (n:Nat) (hn:n<s.k):
  Calls Tryz.prog 92 #[.pointer (some ⟨gt,0,none⟩),.int .i64 (n:Int)] w (qfm (secT x s n) w):=by
 obtain⟨rv,gn,cn,gd,gp,gv,E,pl,hl⟩:=h.lies
 obtain⟨c0,_,_,_,c196,_⟩:=qbt hl.row
 have hlk:=hl.puts.look_ok (k:=(n:Int)) intT qpu (u8sZ w) (by unfold InZ;have:=hf.k1;omega)
 have HRD:=Lib.hid (qrq hf n hn)
 rcases hl.secs.get (k:=(n:Int)) with⟨g1,g2⟩ | ⟨v,D,g1,g2,g3⟩
 ·unfold hasZ at hlk
  rw[g1]at hlk
  have HE:Hid (secT x s n=secE s n):=by show _=_;unfold secT;rw[g2];rfl
  rw[show ((none:Option Value).getD (.slice none 0 0))=.slice none 0 0 from rfl,show ((none:Option Value).isSome)=false from rfl]at hlk
  clear h hf hl g1 g2
  go_enter Tryz.func92,Tryz.ntmps92
  go_wp2_with fail
  refine HRD.out.mono ?_
  rintro e w1 ⟨v1,rfl,hv1⟩
  have HV:=Lib.hid hv1
  clear hv1
  go_wp2
  go_ret
  rw[HE.out]
  exact⟨v1,rfl,HV.out⟩
 ·unfold hasZ at hlk
  rw[g1]at hlk
  have HE:Hid (secT x s n=D):=by show _=_;unfold secT;rw[g2];rfl
  rw[show ((some v).getD (.slice none 0 0))=v from rfl,show ((some v).isSome)=true from rfl]at hlk
  have hD64:D.length=64:=by obtain⟨_,_,_,_,hh,_⟩:=g3;exact hh
  have HCL:=Lib.hid (qgr v D w g3.at (by omega) (by omega))
  clear h hf hl g1 g2 g3 hD64
  go_enter Tryz.func92,Tryz.ntmps92
  go_wp2_with fail
  refine HCL.out.mono ?_
  rintro e w1 ⟨v1,rfl,hv1⟩
  have HV:=Lib.hid hv1
  clear hv1
  go_wp2
  go_ret
  rw[HE.out]
  exact⟨v1,rfl,HV.out⟩
def qdw (x:Tx) (s:Fs) (P:List Int) (k:Nat):List Int:=if P.getD k 0=0 then List.replicate 64 0 else secT x s (P.getD k 0).toNat
theorem qfm.bump {D:List Int} {w w1:World} {e:Ending} {w':World} (hb:Below w.heap.size w w1) (h:qfm D w1 e w'):qfm D w e w':=by
 obtain⟨v,he,g,cap,cur,h1,h2,h3,h4,h5⟩:=h
 exact⟨v,he,g,cap,cur,h1,⟨Nat.le_trans hb.size h2.1,h2.2⟩,h3,h4,Below.step hb h5⟩
theorem ybgh {w:World} {B:Nat} {F F1 T:Nat->Prop} {gt gf:Nat} {x:Tx} {s:Fs} {a:Addr} {B0:Nat} (h:TxAt w B F gt (.pointer (some ⟨gf,0,none⟩)) x T) (hf:FsAt w gf s F1 B0 a) (X:Pn) (q:Option Addr) (n c:Nat) (hX:qao w (.slice q n c) X.P) (k:Nat) (hk:k<8) (hP:∀ p ∈ X.P,0<=p/\p<(s.k:Int)) (hPl:X.P.length<=8):
  Calls Tryz.prog 51 #[.pointer (some ⟨gt,0,none⟩),.agg #[.int .i64 X.k,.int .i64 X.m,.int .i64 X.u,.int .i64 X.g,.int .i64 X.s,.int .i64 X.l,.int .i64 X.up,.slice q n c],.int .i64 (k:Int)] w (qfm (qdw x s X.P k) w):=by
 obtain⟨p,cp,hv,HPP⟩:=qib hX
 injection hv with e1 e2 e3
 subst e1 e3
 have HN:Hid (X.P.length=n):=e2.symm
 clear e2
 rw[HN.out]at HPP hPl
 have HBX:Hid (Below w.heap.size w (w.alloc (.cells #[.int .i64 X.k,.int .i64 X.m,.int .i64 X.u,.int .i64 X.g,.int .i64 X.s,.int .i64 X.l,.int .i64 X.up,.slice q n c] 103))):=(Below.refl _ _).alloc (Nat.le_refl _) _
 have H1:=Lib.hid (h.below HBX.out)
 have HF1:=Lib.hid (hf.below HBX.out)
 obtain⟨Z,HZ⟩:∃ Z,Hid (Z=List.replicate 64 (0:Int)):=⟨_,rfl⟩
 have hmk:∀ W:World,(Instr.makeSlice 38 (.int .i64 64) (.int .i64 64)).run Tryz.prog W=.ok (.slice (some ⟨W.heap.size,0,none⟩) 64 64) (W.alloc (.cells (u8s Z).toArray 5)):=fun W=>by
  rw[HZ.out];exact qht 64 64 rfl (by omega) W
 have HZR:Hid (qdw x s X.P k=Z->qfm (qdw x s X.P k) w (.returned (.slice (some ⟨(w.alloc (.cells #[.int .i64 X.k,.int .i64 X.m,.int .i64 X.u,.int .i64 X.g,.int .i64 X.s,.int .i64 X.l,.int .i64 X.up,.slice q n c] 103)).heap.size,0,none⟩) 64 64)) ((w.alloc (.cells #[.int .i64 X.k,.int .i64 X.m,.int .i64 X.u,.int .i64 X.g,.int .i64 X.s,.int .i64 X.l,.int .i64 X.up,.slice q n c] 103)).alloc (.cells (u8s Z).toArray 5))):=fun hz=>by
  have hZl:Z.length=64:=by rw[HZ.out];simp
  refine qfm.bump HBX.out ⟨_,rfl,_,64,_,by rw[hz,hZl],⟨Nat.le_refl _,by rw[hz,hZl];exact Nat.le_refl _⟩,heap_alloc_new _ _,?_,(Below.refl _ _).alloc (Nat.le_refl _) _⟩
  rw[hz,List.take_of_length_le (by rw[List.toList_toArray,qal];exact Nat.le_refl _)]
 by_cases hkn:n<=k
 ·have HE:Hid (qdw x s X.P k=Z):=by
   show _=_
   unfold qdw
   rw[List.getD_eq_getElem?_getD,List.getElem?_eq_none (by rw[HN.out];exact hkn),show (none:Option Int).getD 0=0 from rfl,if_pos rfl,HZ.out]
  have d1:decide ((n:Int)<=(k:Int))=true:=decide_eq_true (by omega)
  have d2:(n:Int)<=(k:Int):=by omega
  clear h hf hX HPP
  go_enter Tryz.func51,Tryz.ntmps51
  go_wp2
  go_ret
  simpa using HZR.out HE.out
 ·have hkP:k<X.P.length:=by rw[HN.out];omega
  obtain⟨gp,op,rfl,hcp⟩:=HPP.out (by omega)
  have cj:=hcp k _ (qdn X.P k hkP)
  have hgl:=block_lt_of_cell cj
  have hgn:¬ gp=w.heap.size:=by show ¬ gp=w.heap.size;have h2:gp<w.heap.size:=hgl;omega
  have hpr:=hP _ (List.getElem_mem hkP)
  have hgd:X.P.getD k 0=X.P[k]:=by rw[List.getD_eq_getElem?_getD,List.getElem?_eq_getElem hkP];rfl
  have d1:decide ((n:Int)<=(k:Int))=false:=decide_eq_false (by omega)
  have d2:¬ (n:Int)<=(k:Int):=by omega
  have d3:(k:Int)<(n:Int):=by omega
  obtain⟨y,Hy⟩:∃ y,Hid (X.P[k]'hkP=y):=⟨_,rfl⟩
  rw[Hy.out]at cj hpr hgd
  by_cases hy0:y=0
  ·subst hy0
   have HE:Hid (qdw x s X.P k=Z):=by show _=_;unfold qdw;rw[hgd,if_pos rfl,HZ.out]
   clear h hf hX HPP hcp
   go_enter Tryz.func51,Tryz.ntmps51
   go_wp2
   go_ret
   simpa using HZR.out HE.out
  ·have b0:(y == 0)=false:=by simpa using hy0
   obtain⟨p,Hp⟩:∃ p:Nat,Hid (y=(p:Int)):=⟨y.toNat,by show _=_;omega⟩
   have HE:Hid (qdw x s X.P k=secT x s p):=by show _=_;unfold qdw;rw[hgd,if_neg hy0,Hp.out];rfl
   have hpk:p<s.k:=by have:=Hp.out;omega
   have HSC:=Lib.hid (ybpt H1.out HF1.out p hpk)
   rw[<-Hp.out]at HSC
   clear h hf hX HPP hcp hy0
   go_enter Tryz.func51,Tryz.ntmps51
   go_wp2_with fail
   refine HSC.out.mono ?_
   intro e w1 hr
   obtain⟨v1,rfl,hv1⟩:=hr
   have HV:=Lib.hid hv1
   clear hv1
   go_wp2
   go_ret
   rw[HE.out]
   exact qfm.bump HBX.out ⟨v1,rfl,HV.out⟩
end Go.Proofs.YtpoglnpjadmbpaaGreatDoor
