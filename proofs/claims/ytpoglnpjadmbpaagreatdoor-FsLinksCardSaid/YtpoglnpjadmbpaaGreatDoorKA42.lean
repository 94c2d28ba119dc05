/- Part of the proofs of FsLinks: the texts FsF, FsA. -/
import Derived.Test.YtpoglnpjadmbpaaGreatDoorKA31
import Derived.Test.YtpoglnpjadmbpaaGreatDoorKA40
import Derived.Test.YtpoglnpjadmbpaaGreatDoorKA41
set_option maxHeartbeats 16000000
set_option maxRecDepth 100000
namespace Go.Proofs.YtpoglnpjadmbpaaGreatDoor
open Go.RowKit
theorem ybcy {w w':World} {F F':Nat->Prop} {φ:World->Prop} (h:Out F w φ) (hk:qab F w w') (hF:∀ i,F' i->F i\/w.heap.size<=i):Out F' w' φ:=fun w2 k2=>h w2 (hk.trans k2 hF)
theorem ybyp {w w':World} {F F':Nat->Prop} {E:List Nd} {L:List Pn} (h:qbo F w E L) (hk:qab F w w') (hF:∀ i,F' i->F i\/w.heap.size<=i):qbo F' w' E L:=
 ⟨h.1,fun i h1 h2=>by
  obtain⟨e1,e2,e3,e4,e5,e6,e7,e8⟩:=h.2 i h1 h2
  exact⟨e1,e2,e3,e4,e5,e6,e7,ybcy e8 hk hF⟩⟩
theorem qeh.keep {w w':World} {b B:Nat} {v:Value} {E:List Jw} (h:qeh w b B v E) (hk:∀ i,i<w.heap.size->B<=i->w'.heap[i]? = w.heap[i]?) (hb:B<=b):qeh w' b B v E:=
 ⟨qbi h.1 fun q hq=>hk q (h.1.lt q hq).2 (Nat.le_trans hb (h.1.lt q hq).1),fun x hx=>(h.2 x hx).keep fun i _c h1 h2=>hk i (qac h2) h1⟩
def wrOf (l:List (Int × List Int)):List Wr:=l.map fun y=>(y.1.toNat,y.2)
def ybwm (s:Fs):Fs:={ s with dk:=runE s.dk (opsJ (s.sq+1) (wrOf s.todo)),sq:=s.sq+1,todo:=[] }
def syL (gf gl:Nat):List (Option Value):=
 let t:Option Value:=some (.pointer (some ⟨gf,0,none⟩))
 [t,t,some (.pointer (some ⟨gf,1,none⟩)),some (.pointer (some ⟨gl,0,none⟩)),t,none,some (.int .i64 0),some (.int .i64 0)]
theorem ybxv (d lg:Value) (fo:Fo) (rv nv tv hv u:Value):(fsR d lg fo rv nv tv hv).setIfInBounds 196 u=fsR d lg fo rv nv u hv:=by
 rw[qwb _ _ _ _ _ _ _ 196 (by omega) u (by omega)]
 unfold fsR
 congr 1
 funext j
 unfold qkw
 by_cases h:j.val=196
 ·simp[h]
 ·simp[h]
theorem ybxy {w:World} {gf:Nat} {s:Fs} {F:Nat->Prop} {B:Nat} {a:Addr} (h:FsAt w gf s F B a) (hB:B<=w.heap.size) (hk80:s.k=80) (hg:ybql (wrOf s.todo)) (h0:0<s.todo.length) (hkk:∀ y ∈ s.todo,0<=y.1/\y.1<256) (hsq:0<=s.sq/\s.sq<=1000) (hW:s.dk.W.length<800000):
  Calls Tryz.prog 25 #[.pointer (some ⟨gf,0,none⟩)] w
   (fun e w'=>e=.returned (.int .i64 0)/\FsAt w' gf (ybwm s) (fun i=>F i\/(w.heap.size<=i/\i<w'.heap.size)) w'.heap.size a/\qab F w w'):=by
 have HWR:=Lib.hid (fun (W:World) (hW:Below w.heap.size w W)=>ybmg (h.below hW) hkk (by have:=hg.l;unfold wrOf at this;rw[List.length_map]at this;omega))
 obtain⟨⟨gl,rv,nv,bt,bh,E,tl,FD,h1,h2,h3,h4,h5,h6,h7,h8,h9,h10,h11,h12,h13,h14,h15,h16,h17⟩,a1,a2,a3,a4,a5,a6,a7⟩:=h
 rw[hk80]at h2
 obtain⟨c0,c1,_,_,c196,_⟩:=qev h1
 have hDx:=h2.without h1 (by decide) (by decide) (by decide)
 have HD:=Lib.hid hDx
 have HROW:=Lib.hid h1
 have HLG:=Lib.hid h5
 have hgl:gl ≠ gf:=qam h5 h1 (by decide)
 have hbh:bh ≠ gf:=fun hc=>qaj h1 h15 hc.symm
 have hbhl:bh ≠ gl:=fun hc=>qaj h5 h15 hc.symm
 have HNE:Hid (gl ≠ gf/\bh ≠ gf/\bh ≠ gl):=⟨hgl,hbh,hbhl⟩
 have HF1:Hid ((∀ i,FD i->F i)/\¬ FD gl/\F gl/\F gf/\F bh/\¬ FD bh/\(∀ i,F i->i<w.heap.size)/\(∀ i,F i->i<B)):=⟨h3,h4,h6,a1,h16,h17,a3,a4⟩
 have HRV:=Lib.hid h7
 have HNV:=Lib.hid h8
 have HNS:=Lib.hid h9
 have HBH:=Lib.hid h15
 have HLT:Hid (gf<w.heap.size/\gl<w.heap.size/\bh<w.heap.size):=⟨qac h1,qac h5,h15.lt⟩
 have HMI:Hid (s.nodes.length=32/\64<=s.k/\s.k<=256/\s.rows.length<=20):=⟨a2,a5,a6,a7⟩
 have HG:=Lib.hid hg
 have HSQ:=Lib.hid hsq
 have HWL:=Lib.hid hW
 have HBB:=Lib.hid hB
 have H0:=Lib.hid h0
 obtain⟨st',Hst⟩:∃ st',Hid (runE s.dk (opsJ (s.sq+1) (wrOf s.todo))=st'):=⟨_,rfl⟩
 clear h1 h2 h3 h4 h5 h6 h7 h8 h9 h10 h11 h12 h13 h14 h15 h16 h17 a1 a2 a3 a4 a5 a6 a7 hDx hgl hbh hbhl hg h0 hkk hsq hW hB c0
 go_enter Tryz.func25,Tryz.ntmps25
 go_upto_region 1 with fail
 refine qth (by kernel_rfl) (by kernel_rfl) (fun D g u=>(D 6=true->D 3=true/\D 5=true/\∃ F1,qaw u (.pointer (some a)) st' 80 F1/\(∀ i,F1 i->(FD i/\i ≠ gf)\/w.heap.size<=i)/\qab (fun i=>(FD i/\i ≠ gf)\/i=gl) w u/\u.heap[gl]? = some (.cells (logC a (s.sq+1)) 165 (0,0))) /\
   (D 6=false->Below w.heap.size w u/\(D 5=true->∃ E,qeh u w.heap.size B (g 5) E/\E.map jab=wrOf s.todo)))
  18 (fun i=>if i<7 then 4+i else if i=7 then 3 else 1000+i) (atL (syL gf gl)) (fun k v=>k=0/\v=.pointer (some ⟨gf,0,none⟩)) (fun i j hij=>?_) (fun i k v hk=>?_) (by kernel_rfl) ⟨rfl,rfl,fun k v hk=>?_,fun hc=>by simp at hc,fun _=>⟨(Below.refl _ _).drew,fun hc=>by simp at hc⟩⟩ ?_ ?_
 ·split <;> split <;> (try split) <;> (try split) <;> omega
 ·obtain⟨rfl,_⟩:=hk
  split <;> (try split) <;> omega
 ·obtain⟨rfl,rfl⟩:=hk;rfl
 ·intro D b u hI i o ho hD ha
  have hp0:=hI.old 0 _ ⟨rfl,rfl⟩
  obtain⟨hJ1,hJ2⟩:=hI.j
  have hJ:∀ n,n ≠ 3->n ≠ 5->n ≠ 6->∀ (g:Nat->Value),(∀ k,k ≠ n->g k=b.tmps.getD (if k<7 then 4+k else if k=7 then 3 else 1000+k) undef)->(upd D n 6=true->upd D n 3=true/\upd D n 5=true/\∃ F1,qaw u (.pointer (some a)) st' 80 F1/\(∀ i,F1 i->(FD i/\i ≠ gf)\/w.heap.size<=i)/\qab (fun i=>(FD i/\i ≠ gf)\/i=gl) w u/\u.heap[gl]? = some (.cells (logC a (s.sq+1)) 165 (0,0))) /\
   (upd D n 6=false->Below w.heap.size w u/\(upd D n 5=true->∃ E,qeh u w.heap.size B (g 5) E/\E.map jab=wrOf s.todo)):=fun n h3 h5 h6 g hg=>by
   rw[qen (Ne.symm h6),qen (Ne.symm h3),qen (Ne.symm h5)]
   refine⟨hJ1,fun hc=>?_⟩
   obtain⟨q1,q2⟩:=hJ2 hc
   refine⟨q1,fun hc5=>?_⟩
   rw[hg 5 (Ne.symm h5)]
   exact q2 hc5
  match i,ho,hD,ha with
  | 0,ho,hD,ha=>
   simp only[List.getElem?_cons_zero,Option.some.injEq]at ho
   subst ho
   exact qaq (.tmp 0) rfl ⟨_,rfl,(fun hc=>absurd hc (by decide)),hp0,fun g _ hg=>hJ 0 (by omega) (by omega) (by omega) g hg⟩
  | 1,ho,hD,ha=>
   simp only[List.getElem?_cons_zero,List.getElem?_cons_succ,Option.some.injEq]at ho
   subst ho
   have e0:=hI.fact 0 (ha ⟨0,.data⟩ (by simp) rfl)
   exact qbx (.tmp 4) rfl ⟨gf,0,none⟩ e0 ⟨_,rfl,(fun hc=>absurd hc (by decide)),rfl,fun g _ hg=>hJ 1 (by omega) (by omega) (by omega) g hg⟩
  | 2,ho,hD,ha=>
   simp only[List.getElem?_cons_zero,List.getElem?_cons_succ,Option.some.injEq]at ho
   subst ho
   have e1:=hI.fact 1 (ha ⟨1,.data⟩ (by simp) rfl)
   exact qae (v:=.pointer (some ⟨gf,1,none⟩)) (w':=u) (by unfold execOp;simp only[Act.eval];rw[show b.tmps.getD 5 undef=_ from e1];simp[go_sem]) ⟨_,rfl,(fun hc=>absurd hc (by decide)),rfl,fun g _ hg=>hJ 2 (by omega) (by omega) (by omega) g hg⟩
  | 3,ho,hD,ha=>
   simp only[List.getElem?_cons_zero,List.getElem?_cons_succ,Option.some.injEq]at ho
   subst ho
   have e2:=hI.fact 2 (ha ⟨2,.data⟩ (by simp) rfl)
   have h6f:D 6=false:=by
    cases h6:D 6 with
    | false=>rfl
    | true=>have:=(hJ1 h6).1;rw[hD]at this;cases this
   obtain⟨q1,q2⟩:=hJ2 h6f
   have hc:u.cell? ⟨gf,1,none⟩=some (.pointer (some ⟨gl,0,none⟩)):=(q1.cell (p:=⟨gf,1,none⟩) HLT.out.1).trans c1
   refine qae (v:=.pointer (some ⟨gl,0,none⟩)) (w':=u) (by unfold execOp;simp only[Act.eval];rw[show b.tmps.getD 6 undef=_ from e2];simp[go_sem,hc]) ⟨_,rfl,(fun hc=>absurd hc (by decide)),rfl,fun g _ hg=>?_⟩
   rw[qen (by omega:(6:Nat) ≠ 3),qen (by omega:(5:Nat) ≠ 3)]
   refine⟨fun hc=>(by rw[h6f]at hc;cases hc),fun _=>⟨q1,fun hc5=>?_⟩⟩
   rw[hg 5 (by omega)]
   exact q2 hc5
  | 4,ho,hD,ha=>
   simp only[List.getElem?_cons_zero,List.getElem?_cons_succ,Option.some.injEq]at ho
   subst ho
   exact qaq (.tmp 0) rfl ⟨_,rfl,(fun hc=>absurd hc (by decide)),hp0,fun g _ hg=>hJ 4 (by omega) (by omega) (by omega) g hg⟩
  | 5,ho,hD,ha=>
   simp only[List.getElem?_cons_zero,List.getElem?_cons_succ,Option.some.injEq]at ho
   subst ho
   have e4:=hI.fact 4 (ha ⟨4,.data⟩ (by simp) rfl)
   have h6f:D 6=false:=by
    cases h6:D 6 with
    | false=>rfl
    | true=>have:=(hJ1 h6).2.1;rw[hD]at this;cases this
   obtain⟨q1,q2⟩:=hJ2 h6f
   refine qoh 68 #[.tmp 8] #[24] rfl (fun _ _=>by kernel_rfl) #[.pointer (some ⟨gf,0,none⟩)] (by simp only[List.map_toArray,List.map_cons,List.map_nil,Act.eval];rw[show b.tmps.getD 8 undef=_ from e4];rfl) (fun v' w'=>∃ E,qeh w' u.heap.size B v' E/\E.map jab=wrOf s.todo/\Below u.heap.size u w')
    ((HWR.out u q1).mono fun e w' ⟨v,E,he,x1,x2,x3⟩=>⟨v,he,E,x1,x2,x3⟩) ?_
   rintro v' w' ⟨E,x1,x2,x3⟩
   refine⟨_,rfl,(fun hc=>absurd hc (by decide)),trivial,fun g hg5 hg=>?_⟩
   rw[qen (by omega:(6:Nat) ≠ 5)]
   refine⟨fun hc=>(by rw[h6f]at hc;cases hc),fun _=>⟨Below.step q1 x3,fun _=>⟨E,?_,x2⟩⟩⟩
   rw[hg5]
   exact⟨qnf x1.1 q1.size,x1.2⟩
  | 6,ho,hD,ha=>
   simp only[List.getElem?_cons_zero,List.getElem?_cons_succ,Option.some.injEq]at ho
   subst ho
   have e3:=hI.fact 3 (ha ⟨3,.data⟩ (by simp) rfl)
   have d5:=ha ⟨5,.data⟩ (by simp) rfl
   have d3:=ha ⟨3,.data⟩ (by simp) rfl
   obtain⟨q1,q2⟩:=hJ2 hD
   obtain⟨E,x1,x2⟩:=q2 d5
   have hu5:qeh u w.heap.size B (b.tmps.getD 9 undef) E:=x1
   have hlg:=qaa q1 HLG.out
   have hcs:CS u a gl (fun i=>FD i/\i ≠ gf) s.dk s.sq (fun _=>False) u:=⟨_,HD.out.below q1,fun _ hi=>Or.inl hi,fun _ hc=>hc.elim,qab.refl _ _,hlg⟩
   have hcm:=ybbi hcs ⟨fun hc=>HF1.out.2.1 hc.1,qac hlg⟩ (fun i hi=>HF1.out.2.2.2.2.2.2.2 i (HF1.out.1 i hi.1)) (HF1.out.2.2.2.2.2.2.2 gl HF1.out.2.2.1) _ E ⟨qnf hu5.1 HBB.out,hu5.2⟩ (by rw[x2];exact HG.out) (by
    have:=congrArg List.length x2
    unfold wrOf at this
    rw[List.length_map,List.length_map]at this
    have:=H0.out
    omega) HSQ.out HWL.out
   rw[x2,Hst.out]at hcm
   refine qoh 67 #[.tmp 7,.tmp 9] #[91,123] rfl (fun _ _=>by kernel_rfl) #[.pointer (some ⟨gl,0,none⟩),b.tmps.getD 9 undef] (by simp only[List.map_toArray,List.map_cons,List.map_nil,Act.eval];rw[show b.tmps.getD 7 undef=_ from e3];rfl) (fun v' w'=>v'=.int .i64 0/\CS u a gl (fun i=>FD i/\i ≠ gf) st' (s.sq+1) (fun _=>False) w')
    (hcm.mono fun e w' ⟨he,x⟩=>⟨_,he,rfl,x⟩) ?_
   rintro v' w' ⟨rfl,F1,y1,y2,_,y4,y5⟩
   refine⟨_,rfl,(fun hc=>absurd hc (by decide)),rfl,fun g _ hg=>⟨fun _=>⟨?_,?_,F1,y1,fun i hi=>(y2 i hi).imp id fun h=>Nat.le_trans q1.size h,(qab.of_below q1).step y4,y5⟩,fun hc=>?_⟩⟩
   ·rw[qen (by omega:(3:Nat) ≠ 6)];exact d3
   ·rw[qen (by omega:(5:Nat) ≠ 6)];exact d5
   ·rw[qnw]at hc;cases hc
  | 7,ho,hD,ha=>
   simp only[List.getElem?_cons_zero,List.getElem?_cons_succ,Option.some.injEq]at ho
   subst ho
   have e6:=hI.fact 6 (ha ⟨6,.data⟩ (by simp) rfl)
   exact qki (.tmp 10) rfl ⟨_,rfl,(fun hc=>absurd hc (by decide)),e6,fun g _ hg=>hJ 7 (by omega) (by omega) (by omega) g hg⟩
 ·intro D b u hI hall
  obtain⟨d3,d5,F1,y1,y2,y3,y4⟩:=hI.j.1 (hall 6 (by simp))
  clear d3 d5
  have e7:b.tmps.getD 3 undef=.int .i64 0:=hI.fact 7 (hall 7 (by simp))
  have hrow:u.heap[gf]? = some (.cells (fsR (.pointer (some a)) (.pointer (some ⟨gl,0,none⟩)) s.fo rv nv (.map (some bt)) (.map (some bh))) 96 (0,0)):=(y3.block gf HLT.out.1 (fun hc=>by
   rcases hc with hc | hc
   ·exact hc.2 rfl
   ·exact HNE.out.1 hc.symm)).trans HROW.out
  have hkF:qab F w u:=y3.mono fun i _ hi=>by
   rcases hi with hi | hi
   ·exact HF1.out.1 i hi.1
   ·rw[hi];exact HF1.out.2.2.1
  have HY:Hid (qaw u (.pointer (some a)) st' 80 F1/\(∀ i,F1 i->(FD i/\i ≠ gf)\/w.heap.size<=i)/\qab (fun i=>(FD i/\i ≠ gf)\/i=gl) w u/\u.heap[gl]? = some (.cells (logC a (s.sq+1)) 165 (0,0))):=⟨y1,y2,y3,y4⟩
  have HRU:=Lib.hid hrow
  have HKF:=Lib.hid hkF
  have c196u:=(qev hrow).2.2.2.2.1
  have z196:u.frozen? ⟨gf,196,none⟩=false:=frozen_of_row _ _ _ _ _ hrow
  have hgu:gf<u.heap.size:=qac hrow
  have hgn:¬ gf=u.heap.size:=by omega
  have hlit:=yblv 18 b hI.size hI.dfs
  have hp0:=hI.old 0 _ ⟨rfl,rfl⟩
  rw[show (List.range 18).map (fun k=>b.tmps.getD k undef)=[b.tmps.getD 0 undef,b.tmps.getD 1 undef,b.tmps.getD 2 undef,b.tmps.getD 3 undef,b.tmps.getD 4 undef,b.tmps.getD 5 undef,b.tmps.getD 6 undef,b.tmps.getD 7 undef,b.tmps.getD 8 undef,b.tmps.getD 9 undef,b.tmps.getD 10 undef,b.tmps.getD 11 undef,b.tmps.getD 12 undef,b.tmps.getD 13 undef,b.tmps.getD 14 undef,b.tmps.getD 15 undef,b.tmps.getD 16 undef,b.tmps.getD 17 undef] from rfl,hp0,e7]at hlit
  clear e7 hp0 hI hall
  generalize b.tmps.getD 1 undef=g1 at hlit
  generalize b.tmps.getD 2 undef=g2 at hlit
  generalize b.tmps.getD 4 undef=g4 at hlit
  generalize b.tmps.getD 5 undef=g5 at hlit
  generalize b.tmps.getD 6 undef=g6 at hlit
  generalize b.tmps.getD 7 undef=g7 at hlit
  generalize b.tmps.getD 8 undef=g8 at hlit
  generalize b.tmps.getD 9 undef=g9 at hlit
  generalize b.tmps.getD 10 undef=g10 at hlit
  generalize b.tmps.getD 11 undef=g11 at hlit
  generalize b.tmps.getD 12 undef=g12 at hlit
  generalize b.tmps.getD 13 undef=g13 at hlit
  generalize b.tmps.getD 14 undef=g14 at hlit
  generalize b.tmps.getD 15 undef=g15 at hlit
  generalize b.tmps.getD 16 undef=g16 at hlit
  generalize b.tmps.getD 17 undef=g17 at hlit
  rename_i Kq hKq
  refine hKq _ _ ?_
  rw[hlit]
  clear hlit y1 y2 y3 y4 hkF hrow
  have hmm:∀ W:World,(Instr.makeMap 93 none).run Tryz.prog W=.ok (.map (some W.heap.size)) (W.alloc (.map #[] 0)):=fun _=>rfl
  have hk6:qab (fun i=>i=gf) u (u.setCell ⟨gf,196,none⟩ (.map (some u.heap.size))):=qab.setCell (F:=fun i=>i=gf) (p:=⟨gf,196,none⟩) rfl _
  have hs6:(u.setCell ⟨gf,196,none⟩ (.map (some u.heap.size))).heap.size=u.heap.size:=by simp[World.setCell]
  have hra:(u.setCell ⟨gf,196,none⟩ (.map (some u.heap.size))).heap[gf]? = some (.cells (fsR (.pointer (some a)) (.pointer (some ⟨gl,0,none⟩)) s.fo rv nv (.map (some u.heap.size)) (.map (some bh))) 96 (0,0)):=by
   rw[<-ybxv (.pointer (some a)) (.pointer (some ⟨gl,0,none⟩)) s.fo rv nv (.map (some bt))]
   exact heap_setCell_same _ _ 196 _ _ _ HRU.out
  have hr6:((u.setCell ⟨gf,196,none⟩ (.map (some u.heap.size))).alloc (.map #[] 0)).heap[gf]? = some (.cells (fsR (.pointer (some a)) (.pointer (some ⟨gl,0,none⟩)) s.fo rv nv (.map (some u.heap.size)) (.map (some bh))) 96 (0,0)):=(heap_alloc_old _ _ (by rw[hs6];exact hgu)).trans hra
  have hal:Below (u.setCell ⟨gf,196,none⟩ (.map (some u.heap.size))).heap.size (u.setCell ⟨gf,196,none⟩ (.map (some u.heap.size))) ((u.setCell ⟨gf,196,none⟩ (.map (some u.heap.size))).alloc (.map #[] 0)):=(Below.refl _ _).alloc (Nat.le_refl _) _
  have hm6:MapL Tryz.prog 3 ((u.setCell ⟨gf,196,none⟩ (.map (some u.heap.size))).alloc (.map #[] 0)) u.heap.size []:=by
   have:=MapL.made (P:=Tryz.prog) (K:=3) (u.setCell ⟨gf,196,none⟩ (.map (some u.heap.size)))
   rwa [hs6]at this
  have hku:qab (fun i=>i=gf) u ((u.setCell ⟨gf,196,none⟩ (.map (some u.heap.size))).alloc (.map #[] 0)):=hk6.step (qab.of_below hal)
  have hsz:u.heap.size<((u.setCell ⟨gf,196,none⟩ (.map (some u.heap.size))).alloc (.map #[] 0)).heap.size:=hm6.lt
  have HU:Hid (qab (fun i=>i=gf) u ((u.setCell ⟨gf,196,none⟩ (.map (some u.heap.size))).alloc (.map #[] 0))/\u.heap.size<((u.setCell ⟨gf,196,none⟩ (.map (some u.heap.size))).alloc (.map #[] 0)).heap.size/\MapL Tryz.prog 3 ((u.setCell ⟨gf,196,none⟩ (.map (some u.heap.size))).alloc (.map #[] 0)) u.heap.size []):=⟨hku,hsz,hm6⟩
  have HR6:=Lib.hid hr6
  clear hk6 hra hr6 hal hm6 hku hsz hs6
  go_wp2
  generalize ((u.setCell ⟨gf,196,none⟩ (.map (some u.heap.size))).alloc (.map #[] 0))=w6 at *
  go_ret
  have hkw:qab F w w6:=HKF.out.step (HU.out.1.mono fun i _ hi=>by rw[hi];exact HF1.out.2.2.2.1)
  have hwu:w.heap.size<=u.heap.size:=HY.out.2.2.1.size
  have hF':∀ i,(F i\/(w.heap.size<=i/\i<w6.heap.size))->F i\/w.heap.size<=i:=fun i hi=>hi.imp id fun h=>h.1
  have hgfF:∀ i,¬ F1 i\/i ≠ gf:=fun i=>by
   by_cases hi:i=gf
   ·left
    intro hc
    rcases HY.out.2.1 i hc with h | h
    ·exact h.2 hi
    ·have:=HLT.out.1;omega
   ·exact Or.inr hi
  refine⟨rfl,⟨⟨gl,rv,nv,u.heap.size,bh,E,[],F1,HR6.out,?_,fun i hi=>?_,fun hc=>?_,?_,Or.inl HF1.out.2.2.1,ybcy HRV.out hkw hF',ybcy HNV.out hkw hF',ybyp HNS.out hkw hF',HU.out.2.2,qas.nil _ _,Or.inr ⟨hwu,HU.out.2.1⟩,?_,fun hc=>?_,?_,Or.inl HF1.out.2.2.2.2.1,fun hc=>?_⟩,Or.inl HF1.out.2.2.2.1,HMI.out.1,fun i hi=>?_,fun i hi=>?_,HMI.out.2.1,HMI.out.2.2.1,HMI.out.2.2.2⟩,hkw⟩
  ·show qaw w6 _ (runE s.dk (opsJ (s.sq+1) (wrOf s.todo))) s.k F1
   rw[Hst.out,hk80]
   exact HY.out.1.keep HU.out.1 fun i hi hc=>(hgfF i).elim (fun h=>h hi) (fun h=>h hc)
  ·rcases HY.out.2.1 i hi with h | h
   ·exact Or.inl (HF1.out.1 i h.1)
   ·exact Or.inr ⟨h,Nat.lt_of_lt_of_le (HY.out.1.fin i hi) HU.out.1.size⟩
  ·rcases HY.out.2.1 gl hc with h | h
   ·exact HF1.out.2.1 h.1
   ·have:=HLT.out.2.1;omega
  ·exact (HU.out.1.block gl (Nat.lt_of_lt_of_le HLT.out.2.1 hwu) HNE.out.1).trans HY.out.2.2.2
  ·have:=HLT.out.2.2;omega
  ·rcases HY.out.2.1 _ hc with h | h
   ·have:=HF1.out.2.2.2.2.2.2.1 _ (HF1.out.1 _ h.1);omega
   ·have:=HY.out.1.fin _ hc;omega
  ·have hb1:u.heap[bh]? = w.heap[bh]? :=HY.out.2.2.1.block bh HLT.out.2.2 (fun hc=>by
    rcases hc with hc | hc
    ·exact HF1.out.2.2.2.2.2.1 hc.1
    ·exact HNE.out.2.2 hc)
   exact HBH.out.of_block ((HU.out.1.block bh (Nat.lt_of_lt_of_le HLT.out.2.2 hwu) HNE.out.2.1).trans hb1)
  ·rcases HY.out.2.1 bh hc with h | h
   ·exact HF1.out.2.2.2.2.2.1 h.1
   ·have:=HLT.out.2.2;omega
  ·rcases hi with h | h
   ·exact Nat.lt_of_lt_of_le (HF1.out.2.2.2.2.2.2.1 i h) hkw.size
   ·exact h.2
  ·rcases hi with h | h
   ·exact Nat.lt_of_lt_of_le (HF1.out.2.2.2.2.2.2.1 i h) hkw.size
   ·exact h.2
def tx0 (s:Fs):Tx:=⟨s.fo,s.rows,s.nodes,[],[],[],false,256⟩
def qhs (s:Fs) (x:Tx):Fs:={ s with fo:=x.fo,rows:=x.rows,nodes:=x.nodes,todo:=qbv s.todo (qbl x s) }
def newN (mode user group:Int):Pn:=⟨1,mode,user,group,0,1,0,[]⟩
def qie (s:Fs) (X N:Pn) (D':List Int) (y:Fw):Tx:=⟨y.fo,s.rows,(s.nodes.set 1 N).set 0 { X with P:=y.P,s:=(D'.length:Int) },[(1,.bool true),(2,.bool true)],y.put,[],false,256⟩
theorem fs_add {w:World} {gf:Nat} {s:Fs} {F:Nat->Prop} {B:Nat} {a:Addr} (h:FsAt w gf s F B a) (hB:B<=w.heap.size) (X:Pn) (hX:s.nodes[0]? = some X) (hk:X.k=2) (hl:0<X.l) (hP:qgd X.P s.k) (hPl:X.P.length<=8) (hs:0<=X.s/\X.s<=64*(X.P.length:Int))
  (name:ByteArray) (hnm:qjs name=true) (D:List Int) (hD:qbc (secE s) X.P X.s=D) (hDB:qco D) (hok:qcn D=true) (hfd:(qee D name).2.2=4) (hz:∃ Z,s.nodes[1]? = some Z/\Z.k=0) (mode user group:Int)
  (D':List Int) (hput:qho D (name,2)=0) (hD':layD (outD D++[(name,2)])=D') (hD5:D'.length<=512) (hg:X.P.length<=(D'.length+63) / 64) (hn:qbm s.fo) (y:Fw) (hy:qcx s.k D' ⟨s.fo,[],X.P++List.replicate ((D'.length+63) / 64 - X.P.length) 0⟩ ((D'.length+63) / 64)=some y)
  (hrows:s.rows=[]) (p0:Nat) (hp0:y.fo.nd 0 0=(p0:Int)) (hp1:0<p0) (hp2:p0<256) (hny:qbm y.fo) (X0:Pn) (hX0:X0={ X with P:=y.P,s:=(D'.length:Int) }) (hr0:qdt X0=0) (hr1:qdt (newN mode user group)=0) (hl0:(qbf X0).length=32) (hl1:(qbf (newN mode user group)).length=32)
  (hr:qbn (qeu (qie s X (newN mode user group) D' y) X0 (newN mode user group)).fo=0) (hlen:s.todo.length+y.put.length<=24):
  Calls Tryz.prog 46 #[.pointer (some ⟨gf,0,none⟩),.int .i64 1,.string name,.agg #[.int .i64 1,.int .i64 mode,.int .i64 user,.int .i64 group,.int .i64 0,.int .i64 0,.int .i64 0,.slice none 0 0],.slice none 0 0] w
   (fun e w'=>e=.returned (.tuple #[.int .i64 2,.int .i64 0])/\FsAt w' gf (qhs s (qeu (qie s X (newN mode user group) D' y) X0 (newN mode user group))) F B a/\qab F w w'):=by
 have H:=Lib.hid h
 obtain⟨N1,HN1⟩:∃ c:Array Value,Hid (c=#[.int .i64 1,.int .i64 mode,.int .i64 user,.int .i64 group,.int .i64 0,.int .i64 0,.int .i64 0,.slice none 0 0]):=⟨_,rfl⟩
 have HWA:Hid (Below w.heap.size w (w.alloc (.cells #[.int .i64 1,.int .i64 mode,.int .i64 user,.int .i64 group,.int .i64 0,.int .i64 0,.int .i64 0,.slice none 0 0] 103))):=(Below.refl _ _).alloc (Nat.le_refl _) _
 have HRA:Hid ((w.alloc (.cells #[.int .i64 1,.int .i64 mode,.int .i64 user,.int .i64 group,.int .i64 0,.int .i64 0,.int .i64 0,.slice none 0 0] 103)).heap[w.heap.size]? = some (.cells #[.int .i64 1,.int .i64 mode,.int .i64 user,.int .i64 group,.int .i64 0,.int .i64 0,.int .i64 0,.slice none 0 0] 103 (0,0))):=heap_alloc_new _ _
 have HPL:=Lib.hid (fun (W:World) (hW:Below w.heap.size w W)=>ybex (h.below hW) 0 (by omega) X hX hk hl hP hPl hs name hnm D hD hDB hok hfd)
 have HFR:=Lib.hid (fun (W:World) (hW:Below w.heap.size w W)=>ybya (h.below hW) 1 (by omega) hz (fun j hj=>⟨X,by rw[show j=0 by omega];exact hX,by omega⟩))
 have hXA:(s.nodes.set 1 (newN mode user group))[0]? = some X:=by rw[List.getElem?_set_ne (by omega)];exact hX
 have hlen32:=h.len
 have hN1:(s.nodes.set 1 (newN mode user group))[1]? = some (newN mode user group):=by rw[List.getElem?_set_self (by omega)]
 have HFILL:Hid (∀ (W0 W:World) (gt:Nat) (T:Nat->Prop),Below w.heap.size w W0->Below W0.heap.size W0 W->TxAt W W0.heap.size F gt (.pointer (some ⟨gf,0,none⟩)) { tx0 s with nodes:=s.nodes.set 1 (newN mode user group),dirty:=[(2,.bool true)] } T ->
   Calls Tryz.prog 91 #[.pointer (some ⟨gt,0,none⟩),.int .i64 2,.slice none 0 0] W
    (fun e w'=>e=.returned (.tuple #[])/\qbg W0.heap.size F gt (.pointer (some ⟨gf,0,none⟩)) { tx0 s with nodes:=s.nodes.set 1 (newN mode user group),dirty:=[(2,.bool true)] } T W w')):=fun W0 W gt T hW0 hW hT=>by
  have h1:=ybds (h.below hW0) hW hT (fun i hi=>Nat.lt_of_lt_of_le (h.fin i hi) (Nat.le_trans hW0.size hW.size)) 1 (by omega) (newN mode user group) hN1 (.slice none 0 0) [] ⟨⟨rfl,Or.inl ⟨rfl,_,_,rfl⟩⟩,fun q n c hv=>by injection hv with e1 e2 e3;omega⟩ (fun b hb=>by cases hb) (by simp) (by simp[newN]) hn ⟨s.fo,[],[]⟩ rfl (by show (0:Nat)<800;omega) (by show (1:Nat)<900;omega)
  have e:({ { tx0 s with nodes:=s.nodes.set 1 (newN mode user group),dirty:=[(2,.bool true)] } with fo:=s.fo,put:=[],nodes:=(s.nodes.set 1 (newN mode user group)).set 1 { newN mode user group with P:=[],s:=((([]:List Int).length:Nat):Int) },dirty:=putZ [(2,.bool true)] (((1:Nat):Int)+1) (.bool true) }:Tx)={ tx0 s with nodes:=s.nodes.set 1 (newN mode user group),dirty:=[(2,.bool true)] }:=by
   rw[List.set_set]
   rfl
  exact (e ▸ h1:_)
 have HENT:Hid (∀ (W0 W:World) (gt:Nat) (T:Nat->Prop),Below w.heap.size w W0->Below W0.heap.size W0 W->TxAt W W0.heap.size F gt (.pointer (some ⟨gf,0,none⟩)) { tx0 s with nodes:=s.nodes.set 1 (newN mode user group),dirty:=[(2,.bool true)] } T ->
   Calls Tryz.prog 62 #[.pointer (some ⟨gt,0,none⟩),.int .i64 1,.string name,.int .i64 2] W
    (fun e w'=>e=.returned (.int .i64 0)/\qbg W0.heap.size F gt (.pointer (some ⟨gf,0,none⟩)) (qie s X (newN mode user group) D' y) T W w')):=fun W0 W gt T hW0 hW hT=>by
  exact ybgj (h.below hW0) hW hT (fun i hi=>Nat.lt_of_lt_of_le (h.fin i hi) (Nat.le_trans hW0.size hW.size)) 0 (by omega) X hXA hP hPl hs (name,2) D D' hD hDB hok hput hD' hD5 hg hn y hy (by show (0:Nat)<800;omega) (by show (1:Nat)<900;omega)
 have HEND:Hid (∀ (W0 W:World) (gt:Nat) (T:Nat->Prop),Below w.heap.size w W0->Below W0.heap.size W0 W->TxAt W W0.heap.size F gt (.pointer (some ⟨gf,0,none⟩)) (qie s X (newN mode user group) D' y) T ->
   Calls Tryz.prog 54 #[.pointer (some ⟨gt,0,none⟩)] W
    (fun e w'=>e=.returned (.int .i64 0)/\FsAt w' gf (qhs s (qeu (qie s X (newN mode user group) D' y) X0 (newN mode user group))) F B a/\qab F W0 w')):=fun W0 W gt T hW0 hW hT=>by
  refine ybgi (h.below hW0) hW hT (fun _ hi=>hi) hrows rfl hny p0 hp0 hp1 hp2 true true rfl rfl rfl (fun k h1 h2=>?_) X0 (newN mode user group) ?_ ?_ hr0 hr1 hl0 hl1 (fun p hp=>by cases hp) hr (by show qda s.rows=0;rw[hrows];rfl) (Nat.le_trans hB hW0.size) (by have:=h.k0;omega) hlen
  ·constructor
   ·show getZ [((1:Int),Value.bool true),(2,.bool true)] _=none
    unfold getZ;rw[if_neg (by omega)];unfold getZ;rw[if_neg (by omega)];rfl
   ·show getZ [((1:Int),Value.bool true),(2,.bool true)] _=none
    unfold getZ;rw[if_neg (by omega)];unfold getZ;rw[if_neg (by omega)];rfl
  ·show ((s.nodes.set 1 _).set 0 _)[0]? = _
   rw[List.getElem?_set_self (by rw[List.length_set];omega),hX0]
  ·show ((s.nodes.set 1 _).set 0 _)[1]? = _
   rw[List.getElem?_set_ne (by omega)];exact hN1
 have HL32:=Lib.hid hlen32
 clear h hX hk hl hP hPl hs hD hDB hok hfd hz hput hD' hD5 hg hn hy hrows hp0 hp1 hp2 hny hX0 hr0 hr1 hl0 hl1 hr hlen hXA hlen32 hN1
 go_enter Tryz.func46,Tryz.ntmps46
 go_wp2_with fail
 refine (HPL.out _ HWA.out).mono ?_
 rintro e w1 ⟨rfl,hb1⟩
 have HB1:Hid (Below w.heap.size w w1):=Below.step HWA.out hb1
 have HR1:=Lib.hid (qaa hb1 HRA.out)
 clear hb1
 go_wp2_with fail
 refine (HFR.out w1 HB1.out).mono ?_
 rintro e w2 ⟨rfl,hb2⟩
 have HB2:Hid (Below w.heap.size w w2):=Below.step HB1.out hb2
 have HR2:=Lib.hid (qaa hb2 HR1.out)
 have s5:w2.cell? ⟨w.heap.size,5,none⟩=some (.int .i64 0):=(qag HR2.out).2.2.2.2.2.1
 have s0:w2.cell? ⟨w.heap.size,0,none⟩=some (.int .i64 1):=(qag HR2.out).1
 have z5:w2.frozen? ⟨w.heap.size,5,none⟩=false:=frozen_of_row _ _ _ _ _ HR2.out
 clear hb2
 have HB3:Hid (Below w.heap.size w (w2.setCell ⟨w.heap.size,5,none⟩ (.int .i64 1))):=HB2.out.setCell (p:=⟨w.heap.size,5,none⟩) (Nat.le_refl _) _
 have HR3:Hid ((w2.setCell ⟨w.heap.size,5,none⟩ (.int .i64 1)).heap[w.heap.size]? = some (.cells #[.int .i64 1,.int .i64 mode,.int .i64 user,.int .i64 group,.int .i64 0,.int .i64 1,.int .i64 0,.slice none 0 0] 103 (0,0))):=heap_setCell_same _ _ 5 _ _ _ HR2.out
 have HBG:=Lib.hid (qmn (H.out.below HB3.out))
 go_wp2_with fail
 refine HBG.out.mono ?_
 rintro e w4 ⟨gt,T,rfl,hb4,hT⟩
 have HR4:=Lib.hid (qaa hb4 HR3.out)
 generalize w2.setCell ⟨w.heap.size,5,none⟩ (.int .i64 1)=w3 at *
 have HB4:=Lib.hid hb4
 have hset:=qtc hT 1 (by omega) (newN mode user group) none 0 0 (fun w' _=>⟨rfl,Or.inl ⟨rfl,_,_,rfl⟩⟩) (by show (0:Nat)<900;omega)
 have HSET:Hid (Calls Tryz.prog 53 #[.pointer (some ⟨gt,0,none⟩),.int .i64 2,.agg #[.int .i64 1,.int .i64 mode,.int .i64 user,.int .i64 group,.int .i64 0,.int .i64 1,.int .i64 0,.slice none 0 0]] w4
   (fun e w'=>e=.returned (.tuple #[])/\qbg w3.heap.size F gt (.pointer (some ⟨gf,0,none⟩)) { tx0 s with nodes:=s.nodes.set 1 (newN mode user group),dirty:=[(2,.bool true)] } T w4 w')):=hset
 have HT:=Lib.hid hT
 obtain⟨n0,n1,n2,n3,n4,n5,n6,n7⟩:=qag HR4.out
 clear hb4 hT hset s5 s0 z5
 go_wp2_with fail
 refine HSET.out.mono ?_
 rintro e w5 ⟨rfl,d5⟩
 have HD5:=Lib.hid d5
 have HO5:=Lib.hid (d5.old HB4.out HT.out)
 obtain⟨T5,t5,u5,v5,k5⟩:=d5
 have HF5:=Lib.hid (HFILL.out w3 w5 gt T5 HB3.out HO5.out t5)
 have HT5:=Lib.hid t5
 clear t5 u5 v5 k5
 go_wp2_with fail
 refine HF5.out.mono ?_
 rintro e w6 ⟨rfl,d6⟩
 have HO6:=Lib.hid (d6.old HO5.out HT5.out)
 obtain⟨T6,t6,u6,v6,k6⟩:=d6
 have HE6:=Lib.hid (HENT.out w3 w6 gt T6 HB3.out HO6.out t6)
 have HT6:=Lib.hid t6
 clear t6 u6 v6 k6
 go_wp2_with fail
 refine HE6.out.mono ?_
 rintro e w7 ⟨rfl,d7⟩
 have HO7:=Lib.hid (d7.old HO6.out HT6.out)
 obtain⟨T7,t7,u7,v7,k7⟩:=d7
 have HE7:=Lib.hid (HEND.out w3 w7 gt T7 HB3.out HO7.out t7)
 clear t7 u7 v7 k7
 go_wp2_with fail
 refine HE7.out.mono ?_
 rintro e w8 ⟨rfl,h8,k8⟩
 have H8:=Lib.hid h8
 have HK8:Hid (qab F w w8):=(qab.of_below HB3.out).step k8
 clear h8 k8
 go_wp2
 go_ret2
 exact⟨rfl,H8.out,HK8.out⟩
end Go.Proofs.YtpoglnpjadmbpaaGreatDoor
