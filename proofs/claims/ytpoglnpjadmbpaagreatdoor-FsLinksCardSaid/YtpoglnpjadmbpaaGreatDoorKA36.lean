/- Part of the proofs of FsLinks: the texts Fs1, Fs2. -/
import Derived.Test.YtpoglnpjadmbpaaGreatDoorKA35
set_option maxHeartbeats 16000000
set_option maxRecDepth 100000
namespace Go.Proofs.YtpoglnpjadmbpaaGreatDoor
open Go.RowKit
theorem qdz {w:World} {gf:Nat} {s:Fs} {F:Nat->Prop} {B:Nat} {a:Addr} (h:FsAt w gf s F B a) (i:Nat) (hi:i<32) (X:Pn) (hX:s.nodes[i]? = some X):
  ∃ gn on cn yq yn yc,w.cell? ⟨gf,195,none⟩=some (.slice (some ⟨gn,on,none⟩) 32 cn)/\gn<w.heap.size /\
   w.cell? ⟨gn,on+i*8,none⟩=some (.int .i64 X.k)/\w.cell? ⟨gn,on+i*8+1,none⟩=some (.int .i64 X.m)/\w.cell? ⟨gn,on+i*8+2,none⟩=some (.int .i64 X.u)/\w.cell? ⟨gn,on+i*8+3,none⟩=some (.int .i64 X.g) /\
   w.cell? ⟨gn,on+i*8+4,none⟩=some (.int .i64 X.s)/\w.cell? ⟨gn,on+i*8+5,none⟩=some (.int .i64 X.l)/\w.cell? ⟨gn,on+i*8+6,none⟩=some (.int .i64 X.up)/\w.cell? ⟨gn,on+i*8+7,none⟩=some (.slice yq yn yc) /\
   Out F w (fun w'=>qao w' (.slice yq yn yc) X.P):=by
 obtain⟨⟨gl,rv,nv,bt,bh,E,tl,FD,h1,h2,h3,h4,h5,h6,h7,h8,h9,h10,h11,h12,h13,h14,h15,h16,h17⟩,a1,a2,a3,a4,a5,a6,a7⟩:=h
 obtain⟨_,_,_,c195,_,_⟩:=qev h1
 have hEL:E.length=32:=by rw[h9.1];exact a2
 obtain⟨p2,cp2,hv2,HP⟩:=qel h8.now
 rw[hEL]at hv2 HP
 subst hv2
 obtain⟨g,o,rfl,hg,hc⟩:=HP.out (by omega)
 have hiE:i<E.length:=by omega
 have hiX:i<s.nodes.length:=by omega
 obtain⟨e0,e1,e2,e3,e4,e5,e6,e7⟩:=qcz hc i hiE
 have HND:=h9.2 i hiE hiX
 have hXX:s.nodes[i]=X:=by rw[List.getElem?_eq_getElem hiX]at hX;injection hX
 rw[hXX]at HND
 obtain⟨f0,f1,f2,f3,f4,f5,f6,HIY⟩:=HND
 rw[f0]at e0;rw[f1]at e1;rw[f2]at e2;rw[f3]at e3;rw[f4]at e4;rw[f5]at e5;rw[f6]at e6
 exact⟨g,o,cp2,_,_,_,c195,hg,e0,e1,e2,e3,e4,e5,e6,e7,HIY⟩
theorem qmo {w:World} {gf:Nat} {s:Fs} {F:Nat->Prop} {B:Nat} {a:Addr} (h:FsAt w gf s F B a) (i:Nat) (hi:i<32) (X:Pn) (hX:s.nodes[i]? = some X):
  Calls Tryz.prog 60 #[.pointer (some ⟨gf,0,none⟩),.int .i64 ((i:Int)+1)] w (fun e w'=>e=.returned (.bool (decide (X.k ≠ 0)))/\w=w'):=by
 obtain⟨gn,on,cn,yq,yn,yc,c195,hgn,e0,_⟩:=qdz h i hi X hX
 have i1:IntKind.i64.wrap ((i:Int)+1 - 1)=(i:Int):=by rw[IntWalk.i64_in _ (by omega)];omega
 have d1:(1:Int)<=(i:Int)+1:=by omega
 have d2:(i:Int)+1<=32:=by omega
 have d3:decide ((1:Int)<=(i:Int)+1)=true:=decide_eq_true d1
 have d4:decide ((i:Int)+1<=32)=true:=decide_eq_true d2
 obtain⟨y,Hy⟩:∃ y,Hid (X.k=y):=⟨_,rfl⟩
 rw[Hy.out]at e0 ⊢
 clear h hX
 by_cases hy:y=0
 ·subst hy
  go_enter Tryz.func60,Tryz.ntmps60
  go_wp2
  go_ret
  simp
 ·have b0:(y == 0)=false:=by simpa using hy
  have b1:(y != 0)=true:=by simpa using hy
  have hd:decide (y ≠ 0)=true:=decide_eq_true hy
  rw[hd]
  go_enter Tryz.func60,Tryz.ntmps60
  go_wp2
  go_ret
  simp
theorem qyk {w:World} {gf:Nat} {s:Fs} {F:Nat->Prop} {B:Nat} {a:Addr} (h:FsAt w gf s F B a) (i:Nat) (hi:i<32) (X:Pn) (hX:s.nodes[i]? = some X):
  Calls Tryz.prog 30 #[.pointer (some ⟨gf,0,none⟩),.int .i64 ((i:Int)+1)] w (fun e w'=>e=.returned (.int .i64 (if X.k=0 then 4 else if X.k=2 then 0 else 12))/\w=w'):=by
 have HTH:=Lib.hid (qmo h i hi X hX)
 obtain⟨gn,on,cn,yq,yn,yc,c195,hgn,e0,_⟩:=qdz h i hi X hX
 have i1:IntKind.i64.wrap ((i:Int)+1 - 1)=(i:Int):=by rw[IntWalk.i64_in _ (by omega)];omega
 obtain⟨y,Hy⟩:∃ y,Hid (X.k=y):=⟨_,rfl⟩
 rw[Hy.out]at e0 HTH ⊢
 clear h hX
 by_cases hy:y=0
 ·subst hy
  go_enter Tryz.func30,Tryz.ntmps30
  go_wp2_with fail
  refine HTH.out.mono ?_
  rintro e w1 ⟨rfl,rfl⟩
  go_wp2
  go_ret
  simp
 ·rw[show decide (y ≠ 0)=true from decide_eq_true hy]at HTH
  rw[if_neg hy]
  by_cases hy2:y=2
  ·subst hy2
   go_enter Tryz.func30,Tryz.ntmps30
   go_wp2_with fail
   refine HTH.out.mono ?_
   rintro e w1 ⟨rfl,rfl⟩
   go_wp2
   go_ret
   simp
  ·have b0:(y == 2)=false:=by simpa using hy2
   have b1:(y != 2)=true:=by simpa using hy2
   rw[if_neg hy2]
   go_enter Tryz.func30,Tryz.ntmps30
   go_wp2_with fail
   refine HTH.out.mono ?_
   rintro e w1 ⟨rfl,rfl⟩
   go_wp2
   go_ret
   simp
theorem ybcc {w:World} {gf:Nat} {s:Fs} {F:Nat->Prop} {B:Nat} {a:Addr} (h:FsAt w gf s F B a) (i:Nat) (hi:i<32) (X:Pn) (hX:s.nodes[i]? = some X):
  Calls Tryz.prog 47 #[.pointer (some ⟨gf,0,none⟩),.int .i64 ((i:Int)+1)] w (fun e w'=>e=.returned (.int .i64 (if X.k=0 then 4 else if X.k=1 then 0 else 12))/\w=w'):=by
 have HTH:=Lib.hid (qmo h i hi X hX)
 obtain⟨gn,on,cn,yq,yn,yc,c195,hgn,e0,_⟩:=qdz h i hi X hX
 have i1:IntKind.i64.wrap ((i:Int)+1 - 1)=(i:Int):=by rw[IntWalk.i64_in _ (by omega)];omega
 obtain⟨y,Hy⟩:∃ y,Hid (X.k=y):=⟨_,rfl⟩
 rw[Hy.out]at e0 HTH ⊢
 clear h hX
 by_cases hy:y=0
 ·subst hy
  go_enter Tryz.func47,Tryz.ntmps47
  go_wp2_with fail
  refine HTH.out.mono ?_
  rintro e w1 ⟨rfl,rfl⟩
  go_wp2
  go_ret
  simp
 ·rw[show decide (y ≠ 0)=true from decide_eq_true hy]at HTH
  rw[if_neg hy]
  by_cases hy2:y=1
  ·subst hy2
   go_enter Tryz.func47,Tryz.ntmps47
   go_wp2_with fail
   refine HTH.out.mono ?_
   rintro e w1 ⟨rfl,rfl⟩
   go_wp2
   go_ret
   simp
  ·have b0:(y == 1)=false:=by simpa using hy2
   have b1:(y != 1)=true:=by simpa using hy2
   rw[if_neg hy2]
   go_enter Tryz.func47,Tryz.ntmps47
   go_wp2_with fail
   refine HTH.out.mono ?_
   rintro e w1 ⟨rfl,rfl⟩
   go_wp2
   go_ret
   simp
theorem fs_who (u g:Int) (hu:0<=u/\u<=255) (hg:0<=g/\g<=255) (w:World):
  Calls Tryz.prog 45 #[.int .i64 u,.int .i64 g] w (fun e w'=>e=.returned (.bool true)/\w=w'):=by
 obtain⟨u1,u2⟩:=hu
 obtain⟨g1,g2⟩:=hg
 have d1:decide (0<=u)=true:=decide_eq_true u1
 have d2:decide (u<=255)=true:=decide_eq_true u2
 have d3:decide (0<=g)=true:=decide_eq_true g1
 have d4:decide (g<=255)=true:=decide_eq_true g2
 go_enter Tryz.func45,Tryz.ntmps45
 go_wp2
 go_ret
 simp
theorem quq : Tryz.prog.underlying 92=some (.slice 103):=by kernel_rfl
theorem ybcr (l:List Nd):∀ u ∈ qax l,u.oneCell'=true:=by
 intro u hu
 unfold qax at hu
 obtain⟨x,_,hu⟩:=List.mem_flatMap.1 hu
 simp[nd8]at hu
 rcases hu with rfl | rfl | rfl | rfl | rfl | rfl | rfl | rfl <;> rfl
theorem ybcq (l:List Nd):(qax l).length=l.length*8:=by
 induction l with
 | nil=>rfl
 | cons x l ih=>simp only[qax,List.flatMap_cons,List.length_append,List.length_cons,nd8,List.length_nil]at *;omega
def ybvw (B:Nat) (l:List Nd) (w:World) (e:Ending) (w':World):Prop:=∃ v,e=.returned v/\w'.ownsRow B 103 8 v l.length (qax l)/\Below B w w'/\w.heap.size<=w'.heap.size
theorem qzb (v:Value) (l:List Nd) (w:World) (h:qai w v 8 l.length (qax l)) (h1:l.length<=1000000):
  Calls Tryz.prog 82 #[v] w (ybvw w.heap.size l w):=by
 obtain⟨i0,hi,hz0,hz1,hz2⟩:=info_parts ybwg
 have HI:=Lib.hid hi
 have HZ0:=Lib.hid hz0
 have HZ1:=Lib.hid hz1
 have HZ2:=Lib.hid hz2
 clear hi hz0 hz1 hz2
 obtain⟨n,HN⟩:∃ n,Hid (n=l.length):=⟨_,rfl⟩
 obtain⟨a,c,hv,HC⟩:∃ a c,v=.slice a n c/\Hid (∀ ad,a=some ad->∀ j u,(qax l)[j]? = some u->w.cell? (ad.add j)=some u)/\(a=none->n=0):=by
  obtain⟨hl,⟨hn,a,c,rfl⟩ | ⟨g,o,c,rfl,hc⟩⟩:=h
  ·refine⟨a,c,by rw[HN.out,hn],fun ad _ j u hj=>?_,fun _=>by rw[HN.out];exact hn⟩
   have:=(List.getElem?_eq_some_iff.1 hj).1
   omega
  ·refine⟨_,c,by rw[HN.out],fun ad hd j u hj=>?_,fun h=>by cases h⟩
   cases hd
   have hadd:(⟨g,o,none⟩:Addr).add j=⟨g,o+j,none⟩:=by unfold Addr.add;split <;> simp_all
   rw[hadd];exact hc j u hj
 obtain⟨HC,HE⟩:=HC
 subst hv
 have hpl:(qax l).length=n*8:=by rw[ybcq,<-HN.out]
 have HPL:=Lib.hid hpl
 rw[<-HN.out]at h1
 clear hpl h
 unfold ybvw
 rw[<-HN.out]
 have q22:∀ (w:World) (a:Option Addr) (n c n' c':Nat),(binOp .eql 92 (.slice a n c) (.slice none n' c')).run Tryz.prog w=.ok (.bool a.isNone) w:=fun w a n c n' c'=>Lib.run_eql_slice_nil w _ _ a n c n' c' quq
 cases a with
 | none=>
  have HE0:=Lib.hid (HE rfl)
  clear HE
  go_enter Tryz.func82,Tryz.ntmps82
  go_wp2
  go_ret
  exact⟨_,rfl,⟨HPL.out,Or.inl ⟨rfl,HE0.out⟩⟩,Below.refl _ _,Nat.le_refl _⟩
 | some ad=>
  clear HE
  go_enter Tryz.func82,Tryz.ntmps82
  go_wp2_with (at_builtin;refine wpList_append_own _ rfl _ _ 92 rfl w.heap.size 103 i0 _ 8 80 quq HI.out HZ0.out HZ1.out HZ2.out rfl (by decide) _ _ _ rfl (World.ownsRow_made w #[] 0 (Nat.le_refl _) (Nat.zero_le _) rfl) ad n c (qax l) rfl ?qc1 ?qc2 ?qc3 ?qc4 ?qc5 ?qc6 ?_)
  case qc1=>exact HPL.out
  case qc2=>
   intro j u hj
   have:=HC.out ad rfl j u hj
   rw[World.cell?_alloc_lt _ _ _ (block_lt_of_cell this)]
   exact this
  case qc3=>exact ybcr l
  case qc4=>unfold maxLen;omega
  case qc5=>omega
  case qc6=>simp
  intro v' w1 hown hgrow hnil
  have hb:Below w.heap.size w w1:=((Below.refl _ w).alloc (Nat.le_refl _) _).grown hgrow (by simp) (by intro k hk;simp[Value.ownBlock]at hk;omega)
  clear hgrow hnil
  go_wp2
  go_ret
  exact⟨v',rfl,hown,hb,hb.size⟩
theorem ybgs : ∃ Z PL:Array _,Z.size=200/\PL[0]? = some (0,1)/\PL[1]? = some (1,192)/\PL[2]? = some (193,1)/\PL[3]? = some (194,1)/\PL[4]? = some (195,1)/\PL[5]? = some (196,1)/\PL[8]? = some (199,1)/\Z[197]? = some (.slice none 0 0)/\Z[198]? = some (.bool false) /\
  ∀ parts,Tryz.prog.built 114 parts=Instr.fill (PL[·]?) Z parts:=
 ⟨((Tryz.prog.info? 114).bind (·.zero)).get!.cells,#[(0,1),(1,192),(193,1),(194,1),(195,1),(196,1),(197,1),(198,1),(199,1)],by kernel_rfl,rfl,rfl,rfl,rfl,rfl,rfl,rfl,by kernel_rfl,by kernel_rfl,fun _=>by kernel_rfl⟩
theorem qcl {n:Nat} {place:Nat->Option (Nat × Nat)} {cells:Array Value} {k:Nat} (v:Value) {rest:List (Nat × Value)} (off:Nat) (A:Array Value) (hv:v.cells=A) (hp:place k=some (off,A.size)) (hs:cells.size=n) (hl:off+A.size<=n):
  ∃ cs:Array Value,cs.size=n/\(∀ i,cs[i]? = if off<=i/\i<off+A.size then A[i - off]? else cells[i]?)/\Instr.fill place cells ((k,v) :: rest)=Instr.fill place cs rest:=by
 subst hv hs
 exact⟨ybiz cells off v.cells,ybja _ _ _,ybon _ _ _ hl,ybrw off _ hp rfl hl⟩
theorem ybku (p:Addr) (fo:Fo) (q2 q3:Option Addr) (n2 n3 c2 c3 gd gp:Nat):Tryz.prog.built 114 [(0,.pointer (some p)),(1,.agg (encF fo)),(2,.slice q2 n2 c2),(3,.slice q3 n3 c3),(4,.map (some gd)),(5,.map (some gp)),(8,.int .i64 256)] =
  some (txR (.pointer (some p)) fo (.slice q2 n2 c2) (.slice q3 n3 c3) (.map (some gd)) (.map (some gp)) (.slice none 0 0) false 256):=by
 obtain⟨Z,PL,hZ,p0,p1,p2,p3,p4,p5,p8,z7,z8,hb⟩:=ybgs
 have hA:(encF fo).size=192:=qak fo
 have hg:∀ i,1<=i->i<193->(encF fo)[i - 1]? = some (qdb fo ((i - 1) / 48) ((i - 1) % 48)):=fun i h1 h2=>by
  have:=qbz fo ((i - 1) / 48) ((i - 1) % 48) (by omega) (by omega)
  rwa [show (i - 1) / 48*48+(i - 1) % 48=i - 1 by omega]at this
 generalize encF fo=A at hA hg ⊢
 obtain⟨c1,s1,g1,e1⟩:=qcl (n:=200) (place:=(PL[·]?)) (k:=0) (cells:=Z) (rest:=[(1,.agg A),(2,.slice q2 n2 c2),(3,.slice q3 n3 c3),(4,.map (some gd)),(5,.map (some gp)),(8,.int .i64 256)]) (.pointer (some p)) 0 #[.pointer (some p)] rfl p0 hZ (by simp)
 obtain⟨c2',s2,g2,e2⟩:=qcl (n:=200) (place:=(PL[·]?)) (k:=1) (cells:=c1) (rest:=[(2,.slice q2 n2 c2),(3,.slice q3 n3 c3),(4,.map (some gd)),(5,.map (some gp)),(8,.int .i64 256)]) (.agg A) 1 A rfl (by rw[hA];exact p1) s1 (by rw[hA];omega)
 obtain⟨c3',s3,g3,e3⟩:=qcl (n:=200) (place:=(PL[·]?)) (k:=2) (cells:=c2') (rest:=[(3,.slice q3 n3 c3),(4,.map (some gd)),(5,.map (some gp)),(8,.int .i64 256)]) (.slice q2 n2 c2) 193 #[.slice q2 n2 c2] rfl p2 s2 (by simp)
 obtain⟨c4,s4,g4,e4⟩:=qcl (n:=200) (place:=(PL[·]?)) (k:=3) (cells:=c3') (rest:=[(4,.map (some gd)),(5,.map (some gp)),(8,.int .i64 256)]) (.slice q3 n3 c3) 194 #[.slice q3 n3 c3] rfl p3 s3 (by simp)
 obtain⟨c5,s5,g5,e5⟩:=qcl (n:=200) (place:=(PL[·]?)) (k:=4) (cells:=c4) (rest:=[(5,.map (some gp)),(8,.int .i64 256)]) (.map (some gd)) 195 #[.map (some gd)] rfl p4 s4 (by simp)
 obtain⟨c6,s6,g6,e6⟩:=qcl (n:=200) (place:=(PL[·]?)) (k:=5) (cells:=c5) (rest:=[(8,.int .i64 256)]) (.map (some gp)) 196 #[.map (some gp)] rfl p5 s5 (by simp)
 obtain⟨c7,s7,g7,e7⟩:=qcl (n:=200) (place:=(PL[·]?)) (k:=8) (cells:=c6) (rest:=[]) (.int .i64 256) 199 #[.int .i64 256] rfl p8 s6 (by simp)
 rw[hb]
 rw[e1]
 rw[e2]
 rw[e3]
 rw[e4]
 rw[e5]
 rw[e6]
 rw[e7]
 rw[Instr.fill]
 refine congrArg some ?_
 clear e1 e2 e3 e4 e5 e6 e7 hb p0 p1 p2 p3 p4 p5 p8
 apply Array.ext_getElem?
 intro i
 by_cases hi:i<200
 ·rw[qhd _ _ _ _ _ _ _ _ _ _ hi]
  simp only[List.size_toArray,List.length_cons,List.length_nil,hA]at g1 g2 g3 g4 g5 g6 g7
  rw[g7,g6,g5,g4,g3,g2,g1]
  unfold qnv
  by_cases h1:193<=i
  ·have:i=193\/i=194\/i=195\/i=196\/i=197\/i=198\/i=199:=by omega
   rcases this with rfl | rfl | rfl | rfl | rfl | rfl | rfl <;> simp[z7,z8]
  ·rw[if_neg (by omega),if_neg (by omega),if_neg (by omega),if_neg (by omega),if_neg (by omega)]
   by_cases h0:i=0
   ·subst h0;simp
   ·rw[if_pos (by omega),if_neg h0,if_pos (by omega)]
    exact hg i (by omega) (by omega)
 ·rw[Array.getElem?_eq_none (by omega),Array.getElem?_eq_none (by rw[qgm];omega)]
def bgF (w:World) (gf:Nat) (A:Array Value) (rv nv:Value) (E:List Nd) (fo:Fo) (i:Nat) (v:Value) (u:World):Prop:=
 if i=3 then v=.pointer (some ⟨gf,2,none⟩) else if i=4 then v=.agg A else if i=7 then v=.pointer (some ⟨gf,194,none⟩) else if i=8 then v=rv else if i=11 then v=.pointer (some ⟨gf,195,none⟩) else if i=12 then v=nv
 else if i=13 then u.ownsRow w.heap.size 103 8 v E.length (qax E)
 else if i=14\/i=15 then ∃ g,v=.map (some g)/\w.heap.size<=g/\MapL Tryz.prog 3 u g []
 else if i=16 then ∃ n c gd gp,v=.agg (txR (.pointer (some ⟨gf,0,none⟩)) fo rv (.slice (some ⟨n,0,none⟩) 32 c) (.map (some gd)) (.map (some gp)) (.slice none 0 0) false 256)/\u.ownsRow w.heap.size 103 8 (.slice (some ⟨n,0,none⟩) 32 c) 32 (qax E) /\
  w.heap.size<=gd/\w.heap.size<=gp/\gd ≠ gp/\MapL Tryz.prog 3 u gd []/\MapL Tryz.prog 3 u gp []
 else if i=17\/i=18 then ∃ gt n c gd gp,v=.pointer (some ⟨gt,0,none⟩)/\w.heap.size<=gt/\u.heap[gt]? = some (.cells (txR (.pointer (some ⟨gf,0,none⟩)) fo rv (.slice (some ⟨n,0,none⟩) 32 c) (.map (some gd)) (.map (some gp)) (.slice none 0 0) false 256) 114 (0,0))/\u.ownsRow w.heap.size 103 8 (.slice (some ⟨n,0,none⟩) 32 c) 32 (qax E) /\
  w.heap.size<=gd/\w.heap.size<=gp/\gd ≠ gp/\MapL Tryz.prog 3 u gd []/\MapL Tryz.prog 3 u gp []
 else v=.pointer (some ⟨gf,0,none⟩)
theorem ybqv {w:World} {gf:Nat} {A:Array Value} {rv nv:Value} {E:List Nd} {fo:Fo} (j:Nat) (v:Value) (u u':World) (hb:Below u.heap.size u u') (h:bgF w gf A rv nv E fo j v u):bgF w gf A rv nv E fo j v u':=by
 unfold bgF at h ⊢
 by_cases c:j=3
 ·rw[if_pos c]at h ⊢;exact h
 rw[if_neg c]at h ⊢;clear c
 by_cases c:j=4
 ·rw[if_pos c]at h ⊢;exact h
 rw[if_neg c]at h ⊢;clear c
 by_cases c:j=7
 ·rw[if_pos c]at h ⊢;exact h
 rw[if_neg c]at h ⊢;clear c
 by_cases c:j=8
 ·rw[if_pos c]at h ⊢;exact h
 rw[if_neg c]at h ⊢;clear c
 by_cases c:j=11
 ·rw[if_pos c]at h ⊢;exact h
 rw[if_neg c]at h ⊢;clear c
 by_cases c:j=12
 ·rw[if_pos c]at h ⊢;exact h
 rw[if_neg c]at h ⊢;clear c
 by_cases c:j=13
 ·rw[if_pos c]at h ⊢;exact qap h hb
 rw[if_neg c]at h ⊢;clear c
 by_cases c:j=14\/j=15
 ·rw[if_pos c]at h ⊢;obtain⟨g,e,h1,h2⟩:=h;exact⟨g,e,h1,h2.of_block (hb.block _ h2.lt)⟩
 rw[if_neg c]at h ⊢;clear c
 by_cases c:j=16
 ·rw[if_pos c]at h ⊢;obtain⟨n,c,gd,gp,e,h1,h2,h3,h4,h5,h6⟩:=h;exact⟨n,c,gd,gp,e,qap h1 hb,h2,h3,h4,h5.of_block (hb.block _ h5.lt),h6.of_block (hb.block _ h6.lt)⟩
 rw[if_neg c]at h ⊢;clear c
 by_cases c:j=17\/j=18
 ·rw[if_pos c]at h ⊢;obtain⟨gt,n,c,gd,gp,e,h0,hr,h1,h2,h3,h4,h5,h6⟩:=h;exact⟨gt,n,c,gd,gp,e,h0,qaa hb hr,qap h1 hb,h2,h3,h4,h5.of_block (hb.block _ h5.lt),h6.of_block (hb.block _ h6.lt)⟩
 rw[if_neg c]at h ⊢;clear c
 exact h
theorem qmn {w:World} {gf:Nat} {s:Fs} {F:Nat->Prop} {B:Nat} {a:Addr} (h:FsAt w gf s F B a):
  Calls Tryz.prog 32 #[.pointer (some ⟨gf,0,none⟩)] w (fun e w'=>∃ gt T,e=.returned (.pointer (some ⟨gt,0,none⟩))/\Below w.heap.size w w'/\TxAt w' w.heap.size F gt (.pointer (some ⟨gf,0,none⟩)) ⟨s.fo,s.rows,s.nodes,[],[],[],false,256⟩ T):=by
 have H:=Lib.hid h
 obtain⟨⟨gl,rv,nv,bt,bh,E,tl,FD,h1,h2,h3,h4,h5,h6,h7,h8,h9,h10,h11,h12,h13,h14,h15,h16,h17⟩,a1,a2,a3,a4,a5,a6,a7⟩:=h
 obtain⟨k0,k1,c194,c195,k196,k197⟩:=qev h1
 have hE:E.length=32:=by rw[h9.1];exact a2
 obtain⟨qr,cr,hrv⟩:∃ qr cr,rv=.slice qr s.rows.length cr:=by
  obtain⟨_,⟨hv,a0,c0,rfl⟩ | ⟨g,o,c,rfl,_⟩⟩:=h7.now
  ·exact⟨a0,c0,by rw[hv]⟩
  ·exact⟨_,_,rfl⟩
 obtain⟨A,HA⟩:∃ A,Hid (A=encF s.fo):=⟨_,rfl⟩
 have HAS:Hid (A.size=192):=by rw[HA.out];exact qak _
 obtain⟨R,HR⟩:∃ R,Hid (fsR (.pointer (some a)) (.pointer (some ⟨gl,0,none⟩)) s.fo rv nv (.map (some bt)) (.map (some bh))=R):=⟨_,rfl⟩
 have HRP:Hid (∀ j,j<A.size->R[2+j]? = A[j]?):=by rw[<-HR.out,HA.out];exact ybma _ _ _ _ _ _ _
 rw[HR.out]at h1
 have HROW:=Lib.hid h1
 have H8:=Lib.hid h8
 have H7:=Lib.hid h7
 have H9:=Lib.hid h9
 clear h2 h3 h4 h5 h6 h10 h11 h12 h13 h14 h15 h16 h17 a1 a2 a3 a4 a5 a6 h1 h7 h8 h9
 go_enter Tryz.func32,Tryz.ntmps32
 go_upto_region 1 with fail
 refine qti (by kernel_rfl) (by kernel_rfl) (fun u u'=>Below u.heap.size u u') ((Below.refl _ _).drew) (fun u u' h1 h2=>Below.step h1 h2) 21 (fun i=>if i=18 then 2 else i+3) (bgF w gf A rv nv E s.fo) (fun i j=>(i=14/\j=15)\/(i=15/\j=14)) (fun k v=>k=0/\v=.pointer (some ⟨gf,0,none⟩)) ybqv (by omega) (fun i j hij=>?_) (fun i k v hk=>?_) (by kernel_rfl) ⟨rfl,rfl,fun k v hk=>?_⟩ ?_ ?_
 ·split <;> split <;> omega
 ·split <;> omega
 ·obtain⟨rfl,rfl⟩:=hk;rfl
 ·intro D b u hI i o ho hD ha
  have hpf:=hI.old 0 _ ⟨rfl,rfl⟩
  match i,ho,hD,ha with
  | 0,ho,hD,ha=>
   simp only[List.getElem?_cons_zero,Option.some.injEq]at ho
   subst ho
   exact qaq (.tmp 0) rfl ⟨_,rfl,Below.refl _ _,hpf,by omega⟩
  | 1,ho,hD,ha=>
   simp only[List.getElem?_cons_zero,List.getElem?_cons_succ,Option.some.injEq]at ho
   subst ho
   exact qaq (.tmp 0) rfl ⟨_,rfl,Below.refl _ _,hpf,by omega⟩
  | 2,ho,hD,ha=>
   simp only[List.getElem?_cons_zero,List.getElem?_cons_succ,Option.some.injEq]at ho
   subst ho
   have e1:=hI.fact 1 (ha ⟨1,.data⟩ (by simp) rfl)
   exact qbx (.tmp 4) rfl ⟨gf,0,none⟩ e1 ⟨_,rfl,Below.refl _ _,rfl,by omega⟩
  | 3,ho,hD,ha=>
   simp only[List.getElem?_cons_zero,List.getElem?_cons_succ,Option.some.injEq]at ho
   subst ho
   have e2:=hI.fact 2 (ha ⟨2,.data⟩ (by simp) rfl)
   exact qae (v:=.pointer (some ⟨gf,2,none⟩)) (w':=u) (by unfold execOp;simp only[Act.eval];rw[show b.tmps.getD 5 undef=_ from e2];simp[go_sem]) ⟨_,rfl,Below.refl _ _,rfl,by omega⟩
  | 4,ho,hD,ha=>
   simp only[List.getElem?_cons_zero,List.getElem?_cons_succ,Option.some.injEq]at ho
   subst ho
   have e3:=hI.fact 3 (ha ⟨3,.data⟩ (by simp) rfl)
   refine wp_load_mid 80 (.tmp 6) rfl gf 2 e3 A.toList _ (fun j v hv=>?_) forT rfl (by rw[Array.length_toList,HAS.out];exact forI) ?_
   ·have hjA:j<A.size:=by
     have:=(List.getElem?_eq_some_iff.1 hv).1
     simpa using this
    rw[cell_of_row _ _ _ _ _ _ (qaa hI.b HROW.out),HRP.out j hjA,<-hv,Array.getElem?_toList]
   ·exact⟨_,rfl,Below.refl _ _,rfl,by omega⟩
  | 5,ho,hD,ha=>
   simp only[List.getElem?_cons_zero,List.getElem?_cons_succ,Option.some.injEq]at ho
   subst ho
   exact qaq (.tmp 0) rfl ⟨_,rfl,Below.refl _ _,hpf,by omega⟩
  | 6,ho,hD,ha=>
   simp only[List.getElem?_cons_zero,List.getElem?_cons_succ,Option.some.injEq]at ho
   subst ho
   have e5:=hI.fact 5 (ha ⟨5,.data⟩ (by simp) rfl)
   exact qbx (.tmp 8) rfl ⟨gf,0,none⟩ e5 ⟨_,rfl,Below.refl _ _,rfl,by omega⟩
  | 7,ho,hD,ha=>
   simp only[List.getElem?_cons_zero,List.getElem?_cons_succ,Option.some.injEq]at ho
   subst ho
   have e6:=hI.fact 6 (ha ⟨6,.data⟩ (by simp) rfl)
   exact qae (v:=.pointer (some ⟨gf,194,none⟩)) (w':=u) (by unfold execOp;simp only[Act.eval];rw[show b.tmps.getD 9 undef=_ from e6];simp[go_sem]) ⟨_,rfl,Below.refl _ _,rfl,by omega⟩
  | 8,ho,hD,ha=>
   simp only[List.getElem?_cons_zero,List.getElem?_cons_succ,Option.some.injEq]at ho
   subst ho
   have e7:=hI.fact 7 (ha ⟨7,.data⟩ (by simp) rfl)
   have hc:u.cell? ⟨gf,194,none⟩=some rv:=(hI.b.cell (p:=⟨gf,194,none⟩) (qac HROW.out)).trans c194
   exact qae (v:=rv) (w':=u) (by unfold execOp;simp only[Act.eval];rw[show b.tmps.getD 10 undef=_ from e7];simp[go_sem,hc]) ⟨_,rfl,Below.refl _ _,rfl,by omega⟩
  | 9,ho,hD,ha=>
   simp only[List.getElem?_cons_zero,List.getElem?_cons_succ,Option.some.injEq]at ho
   subst ho
   exact qaq (.tmp 0) rfl ⟨_,rfl,Below.refl _ _,hpf,by omega⟩
  | 10,ho,hD,ha=>
   simp only[List.getElem?_cons_zero,List.getElem?_cons_succ,Option.some.injEq]at ho
   subst ho
   have e9:=hI.fact 9 (ha ⟨9,.data⟩ (by simp) rfl)
   exact qbx (.tmp 12) rfl ⟨gf,0,none⟩ e9 ⟨_,rfl,Below.refl _ _,rfl,by omega⟩
  | 11,ho,hD,ha=>
   simp only[List.getElem?_cons_zero,List.getElem?_cons_succ,Option.some.injEq]at ho
   subst ho
   have e10:=hI.fact 10 (ha ⟨10,.data⟩ (by simp) rfl)
   exact qae (v:=.pointer (some ⟨gf,195,none⟩)) (w':=u) (by unfold execOp;simp only[Act.eval];rw[show b.tmps.getD 13 undef=_ from e10];simp[go_sem]) ⟨_,rfl,Below.refl _ _,rfl,by omega⟩
  | 12,ho,hD,ha=>
   simp only[List.getElem?_cons_zero,List.getElem?_cons_succ,Option.some.injEq]at ho
   subst ho
   have e11:=hI.fact 11 (ha ⟨11,.data⟩ (by simp) rfl)
   have hc:u.cell? ⟨gf,195,none⟩=some nv:=(hI.b.cell (p:=⟨gf,195,none⟩) (qac HROW.out)).trans c195
   exact qae (v:=nv) (w':=u) (by unfold execOp;simp only[Act.eval];rw[show b.tmps.getD 14 undef=_ from e11];simp[go_sem,hc]) ⟨_,rfl,Below.refl _ _,rfl,by omega⟩
  | 13,ho,hD,ha=>
   simp only[List.getElem?_cons_zero,List.getElem?_cons_succ,Option.some.injEq]at ho
   subst ho
   have e12:=hI.fact 12 (ha ⟨12,.data⟩ (by simp) rfl)
   refine qoh 82 #[.tmp 15] #[92] rfl (fun _ _=>by kernel_rfl) #[nv] (by simp only[List.map_toArray,List.map_cons,List.map_nil,Act.eval];rw[show b.tmps.getD 15 undef=_ from e12];rfl) (fun v w'=>w'.ownsRow u.heap.size 103 8 v E.length (qax E)/\Below u.heap.size u w')
    ((qzb nv E u (H8.out.now.below hI.b) (by omega)).mono fun e w' ⟨v,he,x1,x2,_⟩=>⟨v,he,x1,x2⟩) ?_
   intro v w' hv
   exact⟨_,rfl,hv.2,qnf hv.1 hI.b.size,by omega⟩
  | 14,ho,hD,ha=>
   simp only[List.getElem?_cons_zero,List.getElem?_cons_succ,Option.some.injEq]at ho
   subst ho
   refine qnx _ rfl ⟨_,rfl,(Below.refl _ _).alloc (Nat.le_refl _) _,⟨_,rfl,hI.b.size,MapL.made _⟩,fun j hj hDj=>?_⟩
   obtain rfl:j=15:=by omega
   obtain⟨g,hg,_,hm⟩:=hI.fact 15 hDj
   rw[hg]
   have:=hm.lt
   intro hc
   injection hc with hc
   injection hc with hc
   omega
  | 15,ho,hD,ha=>
   simp only[List.getElem?_cons_zero,List.getElem?_cons_succ,Option.some.injEq]at ho
   subst ho
   refine qnx _ rfl ⟨_,rfl,(Below.refl _ _).alloc (Nat.le_refl _) _,⟨_,rfl,hI.b.size,MapL.made _⟩,fun j hj hDj=>?_⟩
   obtain rfl:j=14:=by omega
   obtain⟨g,hg,_,hm⟩:=hI.fact 14 hDj
   rw[hg]
   have:=hm.lt
   intro hc
   injection hc with hc
   injection hc with hc
   omega
  | 16,ho,hD,ha=>
   simp only[List.getElem?_cons_zero,List.getElem?_cons_succ,Option.some.injEq]at ho
   subst ho
   have e0:=hI.fact 0 (ha ⟨0,.data⟩ (by simp) rfl)
   have e4:=hI.fact 4 (ha ⟨4,.data⟩ (by simp) rfl)
   have e8:=hI.fact 8 (ha ⟨8,.data⟩ (by simp) rfl)
   have d13:=ha ⟨13,.data⟩ (by simp) rfl
   have d14:=ha ⟨14,.data⟩ (by simp) rfl
   have d15:=ha ⟨15,.data⟩ (by simp) rfl
   have e13:u.ownsRow w.heap.size 103 8 (b.tmps.getD 16 undef) E.length (qax E):=hI.fact 13 d13
   obtain⟨gd,e14,hgd,hmd⟩:∃ g,b.tmps.getD 17 undef=.map (some g)/\w.heap.size<=g/\MapL Tryz.prog 3 u g []:=hI.fact 14 d14
   obtain⟨gp,e15,hgp,hmp⟩:∃ g,b.tmps.getD 18 undef=.map (some g)/\w.heap.size<=g/\MapL Tryz.prog 3 u g []:=hI.fact 15 d15
   have hne:b.tmps.getD 17 undef ≠ b.tmps.getD 18 undef:=hI.ne 14 15 (Or.inl ⟨rfl,rfl⟩) d14 d15
   rw[e14,e15]at hne
   obtain⟨n,c,hv16⟩:∃ n c,b.tmps.getD 16 undef=.slice (some ⟨n,0,none⟩) 32 c:=by
    obtain⟨_,⟨hv,h0⟩ | ⟨g,c,cur,hv,_⟩⟩:=id e13
    ·omega
    ·exact⟨g,c,by rw[hv,hE]⟩
   rw[hv16,hE]at e13
   refine qtg _ _ rfl #[(0,.pointer (some ⟨gf,0,none⟩)),(1,.agg A),(2,rv),(3,.slice (some ⟨n,0,none⟩) 32 c),(4,.map (some gd)),(5,.map (some gp)),(8,.int .i64 256)] ?_ (txR (.pointer (some ⟨gf,0,none⟩)) s.fo rv (.slice (some ⟨n,0,none⟩) 32 c) (.map (some gd)) (.map (some gp)) (.slice none 0 0) false 256) ?_ ?_
   ·simp only[List.map_toArray,List.map_cons,List.map_nil,Act.eval]
    rw[show b.tmps.getD 3 undef=_ from e0,show b.tmps.getD 7 undef=_ from e4,show b.tmps.getD 11 undef=_ from e8,hv16,e14,e15]
   ·rw[HA.out,hrv]
    exact ybku _ _ _ _ _ _ _ _ _ _
   ·exact⟨_,rfl,Below.refl _ _,⟨n,c,gd,gp,rfl,e13,hgd,hgp,fun hc=>hne (by rw[hc]),hmd,hmp⟩,by omega⟩
  | 17,ho,hD,ha=>
   simp only[List.getElem?_cons_zero,List.getElem?_cons_succ,Option.some.injEq]at ho
   subst ho
   obtain⟨n,c,gd,gp,e16,q1,q2,q3,q4,q5,q6⟩:=hI.fact 16 (ha ⟨16,.data⟩ (by simp) rfl)
   have hbx:Below u.heap.size u (u.alloc (.cells (txR (.pointer (some ⟨gf,0,none⟩)) s.fo rv (.slice (some ⟨n,0,none⟩) 32 c) (.map (some gd)) (.map (some gp)) (.slice none 0 0) false 256) 114)):=(Below.refl _ _).alloc (Nat.le_refl _) _
   exact ybas 114 (.tmp 19) rfl _ e16 ⟨_,rfl,hbx,⟨_,n,c,gd,gp,rfl,hI.b.size,heap_alloc_new _ _,qap q1 hbx,q2,q3,q4,q5.of_block (hbx.block _ q5.lt),q6.of_block (hbx.block _ q6.lt)⟩,by omega⟩
  | 18,ho,hD,ha=>
   simp only[List.getElem?_cons_zero,List.getElem?_cons_succ,Option.some.injEq]at ho
   subst ho
   obtain⟨gt,n,c,gd,gp,e17,q⟩:=hI.fact 17 (ha ⟨17,.data⟩ (by simp) rfl)
   exact qki (.tmp 20) rfl ⟨_,rfl,Below.refl _ _,⟨gt,n,c,gd,gp,e17,q⟩,by omega⟩
 ·intro D b u hI hall
  obtain⟨gt,n,c,gd,gp,e18,q0,q1,q2,q3,q4,q5,q6,q7⟩:=hI.fact 18 (hall 18 (by simp))
  rename_i K hK
  have hgt:gt<u.heap.size:=qac q1
  have hgn:n<u.heap.size:=(q2.lt n rfl).2
  have hgnw:w.heap.size<=n:=(q2.lt n rfl).1
  have hgd:=q6.lt
  have hgp:=q7.lt
  have hsF':∀ i,i<w.heap.size->(F i\/(i=gt\/i=n\/i=gd\/i=gp))->F i:=fun i hl hi=>by
   rcases hi with hi | hi | hi | hi | hi
   ·exact hi
   all_goals omega
  refine hK _ _ (wp_ret ?_)
  refine bodyPost_ret (v:=.pointer (some ⟨gt,0,none⟩)) ?_ hI.dfs ⟨gt,fun i=>i=gt\/i=n\/i=gd\/i=gp,rfl,hI.b,?_⟩
  ·have e2:b.tmps.getD 2 undef=.pointer (some ⟨gt,0,none⟩):=e18
   have e3:b.tmps[2]? = some (.pointer (some ⟨gt,0,none⟩)):=by
    rw[Array.getElem?_eq_getElem (by rw[hI.size];omega)]
    rw[<-e2]
    simp[hI.size]
   simp[results,Tryz.results32,go_sem,e3]
  ·refine qbp.at (rv:=rv) (gn:=n) (cn:=c) (gd:=gd) (gp:=gp) (gv:=.slice none 0 0) (E:=E) (pl:=[]) ⟨q1,?_,q2,?_,q6,q7,qas.nil _ _,q5,⟨rfl,Or.inl ⟨rfl,rfl⟩⟩,Or.inr (Or.inl rfl),Or.inr (Or.inr (Or.inl rfl)),Or.inr (Or.inr (Or.inr rfl)),fun b hb=>by cases hb⟩ (Or.inl rfl) (by rw[<-H9.out.1];exact hE) ?_ ?_ (by simp) (by simp) (by simp) a7 (by simp)
   ·exact (H7.out.grow hsF').below hI.b
   ·exact (H9.out.grow hsF').keep (qab.of_below hI.b)
   ·rintro i (rfl | rfl | rfl | rfl) <;> assumption
   ·rintro i (rfl | rfl | rfl | rfl) <;> assumption
end Go.Proofs.YtpoglnpjadmbpaaGreatDoor
