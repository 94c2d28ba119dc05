/- Part of the proofs of FsLinks: the texts DirFind, DirDel, DirPut, DirOut, DirOutN, DirFindsLaw. -/
import Derived.Test.YtpoglnpjadmbpaaGreatDoorKA27
import Derived.Shelf.SlicesQ.Reverse
import Derived.Shelf.SlicesQ.Contains
import Derived.Ground.SlgnProg
import Derived.Ground.SlgqProg
import Derived.Laws.StructEq
set_option maxHeartbeats 16000000
set_option maxRecDepth 100000
namespace Go.Proofs.YtpoglnpjadmbpaaGreatDoor
open Go.RowKit
def qrk (D:List Int) (n:Nat) (name:ByteArray):Nat->Nat->Nat->Int × Nat × Int
 | 0,_,k=>(0,k,4)
 | f+1,at_,k=>if at_<n then (if cmpB name (rdE D at_).1=0 then ((rdE D at_).2,k+1,0) else if cmpB name (rdE D at_).1<0 then qrk D n name f (2*at_+1) (k+1) else qrk D n name f (2*at_+2) (k+1)) else (0,k,4)
def qee (D:List Int) (name:ByteArray):Int × Nat × Int:=qrk D (D.length / 16) name 7 0 0
def ybkb (r:Int × Nat × Int) (w:World) (e:Ending) (w':World):Prop:=e=.returned (.tuple #[.int .i64 r.1,.int .i64 (r.2.1:Int),.int .i64 r.2.2])/\Below w.heap.size w w'
theorem ybgz (a b:ByteArray):cmpB a b = -1\/cmpB a b=0\/cmpB a b=1:=by
 unfold cmpB;split
 ·exact Or.inl rfl
 ·split
  ·exact Or.inr (Or.inl rfl)
  ·exact Or.inr (Or.inr rfl)
def qxl (D:List Int) (n:Nat) (name:ByteArray) (r:Int × Nat × Int) (at_ k:Nat):Prop:=qrk D n name (7 - k) at_ k=r/\2 ^ k<=at_+1/\k<=7
theorem qxl.stop {D:List Int} {n:Nat} {name:ByteArray} {r:Int × Nat × Int} {at_ k:Nat} (h:qxl D n name r at_ k) (ha:n<=at_):r=(0,k,4):=by
 obtain⟨h1,_,_⟩:=h
 rw[<-h1]
 cases 7 - k with
 | zero=>rfl
 | succ f=>rw[qrk,if_neg (by omega)]
theorem qxl.small {D:List Int} {n:Nat} {name:ByteArray} {r:Int × Nat × Int} {at_ k:Nat} (h:qxl D n name r at_ k) (ha:at_<n) (hn:n<=32):k<=5:=by
 obtain⟨_,h2,h3⟩:=h
 rcases Nat.lt_or_ge 5 k with h4 | h4
 ·have:2 ^ 6<=2 ^ k:=Nat.pow_le_pow_right (by omega) h4
  omega
 ·exact h4
theorem qxl.step {D:List Int} {n:Nat} {name:ByteArray} {r:Int × Nat × Int} {at_ k:Nat} (h:qxl D n name r at_ k) (ha:at_<n) (hn:n<=32):r=if cmpB name (rdE D at_).1=0 then ((rdE D at_).2,k+1,0) else if cmpB name (rdE D at_).1<0 then qrk D n name (7 - (k+1)) (2*at_+1) (k+1) else qrk D n name (7 - (k+1)) (2*at_+2) (k+1):=by
 have h5:=h.small ha hn
 obtain⟨h1,_,_⟩:=h
 have e:7 - k=(7 - (k+1))+1:=by omega
 rw[e,qrk,if_pos ha]at h1
 exact h1.symm
theorem ybry (v:Value) (D:List Int) (name:ByteArray) (w:World) (h:qbk w v D) (hD:qer D) (hok:qcn D=true):
  Calls Tryz.prog 102 #[v,.string name] w (ybkb (qee D name) w):=by
 obtain⟨hm,h512,_,_⟩:=(qcs D).1 hok
 obtain⟨N,HN⟩:∃ N,Hid (D.length=N):=⟨_,rfl⟩
 obtain⟨p,cp,rfl⟩:=qcq h.1 N HN.out
 have HLI:=Lib.hid (qqg (.slice p N cp) D w h hD (by omega))
 obtain⟨n,Hn⟩:∃ n,Hid (N / 16=n):=⟨_,rfl⟩
 rw[HN.out]at hm h512
 have hn16:N=16*n:=by have:=Hn.out;omega
 have hn32:n<=32:=by omega
 have HNN:=Lib.hid hn16
 obtain⟨r,Hr⟩:∃ r,Hid (qee D name=r):=⟨_,rfl⟩
 rw[Hr.out]
 have HF0:Hid (qxl D n name r 0 0):=by
  refine⟨?_,by omega,by omega⟩
  have:=Hr.out
  unfold qee at this
  rw[HN.out,Hn.out]at this
  exact this
 have HIN:=Lib.hid h
 have HD:=Lib.hid hD
 have HOK:=Lib.hid hok
 clear h hD hok hm hn16
 go_enter Tryz.func102,Tryz.ntmps102
 go_wp2_with fail
 refine HLI.out.mono ?_
 intro e w1 hres
 obtain⟨_,ov,rfl,_,hb1⟩ | ⟨hbad,_⟩:=hres
 case inr=>rw[HOK.out]at hbad;cases hbad
 have HB1:=Lib.hid hb1
 clear hb1
 go_wp2
 go_loopw [5,9] (fun s5 s9 wr=>∃ at_ k:Nat,at_<=1000/\k<=7/\s9=.int .i64 (at_:Int)/\s5=.int .i64 (k:Int)/\Hid (qxl D n name r at_ k)/\Below w.heap.size w wr) (fun s5 s9 _=>n - (intOf s9).toNat)
 case atStart=>exact⟨0,0,by omega,by omega,rfl,rfl,HF0,HB1.out⟩
 case round=>
  obtain⟨at_,k,hat,hk,rfl,rfl,HFL,HB⟩:=hrel
  obtain⟨b16,hb16⟩:∃ b,16*at_=b:=⟨_,rfl⟩
  have w4:IntKind.i64.wrap (16*(at_:Int))=(b16:Int):=by rw[IntWalk.i64_in _ (by omega)];omega
  by_cases hlt:at_<n
  ·have hltb:(b16:Int)<(N:Int):=by have:=HNN.out;omega
   obtain⟨k1,Hk1⟩:∃ a,Hid (k+1=a):=⟨_,rfl⟩
   obtain⟨a1,Ha1⟩:∃ a,Hid (2*at_+1=a):=⟨_,rfl⟩
   obtain⟨a2,Ha2⟩:∃ a,Hid (2*at_+2=a):=⟨_,rfl⟩
   have w0:IntKind.i64.wrap ((k:Int)+1)=(k1:Int):=by rw[IntWalk.i64_in _ (by omega)];have:=Hk1.out;omega
   have w1:IntKind.i64.wrap (2*(at_:Int))=2*(at_:Int):=IntWalk.i64_in _ (by omega)
   have w2:IntKind.i64.wrap (2*(at_:Int)+1)=(a1:Int):=by rw[IntWalk.i64_in _ (by omega)];have:=Ha1.out;omega
   have w3:IntKind.i64.wrap (2*(at_:Int)+2)=(a2:Int):=by rw[IntWalk.i64_in _ (by omega)];have:=Ha2.out;omega
   obtain⟨x1,Hx1⟩:∃ x,Hid ((rdE D at_).1=x):=⟨(rdE D at_).1,rfl⟩
   obtain⟨x2,Hx2⟩:∃ x,Hid ((rdE D at_).2=x):=⟨(rdE D at_).2,rfl⟩
   have hrow:=ybow (.slice p N cp) D wr (HIN.out.below HB) HD.out at_ (by rw[HN.out];have:=HNN.out;omega) (by rw[HN.out];omega)
   rw[Hx1.out,Hx2.out]at hrow
   have HROW:=Lib.hid hrow
   obtain⟨c,Hc⟩:∃ c,Hid (cmpB name x1=c):=⟨_,rfl⟩
   have HCMP:Hid (∀ W:World,Calls Tryz.prog 121 #[.string name,.string x1] W fun e w'=>e=.returned (.int .i64 c)/\W=w'):=fun W=>by
    rw[<-Hc.out];exact qra name x1 W
   have hst:=HFL.out.step hlt hn32
   rw[Hx1.out,Hx2.out,Hc.out,Hk1.out,Ha1.out,Ha2.out]at hst
   have hk5:=HFL.out.small hlt hn32
   have HST:=Lib.hid hst
   have hpw:2 ^ k1<=a1+1:=by
    have h1:=HFL.out.2.1
    rw[<-Hk1.out,Nat.pow_succ];have:=Ha1.out;omega
   have HPW:=Lib.hid hpw
   have hk17:k1<=7:=by have:=Hk1.out;omega
   have ha1:a1<=1000:=by have:=Ha1.out;omega
   have ha2:a2<=1000:=by have:=Ha2.out;omega
   have hm1:n - a1<n - at_:=by have:=Ha1.out;omega
   have hm2:n - a2<n - at_:=by have:=Ha2.out;omega
   have HPW2:Hid (2 ^ k1<=a2+1):=by show _<=_;have:=Ha1.out;have:=Ha2.out;omega
   have hcs:=ybgz name x1
   rw[Hc.out]at hcs
   clear hrow hst hpw
   go_wp2_with fail
   refine HROW.out.mono ?_
   rintro e w2 ⟨rfl,hb2⟩
   have HB2:Hid (Below w.heap.size w w2):=Below.step HB hb2
   have HB3:Hid (Below w.heap.size w (w2.alloc (.cells #[.string x1,.int .i64 x2] 100))):=HB2.out.alloc HB2.out.size _
   clear hb2
   go_wp2_with fail
   refine (HCMP.out _).mono ?_
   rintro e w' ⟨rfl,rfl⟩
   rcases hcs with rfl | rfl | rfl
   ·go_wp2
    go_roundw
    case rel=>exact⟨a1,k1,ha1,hk17,rfl,rfl,⟨by rw[HST.out];rfl,HPW.out,hk17⟩,HB3.out⟩
    case measure=>simp[intOf];omega
   ·have hr:r=(x2,k1,0):=by rw[HST.out];rfl
    subst hr
    go_wp2
    go_returns
    exact⟨rfl,HB3.out⟩
   ·go_wp2
    go_roundw
    case rel=>exact⟨a2,k1,ha2,hk17,rfl,rfl,⟨by rw[HST.out];rfl,HPW2.out,hk17⟩,HB3.out⟩
    case measure=>simp[intOf];omega
  ·have hltb:¬ (b16:Int)<(N:Int):=by have:=HNN.out;omega
   have hr:=HFL.out.stop (by omega)
   subst hr
   go_wp2
   go_returns
   exact⟨rfl,HB⟩
theorem entZ : ∀ w,(zeroValue 100).run Tryz.prog w=.ok (.agg #[.string { data:=#[] },.int .i64 0]) w:=fun _=>by kernel_rfl
section
variable {P : Program}
theorem qla (w:World) (t e:TypeId) (ht:P.underlying t=some (.slice e)) (hv:∀ w,(zeroValue e).run P w=.ok (.agg #[.string { data:=#[] },.int .i64 0]) w)
  (g o n c:Nat) (cur:Array Value) (ct:TypeId) (hn:0<n) (hg:w.heap[g]? = some (.cells cur ct (0,0))) (hfit:o+n*2<=cur.size):
  ∃ zs:List Value,zs.length=n*2/\∀ ty,(Builtin.clear_ #[t] ty #[.slice (some ⟨g,o,none⟩) n c]).run P w=.ok (.tuple #[]) (w.setRow g (cur.toList.take o++zs++cur.toList.drop (o+zs.length)).toArray):=by
 have hlen:((Builtin.zeroCells #[.string { data:=#[] },.int .i64 0] n).toList).length=n*2:=by rw[Array.length_toList,size_zeroCells];rfl
 have hone:∀ v ∈ (Builtin.zeroCells #[.string { data:=#[] },.int .i64 0] n).toList,v.oneCell'=true:=by
  intro v hv
  simp only[Builtin.zeroCells,Array.toList_map,List.mem_map]at hv
  obtain⟨i,_,rfl⟩:=hv
  have h2:i % 2<2:=Nat.mod_lt _ (by omega)
  show (#[Value.string { data:=#[] },Value.int .i64 0][i % 2]!).oneCell'=true
  rcases (by omega:i % 2=0\/i % 2=1) with h | h <;> rw[h] <;> rfl
 refine⟨_,hlen,fun ty=>?_⟩
 have hst:=run_storeCells_at P g o ct (Builtin.zeroCells #[.string { data:=#[] },.int .i64 0] n).toList 0 cur w hg (by rw[hlen];omega) hone
 simp only[Nat.add_zero]at hst
 obtain⟨m,rfl⟩:∃ m,n=m+1:=⟨n - 1,by omega⟩
 simp[Builtin.clear_,run_underlying ht,hv,Value.cells,hst]
end
theorem qhr {B:Nat} {a w:World} (h:Below B a w) {g:Nat} (hp:B<=g) (cs:Array Value):Below B a (w.setRow g cs):=
 ⟨h.os,h.tape,h.output,by have:=h.size;simp only[World.setRow,Array.size_modify];exact this,fun k hk=>by rw[setRow_other _ _ _ _ (by omega)];exact h.block k hk⟩
theorem qxy (base:Nat) (v:Value) (l:List En) (w:World) (hown:w.ownsRow base 100 2 v l.length (ents l)) (i:Nat) (hi:i<l.length) (hl:l.length<=1000000) (j:Nat) (hj:i+1=j) (hbw:base<=w.heap.size):
  Calls Tryz.prog 149 #[v,.int .i64 (i:Int),.int .i64 (j:Int)] w fun e w'=>∃ v',e=.returned v'/\w'.ownsRow base 100 2 v' (l.eraseIdx i).length (ents (l.eraseIdx i))/\Below base w w':=by
 have _:=hbw
 obtain⟨n,HN⟩:∃ n,Hid (n=l.length):=⟨_,rfl⟩
 rw[<-HN.out]at hi hl hown
 obtain⟨m,Hm⟩:∃ m,Hid (m+1=n):=⟨n - 1,by show _=_;omega⟩
 obtain⟨hxl,⟨_,h0⟩ | ⟨g,cap,cur,rfl,hg,hh,hc,hmx,hs,ht⟩⟩:=hown
 ·omega
 obtain⟨i0,hi0,hz0,hz1,hz2⟩:=info_parts qrh
 have hel:(l.eraseIdx i).length=m:=by rw[List.length_eraseIdx,if_pos (by rw[<-HN.out];exact hi),<-HN.out];have:=Hm.out;omega
 have hee:ents (l.eraseIdx i)=ents (l.take i)++ents (l.drop j):=by rw[List.eraseIdx_eq_take_drop_succ,qed,hj]
 have htk:(ents (l.take i)).length=i*2:=by rw[qfo,List.length_take,<-HN.out];congr 1;omega
 have hdk:(ents (l.drop j)).length=(n - j)*2:=by rw[qfo,List.length_drop,<-HN.out]
 have hnews:∀ (q:Nat) (u:Value),(ents (l.drop j))[q]? = some u->w.drew.cell? ⟨g,j*2+q,none⟩=some u:=fun q u hq=>by
  have hq1:=(List.getElem?_eq_some_iff.1 hq).1
  rw[hdk]at hq1
  show w.cell? ⟨g,j*2+q,none⟩=some u
  rw[cell_of_row _ _ _ _ _ _ hh]
  have e:ents l=ents (l.take j)++ents (l.drop j):=by rw[<-qed,List.take_append_drop]
  have e2:(ents (l.take j)).length=j*2:=by rw[qfo,List.length_take,<-HN.out];congr 1;omega
  have h1:(ents l)[j*2+q]? = some u:=by rw[e,List.getElem?_append_right (by omega),e2,show j*2+q - j*2=q by omega];exact hq
  rw[<-ht,List.getElem?_take,if_pos (by omega)]at h1
  simpa using h1
 have hadd:∀ (b o q:Nat),(⟨b,o,none⟩:Addr).add q=⟨b,o+q,none⟩:=fun b o q=>by unfold Addr.add;split <;> simp_all
 have hml:i+(n - j)=m:=by have:=Hm.out;omega
 obtain⟨R1,HR1⟩:∃ R,Hid ((cur.toList.take (i*2)++ents (l.drop j)++cur.toList.drop (i*2+(n - j)*2)).toArray=R):=⟨_,rfl⟩
 have hload:(loadCellsFrom ⟨g,j*2,none⟩ 0 ((n - j)*2) #[]).run Tryz.prog w.drew=.ok (ents (l.drop j)).toArray w.drew:=by
  have:=run_loadCells_list (P:=Tryz.prog) (w:=w.drew) ⟨g,j*2,none⟩ (ents (l.drop j)) (fun q u hq=>by rw[hadd];exact hnews q u hq)
  rw[hdk]at this
  exact this
 have hstore:(storeCells ⟨g,i*2,none⟩ (ents (l.drop j))).run Tryz.prog w.drew=.ok () (w.drew.setRow g R1):=by
  have:=run_storeCells_at (P:=Tryz.prog) g (i*2) 100 (ents (l.drop j)) 0 cur w.drew hh (by rw[hdk,hs];omega) (qvy _)
  rw[hdk,Nat.add_zero,HR1.out]at this
  exact this
 have hR1s:R1.size=cap*2:=by
  rw[<-HR1.out]
  simp only[List.size_toArray,List.length_append,List.length_take,List.length_drop,hdk,Array.length_toList,hs]
  omega
 have hR1t:R1.toList.take (m*2)=ents (l.eraseIdx i):=by
  rw[<-HR1.out,hee]
  have e1:(cur.toList.take (i*2))=ents (l.take i):=by
   have e:ents l=ents (l.take i)++ents (l.drop i):=by rw[<-qed,List.take_append_drop]
   have h1:=congrArg (List.take (i*2)) ht
   rw[List.take_take,e,List.take_append_of_le_length (by omega),List.take_of_length_le (l:=ents (l.take i)) (by omega)]at h1
   rw[<-h1]
   congr 1
   omega
  rw[e1]
  have h2:(ents (l.take i)++ents (l.drop j)).length=m*2:=by rw[List.length_append,htk,hdk];omega
  rw[List.take_append_of_le_length (by omega),List.take_of_length_le (by omega)]
 have hh2:(w.drew.setRow g R1).heap[g]? = some (.cells R1 100 (0,0)):=setRow_heap _ _ _ _ _ _ hh
 obtain⟨w2,HW2⟩:∃ W,Hid (w.drew.setRow g R1=W):=⟨_,rfl⟩
 rw[HW2.out]at hstore hh2
 obtain⟨zs,hzl,hrun⟩:=qla (P:=Tryz.prog) w2 28 100 ybbq entZ g (m*2) (n - m) (cap - m) R1 100 (by have:=Hm.out;omega) hh2 (by rw[hR1s];have:=Hm.out;omega)
 obtain⟨w3,HW3⟩:∃ W,Hid (w2.setRow g (R1.toList.take (m*2)++zs++R1.toList.drop (m*2+zs.length)).toArray=W):=⟨_,rfl⟩
 rw[HW3.out]at hrun
 have HRES:Hid (w3.ownsRow base 100 2 (.slice (some ⟨g,0,none⟩) m cap) (l.eraseIdx i).length (ents (l.eraseIdx i))/\Below base w w3):=by
  constructor
  ·rw[hel]
   refine⟨by rw[qfo,hel],Or.inr ⟨g,cap,_,rfl,hg,by rw[<-HW3.out];exact setRow_heap _ _ _ _ _ _ hh2,by have:=Hm.out;omega,hmx,?_,?_⟩⟩
   ·simp only[List.size_toArray,List.length_append,List.length_take,List.length_drop,hzl,Array.length_toList,hR1s]
    have:=Hm.out
    omega
   ·rw[hR1t]
    have h2:(ents (l.eraseIdx i)).length=m*2:=by rw[qfo,hel]
    rw[List.append_assoc,List.take_append_of_le_length (by omega),List.take_of_length_le (by omega)]
  ·rw[<-HW3.out,<-HW2.out]
   exact qhr (qhr (Below.refl _ _).drew hg _) hg _
 have k1:¬ (i:Int)=(j:Int):=by omega
 have k2:(i:Int)<=(j:Int):=by omega
 have k3:(j:Int)<=(n:Int):=by omega
 have k4:(n:Int)<=(cap:Int):=by omega
 have k5:(i:Int)<=(cap:Int):=by omega
 have k6:(m:Int)<=(n:Int):=by have:=Hm.out;omega
 have k7:¬ cap=m:=by have:=Hm.out;omega
 have k8:¬ n=i:=by omega
 have k9:¬ cap=i:=by omega
 have HHH:=Lib.hid hh
 have HEE:=Lib.hid hee
 have HT:=Lib.hid ht
 have HSZ:=Lib.hid hs
 have HTK:=Lib.hid htk
 have HEL:=Lib.hid hel
 clear hnews hadd hel hee htk hdk ht hs hR1s hR1t hh2 hzl
 by_cases hcj:cap=j
 ·have hnj:n=j:=by omega
  have him:i=m:=by have:=Hm.out;omega
  obtain⟨zs2,hzl2,hrun2⟩:=qla (P:=Tryz.prog) w.drew 28 100 ybbq entZ g (i*2) (n - i) (j - i) cur 100 (by omega) HHH.out (by rw[HSZ.out];omega)
  obtain⟨w4,HW4⟩:∃ W,Hid (w.drew.setRow g (cur.toList.take (i*2)++zs2++cur.toList.drop (i*2+zs2.length)).toArray=W):=⟨_,rfl⟩
  rw[HW4.out]at hrun2
  have HRES2:Hid (w4.ownsRow base 100 2 (.slice (some ⟨g,0,none⟩) i j) (l.eraseIdx i).length (ents (l.eraseIdx i))/\Below base w w4):=by
   have hdrop:l.drop j=[]:=List.drop_eq_nil_of_le (by rw[<-HN.out];omega)
   have e0:ents (l.eraseIdx i)=ents (l.take i):=by rw[HEE.out,hdrop];simp[ents]
   have e1:cur.toList.take (i*2)=ents (l.take i):=by
    have e:ents l=ents (l.take i)++ents (l.drop i):=by rw[<-qed,List.take_append_drop]
    have h1:=congrArg (List.take (i*2)) HT.out
    rw[List.take_take,e,List.take_append_of_le_length (by rw[HTK.out];exact Nat.le_refl _),List.take_of_length_le (l:=ents (l.take i)) (by rw[HTK.out];exact Nat.le_refl _)]at h1
    rw[<-h1]
    congr 1
    omega
   constructor
   ·rw[HEL.out]
    refine⟨by rw[qfo,HEL.out],Or.inr ⟨g,j,_,by rw[him],hg,by rw[<-HW4.out];exact setRow_heap _ _ _ _ _ _ HHH.out,by have:=Hm.out;omega,by rw[<-hcj];exact hmx,?_,?_⟩⟩
    ·simp only[List.size_toArray,List.length_append,List.length_take,List.length_drop,hzl2,Array.length_toList,HSZ.out]
     omega
    ·rw[e0,<-him]
     show ((cur.toList.take (i*2)++zs2++cur.toList.drop (i*2+zs2.length))).take (i*2)=_
     rw[e1,List.append_assoc,List.take_append_of_le_length (by rw[HTK.out];exact Nat.le_refl _),List.take_of_length_le (by rw[HTK.out];exact Nat.le_refl _)]
   ·rw[<-HW4.out]
    exact qhr (Below.refl _ _).drew hg _
  have hnj0:n - j=0:=by omega
  clear hload hstore hrun hzl2 hnj him
  go_enter Tryz.func149,Tryz.ntmps149
  go_wp2
  go_still_tail 6,(by kernel_rfl)
  go_wp2_with fail
  go_ret
  exact⟨_,rfl,HRES2.out⟩
 ·go_enter Tryz.func149,Tryz.ntmps149
  go_wp2
  go_still_tail 6,(by kernel_rfl)
  go_wp2
  go_ret
  exact⟨_,rfl,HRES.out⟩
def qho (D:List Int) (x:En):Int:=if okE x=false then 3 else if (outD D).any (fun y=>decide (x.1=y.1))=true then 5 else if (outD D).length=32 then 6 else 0
theorem ybop {D:List Int} {x:En} (h:qcn D=true) (hp:qho D x=0):qct (outD D++[x])=0:=by
 obtain⟨_,h2,_,_⟩:=qgw h
 have h3:=(qce _).1 h2
 unfold qho at hp
 by_cases h4:okE x=false
 ·rw[if_pos h4]at hp;cases hp
 rw[if_neg h4]at hp
 by_cases h5:(outD D).any (fun y=>decide (x.1=y.1))=true
 ·rw[if_pos h5]at hp;cases hp
 rw[if_neg h5]at hp
 by_cases h6:(outD D).length=32
 ·rw[if_pos h6]at hp;cases hp
 rw[qce,List.length_append]
 refine⟨by have:=h3.1;simp;omega,fun y hy=>?_,?_⟩
 ·rcases List.mem_append.1 hy with hy | hy
  ·exact h3.2.1 y hy
  ·rw[List.mem_singleton]at hy;subst hy;simpa using h4
 ·rw[List.map_append,List.nodup_append]
  refine⟨h3.2.2,by simp,fun a ha b hb hab=>h5 ?_⟩
  obtain⟨y,hy,rfl⟩:=List.mem_map.1 ha
  simp at hb
  rw[List.any_eq_true]
  exact⟨y,hy,by simp[hab,hb]⟩
def ybvx (D:List Int) (x:En) (w:World) (e:Ending) (w':World):Prop:=(qho D x=0/\qlu (outD D++[x]) w e w')\/(qho D x ≠ 0/\e=.returned (.tuple #[.slice none 0 0,.int .i64 (qho D x)])/\Below w.heap.size w w')
theorem ybob {w:World} {base B:Nat} {e:TypeId} {size:Nat} {v:Value} {n:Nat} {xs:List Value} (h:w.ownsRow base e size v n xs) (hB:B<=base) {k:Nat} (hk:v.ownBlock=some k):B<=k:=by
 obtain⟨_,⟨hv,_⟩ | ⟨g,cap,cur,hv,hg,_⟩⟩:=h
 ·rw[hv]at hk;simp[Value.ownBlock]at hk
 ·rw[hv]at hk
  have:g=k:=by simpa[Value.ownBlock]using hk
  omega
theorem ybzf (v:Value) (D:List Int) (x:En) (w:World) (h:qbk w v D) (hD:qer D) (hok:qcn D=true):
  Calls Tryz.prog 101 #[v,.agg #[.string x.1,.int .i64 x.2]] w (ybvx D x w):=by
 obtain⟨hm,h512,_,_⟩:=(qcs D).1 hok
 obtain⟨N,HN⟩:∃ N,Hid (D.length=N):=⟨_,rfl⟩
 obtain⟨p,cp,rfl⟩:=qcq h.1 N HN.out
 have HR:=Lib.hid (fun hp:qho D x=0=>ybop hok hp)
 obtain⟨n,HM⟩:∃ n,Hid ((outD D).length=n):=⟨_,rfl⟩
 have hn32:n<=32:=by rw[<-HM.out,(qgw hok).2.2.1];omega
 obtain⟨r,Hr⟩:∃ r,Hid (qho D x=r):=⟨_,rfl⟩
 have HPE:=Hr
 unfold qho at HPE
 unfold ybvx
 rw[Hr.out]
 rw[HM.out]at HPE
 rw[Hr.out]at HR
 obtain⟨x1,x2⟩:=x
 obtain⟨i0,hi0,hz0,hz1,hz2⟩:=info_parts qrh
 have HI:=Lib.hid hi0
 have HZ0:=Lib.hid hz0
 have HZ1:=Lib.hid hz1
 have HZ2:=Lib.hid hz2
 obtain⟨w0,HW0⟩:∃ W,Hid (w.alloc (.cells #[.string x1,.int .i64 x2] 100)=W):=⟨_,rfl⟩
 have hb0:Below w.heap.size w w0:=by rw[<-HW0.out];exact (Below.refl _ _).alloc (Nat.le_refl _) _
 have hx0:w0.heap[w.heap.size]? = some (.cells #[.string x1,.int .i64 x2] 100 (0,0)):=by rw[<-HW0.out];exact heap_alloc_new _ _
 have HLI:=Lib.hid (qqg (.slice p N cp) D w0 (h.below hb0) hD (by omega))
 have HX0:=Lib.hid hx0
 have HB0:=Lib.hid hb0
 have HOK:=Lib.hid hok
 clear h hD hok hi0 hz0 hz1 hz2 hm hb0 hx0
 go_enter Tryz.func101,Tryz.ntmps101
 go_wp2_with fail
 rw[HW0.out]
 refine HLI.out.mono ?_
 intro e w1 hres
 obtain⟨_,ov,rfl,hov,hb1⟩ | ⟨hbad,_⟩:=hres
 case inr=>rw[HOK.out]at hbad;cases hbad
 rw[HM.out]at hov
 obtain⟨q,c,rfl,_⟩:=qat hov
 have hx1:=(hb1.block _ (qac HX0.out)).trans HX0.out
 have a1:w1.cell? ⟨w.heap.size,0,none⟩=some (.string x1):=cell_of_row _ _ _ _ _ _ hx1
 have a2:w1.cell? ⟨w.heap.size,1,none⟩=some (.int .i64 x2):=cell_of_row _ _ _ _ _ _ hx1
 have HX1:=Lib.hid hx1
 have HOV:=Lib.hid hov
 have HB1:Hid (Below w.heap.size w w1):=Below.step HB0.out hb1
 have HZ:Hid (w0.heap.size<=w1.heap.size):=hb1.size
 obtain⟨nm,Hnm⟩:∃ b,Hid (qjs x1=b):=⟨_,rfl⟩
 have HNM:Hid (∀ W:World,Calls Tryz.prog 59 #[.string x1] W fun e w'=>e=.returned (.bool nm)/\W=w'):=fun W=>by
  rw[<-Hnm.out];exact qqh x1 W
 obtain⟨b,Hb⟩:∃ b,Hid ((outD D).any (fun y=>decide (x1=y.1))=b):=⟨_,rfl⟩
 have hei:qdd w1 (.slice q n c) (outD D):=by
  unfold qdd;rw[HM.out];exact qai.of_owns hov
 have hcl:=ybfb 146 qzo (.pointer (some ⟨w.heap.size,0,none⟩)) (fun y=>decide (x1=y.1)) _ (outD D) w1 hei (by rw[HM.out];omega) (fun y _ W hW=>ybuj x1 y w.heap.size W (by rw[hW.cell (block_lt_of_cell a1)];exact a1))
 rw[Hb.out]at hcl
 have HCL:=Lib.hid hcl
 clear hcl hei hx1 hov hb1
 go_wp2_with fail
 refine (HNM.out _).mono ?_
 rintro e w' ⟨rfl,rfl⟩
 cases nm with
 | false=>
  have hr3:r=3:=by rw[<-HPE.out,if_pos];unfold okE;rw[Hnm.out];rfl
  subst hr3
  go_wp2
  go_returns
  exact Or.inr ⟨by omega,rfl,HB1.out⟩
 | true=>
  by_cases h1:x2<1
  ·have hr3:r=3:=by rw[<-HPE.out,if_pos];unfold okE;simp;omega
   subst hr3
   go_wp2
   go_returns
   exact Or.inr ⟨by omega,rfl,HB1.out⟩
  by_cases h2:32<x2
  ·have hr3:r=3:=by rw[<-HPE.out,if_pos];unfold okE;simp;omega
   subst hr3
   go_wp2
   go_returns
   exact Or.inr ⟨by omega,rfl,HB1.out⟩
  have HP2:Hid ((if b=true then 5 else if n=32 then 6 else 0)=r):=by
   have hok:okE (x1,x2)=true:=by unfold okE;rw[Hnm.out];simp;omega
   have h3:=HPE.out
   rw[if_neg (by rw[hok];decide)]at h3
   have h4:((outD D).any fun y=>decide ((x1,x2).1=y.1))=b:=Hb.out
   rw[h4]at h3
   exact h3
  go_wp2_with fail
  refine HCL.out.mono ?_
  rintro e w2 ⟨rfl,hb2⟩
  have HB2:Hid (Below w.heap.size w w2):=Below.step HB1.out hb2
  have HOV2:Hid (w2.ownsRow w0.heap.size 100 2 (.slice q n c) n (ents (outD D))):=qap HOV.out hb2
  have hx2:=(hb2.block _ (qac HX1.out)).trans HX1.out
  have d1:w2.cell? ⟨w.heap.size,0,none⟩=some (.string x1):=cell_of_row _ _ _ _ _ _ hx2
  have d2:w2.cell? ⟨w.heap.size,1,none⟩=some (.int .i64 x2):=cell_of_row _ _ _ _ _ _ hx2
  have hz2:w0.heap.size<=w2.heap.size:=Nat.le_trans HZ.out hb2.size
  clear hb2 hx2
  cases b with
  | true=>
   have hr5:r=5:=HP2.out.symm
   subst hr5
   go_wp2
   go_returns
   exact Or.inr ⟨by omega,rfl,HB2.out⟩
  | false=>
   by_cases h32:n=32
   ·have hr6:r=6:=by have:=HP2.out;rw[if_neg (by decide),if_pos h32]at this;exact this.symm
    subst hr6
    subst h32
    go_wp2
    go_returns
    exact Or.inr ⟨by omega,rfl,HB2.out⟩
   have h32i:¬ (n:Int)=32:=by omega
   have hr0:r=0:=by have:=HP2.out;rw[if_neg (by decide),if_neg h32]at this;exact this.symm
   subst hr0
   have HNB:Hid ((w2.alloc (.cells #[.string x1,.int .i64 x2] 100)).heap[w2.heap.size]? = some (.cells #[.string x1,.int .i64 x2] 100 (0,0))):=heap_alloc_new _ _
   go_wp2_with (at_builtin;refine wpList_append_own _ rfl _ _ 28 rfl w0.heap.size 100 i0 (.agg #[.string { data:=#[] },.int .i64 0]) 2 24 ybbq HI.out HZ0.out HZ1.out HZ2.out rfl (by decide) _ _ _ rfl (HOV2.out.alloc _) ⟨_,0,none⟩ 1 1 [.string x1,.int .i64 x2] rfl rfl (World.news_of_block (cs:=#[.string x1,.int .i64 x2]) (t:=100) (fr:=(0,0)) HNB.out) (by simp[Value.oneCell']) (by unfold maxLen;omega) (by omega) (by simp only[qah];omega) ?_;intro v8 w8 hown hgrow _)
   have hown2:w8.ownsRow w0.heap.size 100 2 v8 (outD D++[(x1,x2)]).length (ents (outD D++[(x1,x2)])):=by
    rw[List.length_append,HM.out,qed];exact hown
   have hb8:Below w.heap.size w w8:=Below.grown (HB2.out.alloc HB2.out.size _) hgrow (by have:=HB2.out.size;simp only[qah];omega) (fun k hk=>ybob HOV2.out HB0.out.size hk)
   have HL:=Lib.hid (ybcn v8 (outD D++[(x1,x2)]) w8 ⟨qai.of_owns hown2,qjx hown2⟩ (HR.out trivial))
   have HB8:=Lib.hid hb8
   clear hown2 hb8 hown hgrow
   refine HL.out.mono ?_
   rintro e w9 ⟨u,rfl,hu,hun,hb9⟩
   have HUN:Hid (∀ b,u.ownBlock=some b->w.heap.size<=b):=fun b hb=>Nat.le_trans HB8.out.size (hun b hb)
   have HU:=Lib.hid hu
   have HB9:Hid (Below w.heap.size w w9):=Below.step HB8.out hb9
   clear hu hb9 hun
   go_wp2
   go_returns
   have HRES:qlu (outD D++[(x1,x2)]) w (.returned (.tuple #[u,.int .i64 0])) w9:=⟨u,rfl,HU.out,HUN.out,HB9.out⟩
   first
    | exact HRES
    | exact Or.inl HRES
    | exact Or.inl ⟨rfl,HRES⟩
theorem ybny {D:List Int} (h:qcn D=true) (i:Nat):qct ((outD D).eraseIdx i)=0:=by
 obtain⟨_,h2,_,_⟩:=qgw h
 have h3:=(qce _).1 h2
 have hs:=List.eraseIdx_sublist (outD D) i
 rw[qce]
 exact⟨Nat.le_trans hs.length_le h3.1,fun x hx=>h3.2.1 x (hs.subset hx),(hs.map (·.1)).nodup h3.2.2⟩
def OutNew (D:List Int) (name:ByteArray) (w:World) (e:Ending) (w':World):Prop:=
 ((∀ x ∈ outD D,decide (name=x.1)=false)/\e=.returned (.tuple #[.slice none 0 0,.int .i64 4])/\Below w.heap.size w w') \/
 (∃ (i:Nat) (hi:i<(outD D).length),decide (name=(outD D)[i].1)=true/\qlu ((outD D).eraseIdx i) w e w')
theorem ybza (v:Value) (D:List Int) (name:ByteArray) (w:World) (h:qbk w v D) (hD:qer D) (hok:qcn D=true):
  Calls Tryz.prog 103 #[v,.string name] w (OutNew D name w):=by
 obtain⟨hm,h512,_,_⟩:=(qcs D).1 hok
 obtain⟨N,HN⟩:∃ N,Hid (D.length=N):=⟨_,rfl⟩
 obtain⟨p,cp,rfl⟩:=qcq h.1 N HN.out
 have HR:=Lib.hid (ybny hok)
 obtain⟨n,HM⟩:∃ n,Hid ((outD D).length=n):=⟨_,rfl⟩
 have hn32:n<=32:=by rw[<-HM.out,(qgw hok).2.2.1];omega
 obtain⟨w0,HW0⟩:∃ W,Hid (w.alloc (.cells #[.string name] 9)=W):=⟨_,rfl⟩
 have hb0:Below w.heap.size w w0:=by rw[<-HW0.out];exact (Below.refl _ _).alloc (Nat.le_refl _) _
 have hx0:w0.heap[w.heap.size]? = some (.cells #[.string name] 9 (0,0)):=by rw[<-HW0.out];exact heap_alloc_new _ _
 have HLI:=Lib.hid (qqg (.slice p N cp) D w0 (h.below hb0) hD (by omega))
 have HX0:=Lib.hid hx0
 have HB0:=Lib.hid hb0
 have HOK:=Lib.hid hok
 clear h hD hok hm hb0 hx0
 go_enter Tryz.func103,Tryz.ntmps103
 go_wp2_with fail
 rw[HW0.out]
 refine HLI.out.mono ?_
 intro e w1 hres
 obtain⟨_,ov,rfl,hov,hb1⟩ | ⟨hbad,_⟩:=hres
 case inr=>rw[HOK.out]at hbad;cases hbad
 have hovl:=hov
 rw[HM.out]at hov
 obtain⟨q,c,rfl,_⟩:=qat hov
 have hx1:=(hb1.block _ (qac HX0.out)).trans HX0.out
 have a1:w1.cell? ⟨w.heap.size,0,none⟩=some (.string name):=cell_of_row _ _ _ _ _ _ hx1
 have HOV:=Lib.hid hovl
 have HB1:Hid (Below w.heap.size w w1):=Below.step HB0.out hb1
 have hz1:w0.heap.size<=w1.heap.size:=hb1.size
 have hei:qdd w1 (.slice q n c) (outD D):=by
  unfold qdd;rw[HM.out];exact qai.of_owns hov
 have hcl:=ybfd 148 qzk (.pointer (some ⟨w.heap.size,0,none⟩)) (fun y=>decide (name=y.1)) _ (outD D) w1 hei (by rw[HM.out];omega) (fun y _ W hW=>ybtz name y w.heap.size W (by rw[hW.cell (block_lt_of_cell a1)];exact a1))
 have HCL:=Lib.hid hcl
 clear hcl hei hx1 hov hb1 hovl
 go_wp2_with fail
 refine HCL.out.mono ?_
 rintro e w2 ⟨r,rfl,hr,hb2⟩
 have HB2:Hid (Below w.heap.size w w2):=Below.step HB1.out hb2
 have HOV2:Hid (w2.ownsRow w0.heap.size 100 2 (.slice q n c) (outD D).length (ents (outD D))):=qap HOV.out hb2
 have hz2:w0.heap.size<=w2.heap.size:=Nat.le_trans hz1 hb2.size
 clear hb2
 obtain⟨rfl,hnone⟩ | ⟨i,hi,rfl,hT,_⟩:=hr
 ·have HNO:=Lib.hid hnone
  clear hnone
  go_wp2
  go_returns
  exact Or.inl ⟨HNO.out,rfl,HB2.out⟩
 ·have HT:Hid (decide (name=(outD D)[i].1)=true):=hT
  have HII:=Lib.hid hi
  obtain⟨j,Hj⟩:∃ j,Hid (i+1=j):=⟨_,rfl⟩
  have hi2:=hi
  rw[HM.out]at hi2
  have wj:IntKind.i64.wrap ((i:Int)+1)=(j:Int):=by rw[IntWalk.i64_in _ (by omega)];have:=Hj.out;omega
  have hneg:¬ (i:Int)<0:=by omega
  have HDEL:=Lib.hid (qxy w0.heap.size (.slice q n c) (outD D) w2 HOV2.out i hi (by rw[HM.out];omega) j Hj.out hz2)
  clear hT
  go_wp2_with fail
  refine HDEL.out.mono ?_
  rintro e w3 ⟨v3,rfl,hov3,hb3⟩
  have HB3:Hid (Below w.heap.size w w3):=HB2.out.trans (hb3.mono HB0.out.size)
  have HL:=Lib.hid (ybcn v3 ((outD D).eraseIdx i) w3 ⟨qai.of_owns hov3,qjx hov3⟩ (HR.out i))
  clear hov3 hb3
  go_wp2_with fail
  refine HL.out.mono ?_
  rintro e w4 ⟨u,rfl,hu,hnu,hb4⟩
  have HU:=Lib.hid hu
  have HNU:Hid (∀ b,u.ownBlock=some b->w.heap.size<=b):=fun b hb=>Nat.le_trans HB3.out.size (hnu b hb)
  have HB4:Hid (Below w.heap.size w w4):=Below.step HB3.out hb4
  clear hu hb4 hnu
  go_wp2
  go_returns
  exact Or.inr ⟨i,HII.out,HT.out,u,rfl,HU.out,HNU.out,HB4.out⟩
def ybsp : Nat->Nat->Nat
 | 0,_=>0
 | f+1,m=>if m=0 then 0 else ybsp f (m / 2)+1
def ybci (n:Nat):Nat:=ybsp 64 n
def FindOk (D:List Int) (n:Nat) (name:ByteArray) (r:Int × Nat × Int):Prop:=
 (r.2.2=0/\(∃ x ∈ (ino n 0).map (rdE D),x.1=name/\r.1=x.2)/\1<=r.2.1/\2 ^ (r.2.1 - 1)<=n)\/(r.2.2=4/\r.1=0/\(∀ x ∈ (ino n 0).map (rdE D),x.1 ≠ name)/\(r.2.1=0\/2 ^ (r.2.1 - 1)<=n))
theorem ybrx (D:List Int) (n:Nat) (name:ByteArray) (hn:n<=32) (hS:qei ((ino n 0).map (rdE D))):∀ (f at_ k:Nat),f+k=7->FInv D n name at_ k->FindOk D n name (qrk D n name f at_ k):=by
 intro f
 induction f with
 | zero=>
  intro at_ k hfk h
  have hp:=h.pow
  have hk:k=7:=by omega
  subst hk
  exact Or.inr ⟨rfl,rfl,h.none (by omega),h.few⟩
 | succ f ih=>
  intro at_ k hfk h
  rw[qrk]
  by_cases hat:at_<n
  ·rw[if_pos hat]
   by_cases h0:cmpB name (rdE D at_).1=0
   ·rw[if_pos h0]
    have he:name=(rdE D at_).1:=by
     unfold cmpB at h0
     by_cases h1:lexB name (rdE D at_).1=true
     ·rw[if_pos h1]at h0;cases h0
     ·rw[if_neg h1]at h0
      by_cases h2:name=(rdE D at_).1
      ·exact h2
      ·rw[if_neg h2]at h0;cases h0
    obtain⟨x,hx,h1,h2⟩:=h.found hat he
    exact Or.inl ⟨rfl,⟨x,hx,h1,h2.symm⟩,by show 1<=k+1;omega,by show 2 ^ (k+1 - 1)<=n;rw[Nat.add_sub_cancel];exact h.looks hat⟩
   ·rw[if_neg h0]
    by_cases h1:cmpB name (rdE D at_).1<0
    ·rw[if_pos h1]
     have h2:lexB name (rdE D at_).1=true:=by
      have:=qof name (rdE D at_).1
      rw[decide_eq_true h1]at this;exact this.symm
     exact ih _ _ (by omega) (h.left hat hS h2)
    ·rw[if_neg h1]
     have h2:lexB (rdE D at_).1 name=true:=by
      have h3:lexB name (rdE D at_).1=false:=by
       have:=qof name (rdE D at_).1
       rw[decide_eq_false h1]at this;exact this.symm
      cases h4:lexB (rdE D at_).1 name with
      | true=>rfl
      | false=>
       exfalso
       apply h0
       unfold cmpB
       rw[if_neg (by rw[h3];decide),if_pos (qic h3 h4)]
     exact ih _ _ (by omega) (h.right hat hS h2)
  ·rw[if_neg hat]
   exact Or.inr ⟨rfl,rfl,h.none (by omega),h.few⟩
theorem ybye : (List.range 33).all (fun n=>decide (ybci n<=6) && (List.range 8).all fun k=>decide (2 ^ k<=n->k+1<=ybci n))=true:=by decide +kernel
theorem ybyf {n:Nat} (hn:n<=32):ybci n<=6/\∀ k,2 ^ k<=n->k+1<=ybci n:=by
 have h:=(List.all_eq_true.1 ybye) n (List.mem_range.2 (by omega))
 simp only[Bool.and_eq_true,decide_eq_true_eq,List.all_eq_true]at h
 refine⟨h.1,fun k hk=>?_⟩
 by_cases h8:k<8
 ·exact h.2 k (List.mem_range.2 h8) hk
 ·have:2 ^ 8<=2 ^ k:=Nat.pow_le_pow_right (by omega) (by omega)
  omega
theorem ybep {l:List En} (hr:qct l=0) (name:ByteArray):(∃ x ∈ l,x.1=name/\(qee (layD l) name).1=x.2/\(qee (layD l) name).2.2=0/\1<=(qee (layD l) name).2.1/\(qee (layD l) name).2.1<=ybci l.length)\/((∀ x ∈ l,x.1 ≠ name)/\(qee (layD l) name).1=0/\(qee (layD l) name).2.2=4/\(qee (layD l) name).2.1<=ybci l.length):=by
 have hl:=(qce l).1 hr
 have hn:(layD l).length / 16=l.length:=by rw[qmz hr];omega
 have ho:=qqj hr
 have hS:qei ((ino l.length 0).map (rdE (layD l))):=by
  have:=(qgw (ybfg hr)).1
  unfold outD at this
  rw[hn]at this
  exact this
 have hm:∀ x,x ∈ (ino l.length 0).map (rdE (layD l)) ↔ x ∈ l:=fun x=>by
  have:(ino l.length 0).map (rdE (layD l))=outD (layD l):=by unfold outD;rw[hn]
  rw[this,ho]
  exact (qdp l).mem_iff
 have key:=ybrx (layD l) l.length name hl.1 hS 7 0 0 rfl (FInv.start _ _ _)
 have e:qrk (layD l) l.length name 7 0 0=qee (layD l) name:=by unfold qee;rw[hn]
 rw[e]at key
 obtain⟨_,hh⟩:=ybyf hl.1
 rcases key with⟨h1,⟨x,hx,h2,h3⟩,h4,h5⟩ | ⟨h1,h2,h3,h4⟩
 ·refine Or.inl ⟨x,(hm x).1 hx,h2,h3,h1,h4,?_⟩
  have:=hh _ h5
  omega
 ·refine Or.inr ⟨fun x hx=>h3 x ((hm x).2 hx),h2,h1,?_⟩
  rcases h4 with h4 | h4
  ·omega
  ·have:=hh _ h4
   omega
def ybwp (n m h:Nat):Prop:=∃ f,ybsp f m+h=ybci n/\m<2 ^ f
theorem ybwp.step {n m h:Nat} (x:ybwp n m h) (hm:0<m):ybwp n (m / 2) (h+1):=by
 obtain⟨f,h1,h2⟩:=x
 cases f with
 | zero=>simp at h2;omega
 | succ f=>
  refine⟨f,?_,by rw[Nat.pow_succ]at h2;omega⟩
  rw[ybsp,if_neg (by omega)]at h1
  omega
end Go.Proofs.YtpoglnpjadmbpaaGreatDoor
