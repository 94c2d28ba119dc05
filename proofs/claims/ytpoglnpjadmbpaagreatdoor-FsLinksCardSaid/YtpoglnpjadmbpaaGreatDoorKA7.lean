/- Part of the proofs of FsLinks: the texts Own, OpenB, Pick, Ext, ExtOf, ExtPack, Bits, Bits2, Bits3, Bits4. -/
import Derived.Test.YtpoglnpjadmbpaaGreatDoorKA1
import Derived.Test.YtpoglnpjadmbpaaGreatDoorKA2
import Derived.Test.YtpoglnpjadmbpaaGreatDoorRows
import Derived.Test.YtpoglnpjadmbpaaGreatDoorProg
import Derived.WalkSpells
import Derived.WalkLawsBesides
import Derived.Lib.Hide
import Derived.LoopTactic
import Derived.RegionTactic
import Derived.BigRegion
set_option maxHeartbeats 16000000
set_option maxRecDepth 100000
namespace Go.Proofs.YtpoglnpjadmbpaaGreatDoor
open Go.ChangeShapes Go.WideShapes Go.ChangeAt Go.RowKit
theorem Tryz.own : ownKnob Tryz.prog.godebug=none:=by kernel_rfl
theorem Tryz.laidOut : laidOutB Tryz.prog=true:=by kernel_rfl
theorem ybvg {n:Int} (h:(Lit.int .u8 n).wf=true):0<=n/\n<=255:=by
 simp only[Lit.wf,IntKind.min,IntKind.max,IntKind.signed,IntKind.bits,Bool.and_eq_true]at h
 simp at h
 omega
theorem ybgx {w:World} {g off len cap:Nat} {zs:List Int} (hl:len<=zs.length) (h:∀ i,i<zs.length->w.cell? ⟨g,off+i,none⟩=some (.int .u8 (zs.getD i 0))):
  qaf w (.slice (some ⟨g,off,none⟩) len cap) (zs.take len):=by
 have e:(zs.take len).length=len:=by rw[List.length_take];omega
 refine⟨by simp[u8s],Or.inr ⟨g,off,cap,by rw[e],fun j x hx=>?_⟩⟩
 have hj:j<(zs.take len).length:=by
  have:=(List.getElem?_eq_some_iff.1 hx).1
  simpa[u8s]using this
 rw[qcj _ j hj]at hx
 cases hx
 rw[h j (by omega)]
 simp[show j<zs.length by omega]
theorem qzj {H:Type} {enc':TypeId × Value->H} {w:World} {base:Nat} {held:Bool} {r:Reach} {b0:Nat} {v:Value} {d:DataW H} {ps:List MemPlace}
  (hval:Value.okWide Tryz.prog w r b0 38 v) (hd:DataW.Trod enc' Tryz.prog w base (fun _=>true) held 38 v d ps):∃ l,qaf w v l/\l.length<=maxLen/\∀ x,x ∈ l->0<=x/\x<=255:=by
 have ht:Tryz.prog.underlying 38=some (.slice 5):=by kernel_rfl
 have he:Tryz.prog.underlying 5=some (.int .u8):=by kernel_rfl
 have hc:Tryz.prog.cellsOf 5=1:=by kernel_rfl
 obtain⟨a0,l0,c0,rfl⟩:=okWide_slice ht hval
 obtain⟨fuel,hf⟩:=hd
 rcases open_ints ht he hc hf with⟨h1,_⟩ | ⟨a,len,cap,zs,h1,_,hlc,hcm,hz,_,hcell,hin⟩
 ·simp[Value.cells]at h1
  obtain⟨rfl,rfl,rfl⟩:=h1
  exact⟨[],⟨rfl,Or.inl ⟨rfl,_,_,rfl⟩⟩,Nat.zero_le _,by simp⟩
 ·simp[Value.cells]at h1
  obtain⟨rfl,rfl,rfl⟩:=h1
  simp only[if_true]at hz
  rcases Nat.eq_zero_or_pos l0 with h0 | h0
  ·subst h0
   exact⟨[],⟨rfl,Or.inl ⟨rfl,_,_,rfl⟩⟩,Nat.zero_le _,by simp⟩
  ·obtain⟨g,off,spot⟩:=a
   have hs:spot=none:=by
    have:=World.cell?_spot (hcell 0 (by omega))
    simpa[Addr.add]using this
   subst hs
   refine⟨zs.take l0,ybgx (by omega) (fun i hi=>?_),by rw[List.length_take];omega,fun x hx=>?_⟩
   ·have:=hcell i hi
    rwa [add_plain]at this
   ·have:=hin x (List.mem_of_mem_take hx)
    exact ybvg this
theorem qwm {H:Type} {enc':TypeId × Value->H} {w:World} {base:Nat} {held:Bool} {r:Reach} {b0:Nat} {v:Value} {d:DataW H} {ps:List MemPlace}
  (hval:Value.okWide Tryz.prog w r b0 38 v) (hd:DataW.Trod enc' Tryz.prog w base (fun _=>true) held 38 v d ps) {l:List Int} (hl:qaf w v l):∃ p c,v=.slice p l.length c/\l.length<=c:=by
 have ht:Tryz.prog.underlying 38=some (.slice 5):=by kernel_rfl
 have he:Tryz.prog.underlying 5=some (.int .u8):=by kernel_rfl
 have hc:Tryz.prog.cellsOf 5=1:=by kernel_rfl
 obtain⟨a0,l0,c0,rfl⟩:=okWide_slice ht hval
 have hll:l0=l.length:=by
  obtain⟨_,⟨h0,a1,c1,he⟩ | ⟨g,o,cap,he,_⟩⟩:=hl
  ·injection he with _ e2 _;omega
  ·injection he with _ e2 _
 subst hll
 obtain⟨fuel,hf⟩:=hd
 rcases open_ints ht he hc hf with⟨h1,_⟩ | ⟨a,len,cap,zs,h1,_,hlc,_⟩
 ·simp[Value.cells]at h1
  obtain⟨_,h2,_⟩:=h1
  exact⟨_,_,rfl,by simp[h2]⟩
 ·simp[Value.cells]at h1
  exact⟨_,_,rfl,by omega⟩
end Go.Proofs.YtpoglnpjadmbpaaGreatDoor
namespace Go.Proofs.YtpoglnpjadmbpaaGreatDoor
open Go.RowKit
def pk (a n:Int):Int:=wrap64 ((IntKind.u64.wrap a).tmod n)
theorem ybuh (a n:Int) (h0:0<n) (h1:n<9223372036854775808):0<=pk a n/\pk a n<n:=by
 unfold pk
 have h2:0<=IntKind.u64.wrap a:=by simp[IntKind.wrap,IntKind.bits,IntKind.signed];omega
 have h3:=Int.tmod_nonneg n h2
 have h4:=Int.tmod_lt_of_pos (IntKind.u64.wrap a) h0
 have:wrap64 ((IntKind.u64.wrap a).tmod n)=(IntKind.u64.wrap a).tmod n:=by
  unfold wrap64;omega
 rw[this]
 exact⟨h3,h4⟩
theorem ybfs (a n:Int) (w:World) (h0:0<n) (h1:n<9223372036854775808):
  Calls Tryz.prog 8 #[.int .i64 a,.int .i64 n] w fun e w'=>e=.returned (.int .i64 (pk a n))/\w=w':=by
 go_enter Tryz.func8,Tryz.ntmps8
 go_wp2
 go_ret
 exact⟨rfl,rfl⟩
theorem qbb {k:IntKind} {a b:Int} (h:a=b):Ending.returned (.int k a)=.returned (.int k b):=by rw[h]
theorem qha (v:Value) (l:List Int) (w:World) (h:qao w v l) (hl:l.length<=1000000):
  Calls Tryz.prog 143 #[v] w fun e w'=>e=.returned (.int .i64 (qca l))/\w=w':=by
 obtain⟨hlen,⟨hn,a0,c0,rfl⟩ | ⟨g,off,cap,rfl,hc⟩⟩:=h
 ·have HF:Hid (qca l=0):=by
   have:l=[]:=List.length_eq_zero_iff.1 hn
   subst this;rfl
  clear hlen hn
  go_enter Tryz.func143,Tryz.ntmps143
  go_wp2
  go_loop [10] (fun i=>i=.int .i64 0) (fun _=>0)
  case atStart=>rfl
  case round=>
   obtain rfl:=hrel
   go_wp2
   go_ret
   exact⟨qbb HF.out.symm,rfl⟩
 ·have HC:=Lib.hid hc
  clear hc hlen
  obtain⟨n,Hn⟩:∃ n,Hid (n=l.length):=⟨_,rfl⟩
  rw[<-Hn.out]at hl ⊢
  by_cases hbig:8<n
  ·have HF:Hid (qca l=2):=by unfold qca Hid;rw[<-Hn.out,if_pos hbig]
   go_enter Tryz.func143,Tryz.ntmps143
   go_wp2
   go_ret
   exact⟨qbb HF.out.symm,rfl⟩
  ·go_enter Tryz.func143,Tryz.ntmps143
   go_wp2
   go_loop [10] (fun i=>∃ k:Nat,k<=n/\i=.int .i64 k/\Hid ((l.take k).any badP=false)) (fun i=>n - (intOf i).toNat)
   case atStart=>exact⟨0,Nat.zero_le _,rfl,rfl⟩
   case round=>
    obtain⟨k,hk,rfl,HK⟩:=hrel
    by_cases hlt:k<n
    ·have hkl:k<l.length:=by rw[<-Hn.out];exact hlt
     have hcell:=HC.out k _ (qdn l k hkl)
     obtain⟨p,Hp⟩:∃ p,Hid (p=l[k]):=⟨l[k],rfl⟩
     rw[<-Hp.out]at hcell
     have HB:Hid (badP p=true->qca l=1):=fun hb=>by
      unfold qca
      rw[<-Hn.out,if_neg hbig,if_pos]
      rw[List.any_eq_true]
      exact⟨l[k],List.getElem_mem hkl,by rw[<-Hp.out];exact hb⟩
     have HT:Hid (badP p=false->(l.take (k+1)).any badP=false):=fun hb=>by
      rw[<-List.take_append_getElem hkl,List.any_append,HK.out,<-Hp.out];simp[hb]
     by_cases h0:p<0
     ·go_wp2
      go_ret
      exact⟨qbb (HB.out (by simp[badP,h0])).symm,rfl⟩
     ·by_cases h1:256<=p
      ·go_wp2
       go_ret
       exact⟨qbb (HB.out (by simp[badP,h1])).symm,rfl⟩
      ·go_wp2
       go_round
       case rel=>exact⟨k+1,by omega,by go_num,HT.out (by simp[badP,h0,h1])⟩
       case measure=>simp[intOf];omega
    ·have HF:Hid (qca l=0):=by
      unfold qca Hid
      have:=HK.out
      rw[List.take_of_length_le (by rw[<-Hn.out];omega)]at this
      rw[<-Hn.out,if_neg hbig,if_neg (by simp[this])]
     go_wp2
     go_ret
     exact⟨qbb HF.out.symm,rfl⟩
theorem ybsn (a b p:Int) (w:World) (h0:0<=a) (h1:a<=1000) (h2:0<=b) (h3:b<=1000):
  Calls Tryz.prog 188 #[.agg #[.int .i64 a,.int .i64 b],.int .i64 p] w fun e w'=>e=.returned (.bool (qtp (a,b) p))/\Below w.heap.size w w':=by
 by_cases ha:a=0
 ·have hb:(a == 0)=true:=by simpa using ha
  have HF:Hid (qtp (a,b) p=(p == 0)):=by simp[qtp,ha,Hid]
  clear ha
  go_enter Tryz.func188,Tryz.ntmps188
  go_wp2
  go_ret
  rw[HF.out]
  exact⟨rfl,(Below.refl _ _).alloc (Nat.le_refl _) _⟩
 ·have hb:(a == 0)=false:=by simpa using ha
  have HF:Hid (qtp (a,b) p=(p == a+b)):=by simp[qtp,ha,Hid]
  clear ha
  go_enter Tryz.func188,Tryz.ntmps188
  go_wp2
  go_ret
  rw[HF.out]
  exact⟨rfl,(Below.refl _ _).alloc (Nat.le_refl _) _⟩
theorem yblg : (Tryz.prog.info? 221).map (fun i=>(i.zero,i.size,i.bytes))=some (some (.agg #[.int .i64 0,.int .i64 0]),2,16):=by kernel_rfl
theorem ybxn : Tryz.prog.underlying 217=some (.slice 221):=by kernel_rfl
theorem ybaj {p q:Int}:∀ u,u ∈ [Value.int .i64 p,Value.int .i64 q]->u.oneCell'=true:=by
 intro u hu
 simp at hu
 rcases hu with rfl | rfl <;> rfl
def OfRes (l:List Int) (w:World) (e:Ending) (w':World):Prop:=
 ∃ v,e=.returned (.tuple #[v,.int .i64 0])/\w'.ownsRow w.heap.size 221 2 v (ofR l).length (qbw (ofE l))/\Below w.heap.size w w'
theorem ybyv (v:Value) (l:List Int) (w:World) (h:qao w v l) (hr:qca l=0):
  Calls Tryz.prog 157 #[v] w (OfRes l w):=by
 have hl8:l.length<=8:=by
  unfold qca at hr
  split at hr
  ·cases hr
  ·omega
 have hin:∀ p,p ∈ l->0<=p/\p<=255:=fun p hp=>by
  unfold qca at hr
  split at hr
  ·cases hr
  ·split at hr
   ·cases hr
   ·rename_i hany
    have:badP p=false:=by
     cases hb:badP p with
     | false=>rfl
     | true=>exact absurd (List.any_eq_true.2 ⟨p,hp,hb⟩) hany
    simp[badP]at this
    omega
 have HR:=Lib.hid hr
 have HIN:=Lib.hid hin
 have H:=Lib.hid h
 clear hr hin h
 obtain⟨i0,hi,hz0,hz1,hz2⟩:=info_parts yblg
 have HI:=Lib.hid hi
 have HZ0:=Lib.hid hz0
 have HZ1:=Lib.hid hz1
 have HZ2:=Lib.hid hz2
 clear hi hz0 hz1 hz2
 obtain⟨n,Hn⟩:∃ n,Hid (n=l.length):=⟨_,rfl⟩
 rw[<-Hn.out]at hl8
 obtain⟨p0,cap,hv,HC⟩:∃ p cap,v=.slice p n cap/\Hid (∀ (W:World),Below w.heap.size w W->∀ k (hk:k<l.length),∃ g off,p=some ⟨g,off,none⟩/\W.cell? ⟨g,off+k,none⟩=some (.int .i64 l[k])):=by
  obtain⟨hlen,⟨h0,a0,c0,hv⟩ | ⟨g,off,cap,hv,hc⟩⟩:=H.out
  ·exact⟨a0,c0,by rw[Hn.out,h0];exact hv,fun W _ k hk=>by omega⟩
  ·refine⟨_,cap,by rw[Hn.out];exact hv,fun W hb k hk=>⟨g,off,rfl,?_⟩⟩
   have:=hc k _ (qdn l k hk)
   exact (hb.cell (block_lt_of_cell this)).trans this
 subst hv
 go_enter Tryz.func157,Tryz.ntmps157
 go_wp2_with fail
 refine (qha _ l _ H.out (by rw[<-Hn.out];omega)).mono ?_
 rw[HR.out]
 rintro e w' ⟨rfl,rfl⟩
 go_wp2
 go_loopw [5,16] (fun o i wr=>∃ k:Nat,k<=n/\i=.int .i64 k/\Hid (wr.ownsRow w.heap.size 221 2 o (ofR (l.take k)).length (qbw (ofE (l.take k))))/\Below w.heap.size w wr) (fun _ i _=>n - (intOf i).toNat)
 case atStart=>exact⟨0,Nat.zero_le _,rfl,World.ownsRow_nil _ _ _ _,Below.refl _ _⟩
 case round=>
  obtain⟨k,hk,rfl,HO,HB⟩:=hrel
  by_cases hlt:k<n
  ·have hkl:k<l.length:=by rw[<-Hn.out];exact hlt
   obtain⟨g,off,hp,hcell⟩:=HC.out wr HB k hkl
   subst hp
   obtain⟨p,Hp⟩:∃ p,Hid (p=l[k]):=⟨l[k],rfl⟩
   rw[<-Hp.out]at hcell
   have hpr:0<=p/\p<=255:=by rw[Hp.out];exact HIN.out _ (List.getElem_mem hkl)
   obtain⟨hp0,hp1⟩:=hpr
   have hok:=qzg k (l.take k) (by rw[List.length_take];omega) (fun q hq=>HIN.out q (List.mem_of_mem_take hq))
   have HS:Hid (ofR (l.take (k+1))=qns (ofR (l.take k)) p):=by rw[<-List.take_append_getElem hkl,ybfm,Hp.out];exact rfl
   unfold ofE at HO ⊢
   generalize ofR (l.take k)=R at *
   obtain⟨hok,hRk⟩:=hok
   have HOK:=Lib.hid hok
   clear hok
   cases R with
   | nil=>
    obtain⟨c0,cp,hu⟩:∃ c0 cp,u5=.slice c0 0 cp:=by
     obtain⟨_,⟨rfl,_⟩ | ⟨g',cap',cur,rfl,_⟩⟩:=HO.out
     ·exact⟨_,_,rfl⟩
     ·exact⟨_,_,rfl⟩
    subst hu
    have hlt':=(HO.out.alloc (.cells #[.int .i64 p,.int .i64 1] 221)).lt
    go_wp2_with (first
     | (at_builtin;refine wpList_append_own _ rfl _ _ 217 rfl w.heap.size 221 i0 (.agg #[.int .i64 0,.int .i64 0]) 2 16 ybxn HI.out HZ0.out HZ1.out HZ2.out rfl (by decide) _ _ _ rfl (HO.out.alloc _) ⟨wr.heap.size,0,none⟩ 1 1 [.int .i64 p,.int .i64 1] rfl rfl (fun j u hu=>qig _ #[.int .i64 p,.int .i64 1] _ j u hu) ybaj (by simp only[List.length_nil]at hRk ⊢;unfold maxLen;omega) (by simp only[List.length_nil]at hRk ⊢;omega) (by have:=HB.size;  simp;omega) ?_;intro v' w4 hown hgrow _))
    have HO4:Hid (w4.ownsRow w.heap.size 221 2 v' (ofR (l.take (k+1))).length (qbw (ofE (l.take (k+1))))):=by
     unfold ofE
     rw[HS.out,ybpg]
     have:w4.ownsRow w.heap.size 221 2 v' 1 (qbw [(p,1)]):=by simpa[qbw]using hown
     exact this
    have HB4:Below w.heap.size w w4:=Below.grown (HB.alloc HB.size _) hgrow (by have:=HB.size;simp;omega) (fun q hq=>(hlt' q hq).1)
    clear hown hgrow hlt'
    go_wp2
    go_roundw
    case rel=>exact⟨k+1,by omega,by go_num,HO4,HB4⟩
    case measure=>simp[intOf];omega
   | cons x r=>
    obtain⟨a,b⟩:=x
    have hab:=HOK.out (a,b) (by simp)
    obtain⟨ha0,ha1,hb0,hb1⟩:=hab
    obtain⟨g',cap',cur,hu,hg',hh,hcap⟩:∃ g' cap' cur,u5=.slice (some ⟨g',0,none⟩) (r.length+1) cap'/\w.heap.size<=g'/\Hid (wr.heap[g']? = some (.cells cur 221 (0,0)))/\r.length+1<=cap':=by
     obtain⟨_,⟨rfl,h0⟩ | ⟨g',cap',cur,rfl,h1,h2,h3,_⟩⟩:=HO.out
     ·simp at h0
     ·exact⟨g',cap',cur,rfl,h1,h2,h3⟩
    subst hu
    have HO2:Hid (wr.ownsRow w.heap.size 221 2 (.slice (some ⟨g',0,none⟩) (r.length+1) cap') (r.length+1) (qbw (r.reverse++[(a,b)]))):=by
     have:=HO.out
     rw[List.reverse_cons]at this
     exact this
    clear HO
    have hRk':r.length+1<=k:=hRk
    clear hRk
    have hpl:=ybix r.reverse (a,b)
    have hca:wr.cell? ⟨g',r.length*2,none⟩=some (.int .i64 a):=by
     rw[World.ownsRow.cellAt HO2.out _ (by omega)];simpa using hpl.1
    have hcb:wr.cell? ⟨g',r.length*2+1,none⟩=some (.int .i64 b):=by
     rw[World.ownsRow.cellAt HO2.out _ (by omega)];simpa using hpl.2
    clear hpl
    have hfz:wr.frozen? ⟨g',r.length*2+1,none⟩=false:=frozen_of_row _ _ _ _ _ hh.out
    have HG:Hid (∀ W:World,Calls Tryz.prog 188 #[.agg #[.int .i64 a,.int .i64 b],.int .i64 p] W fun e w'=>e=.returned (.bool (qtp (a,b) p))/\Below W.heap.size W w'):=fun W=>ybsn a b p W ha0 (by omega) (by omega) (by omega)
    cases hgo:qtp (a,b) p
    ·have HGO:=Lib.hid hgo
     clear hgo
     go_wp2_with (first
      | (go_at_call 188;refine (HG.out _).mono ?_;rw[HGO.out];rintro e w3 ⟨rfl,hb3⟩)
      | (at_builtin;refine wpList_append_own _ rfl _ _ 217 rfl w.heap.size 221 i0 (.agg #[.int .i64 0,.int .i64 0]) 2 16 ybxn HI.out HZ0.out HZ1.out HZ2.out rfl (by decide) _ _ _ rfl ((qap HO2.out hb3).alloc _) ⟨w3.heap.size,0,none⟩ 1 1 [.int .i64 p,.int .i64 1] rfl rfl (fun j u hu=>qig _ #[.int .i64 p,.int .i64 1] _ j u hu) ybaj (by unfold maxLen;omega) (by omega) (by have:=HB.size;have:=hb3.size;simp;omega) ?_;intro v' w4 hown hgrow _))
     have HO4:Hid (w4.ownsRow w.heap.size 221 2 v' (ofR (l.take (k+1))).length (qbw (ofE (l.take (k+1))))):=by
      unfold ofE
      rw[HS.out,ybuv HGO.out,List.reverse_cons,List.reverse_cons,qdm (r.reverse++[(a,b)])]
      exact hown
     have HB4:Below w.heap.size w w4:=Below.grown ((Below.step HB hb3).alloc (by have:=HB.size;have:=hb3.size;omega) _) hgrow (by have:=HB.size;have:=hb3.size;simp;omega) (fun q hq=>by
      cases hq;exact hg')
     clear hown hgrow
     go_wp2
     go_roundw
     case rel=>exact⟨k+1,by omega,by go_num,HO4,HB4⟩
     case measure=>simp[intOf];omega
    ·have HGO:=Lib.hid hgo
     clear hgo
     go_wp2_with (first
      | (go_at_call 188;refine (HG.out _).mono ?_;rw[HGO.out];rintro e w3 ⟨rfl,hb3⟩;have hcb3:w3.cell? ⟨g',r.length*2+1,none⟩=some (.int .i64 b):=(hb3.cell (block_lt_of_cell hcb)).trans hcb;have hfz3:w3.frozen? ⟨g',r.length*2+1,none⟩=false:=(hb3.frozen (block_lt_of_cell hcb)).trans hfz))
     go_roundw
     case rel=>
      refine⟨k+1,by omega,by go_num,?_,(Below.step HB hb3).setCell hg' _⟩
      have h1:=(qap HO2.out hb3).stored (r.length*2+1) (.int .i64 (b+1))
      have h2:=qtr r.reverse a b (b+1)
      rw[List.length_reverse]at h2
      rw[h2]at h1
      rw[HS.out,ybph HGO.out,List.reverse_cons]
      exact h1.1
     case measure=>simp[intOf];omega
  ·have hkn:k=n:=by omega
   have HF:Hid (l.take k=l):=by rw[hkn,Hn.out];exact List.take_length
   have HO2:Hid (wr.ownsRow w.heap.size 221 2 u5 (ofR l).length (qbw (ofE l))):=by
    have:=HO.out
    rw[HF.out]at this
    exact this
   clear hkn HO HF
   go_wp2
   go_ret2
   exact⟨_,rfl,HO2.out,HB⟩
def qtm (l:List (Int × Int)):List Int:=l.flatMap fun x=>[x.1,x.2]
theorem qrl (l:List (Int × Int)):(qtm l).length=l.length*2:=by
 induction l with
 | nil=>rfl
 | cons x l ih=>simp only[qtm,List.flatMap_cons,List.length_append,List.length_cons,List.length_nil]at *;omega
theorem qyc (a b:List (Int × Int)):qtm (a++b)=qtm a++qtm b:=by simp[qtm]
def qeg (l:List (Int × Int)):List Int:=qtm l++List.replicate (16 - l.length*2) 0
def byts (l:List Int):Array Value:=(l.map fun n=>Value.int .u8 n).toArray
theorem ybue (l:List (Int × Int)) (x:Int × Int) (h:l.length<8):((byts (qeg l)).setIfInBounds (l.length*2) (.int .u8 x.1)).setIfInBounds (l.length*2+1) (.int .u8 x.2)=byts (qeg (l++[x])):=by
 have h1:=qrl l
 unfold byts qeg
 rw[qyc,List.length_append,show 16 - l.length*2=(14 - l.length*2)+1+1 by omega,List.replicate_succ,List.replicate_succ,show 16 - (l.length+[x].length)*2=14 - l.length*2 by simp;omega]
 simp only[List.setIfInBounds_toArray,List.map_append,List.map_cons]
 rw[List.set_append_right _ _ (by simp;omega)]
 rw[show l.length*2 - (List.map (fun n=>Value.int IntKind.u8 n) (qtm l)).length=0 by simp;omega]
 rw[List.set_append_right _ _ (by simp;omega)]
 rw[show l.length*2+1 - (List.map (fun n=>Value.int IntKind.u8 n) (qtm l)).length=1 by simp;omega]
 simp[qtm]
theorem yboj (l:List (Int × Int)) (h:l.length<=8):(byts (qeg l)).size=16:=by
 have:=qrl l
 simp[byts,qeg];omega
theorem make16 (W:World):(Instr.makeSlice 38 (.int .i64 16) (.int .i64 16)).run Tryz.prog W=.ok (.slice (some ⟨W.heap.size,0,none⟩) 16 16) (W.alloc (.cells (byts (qeg [])) 5)):=by kernel_rfl
theorem qkb {l:List Int} (hr:qca l=0):l.length<=8:=by
 unfold qca at hr
 split at hr
 ·cases hr
 ·omega
theorem qwr {l:List Int} (hr:qca l=0):∀ p,p ∈ l->0<=p/\p<=255:=fun p hp=>by
 unfold qca at hr
 split at hr
 ·cases hr
 ·split at hr
  ·cases hr
  ·rename_i hany
   have:badP p=false:=by
    cases hb:badP p with
    | false=>rfl
    | true=>exact absurd (List.any_eq_true.2 ⟨p,hp,hb⟩) hany
   simp[badP]at this
   omega
def ybwt (l:List Int) (w:World) (e:Ending) (w':World):Prop:=
 ∃ g,e=.returned (.tuple #[.slice (some ⟨g,0,none⟩) 16 16,.int .i64 0])/\w.heap.size<=g/\w'.heap[g]? = some (.cells (byts (qeg (ofE l))) 5 (0,0))/\Below w.heap.size w w'
theorem qsh (v:Value) (l:List Int) (w:World) (h:qao w v l) (hr:qca l=0):
  Calls Tryz.prog 115 #[v] w (ybwt l w):=by
 have H:=Lib.hid h
 have HR:=Lib.hid hr
 clear h hr
 obtain⟨Z0,HP0⟩:∃ Z,Hid (Z=byts (qeg [])):=⟨_,rfl⟩
 have hmk:∀ W:World,(Instr.makeSlice 38 (.int .i64 16) (.int .i64 16)).run Tryz.prog W=.ok (.slice (some ⟨W.heap.size,0,none⟩) 16 16) (W.alloc (.cells Z0 5)):=fun W=>by rw[HP0.out];exact make16 W
 go_enter Tryz.func115,Tryz.ntmps115
 go_wp2_with fail
 refine (ybyv _ l _ H.out HR.out).mono ?_
 rintro e w1 ⟨o,rfl,hown,hb1⟩
 have hin:∀ p,p ∈ l->0<=p/\p<=255:=qwr HR.out
 have hl8:=qkb HR.out
 have hok:=qzg l.length l rfl hin
 obtain⟨q,cap,hv,hq⟩:=qat hown
 have HQ:=Lib.hid hq
 subst hv
 have hN:(ofR l).length=(ofE l).length:=by simp[ofE]
 have HOK:Hid (∀ x,x ∈ ofE l->0<=x.1/\x.1<=255/\1<=x.2/\x.2<=8):=fun x hx=>by
  have:=hok.1 x (by simpa[ofE]using hx);omega
 obtain⟨N,HN⟩:∃ N,Hid (N=(ofE l).length):=⟨_,rfl⟩
 have hN8:N<=8:=by rw[HN.out,<-hN];omega
 rw[hN,<-HN.out]at HQ ⊢
 clear hin hl8 hok hown hq hN
 have hbw:=hb1
 have HB0:Below w.heap.size w (w1.alloc (.cells Z0 5)):=hb1.alloc hb1.size _
 go_wp2_with fail
 go_loopw [20] (fun i wr=>∃ k:Nat,k<=N/\i=.int .i64 k/\Below w.heap.size w wr/\Hid (wr.heap[w1.heap.size]? = some (.cells (byts (qeg ((ofE l).take k))) 5 (0,0)))
   /\Hid (∀ g,q=some ⟨g,0,none⟩->∀ (j:Nat) (x:Value),(qbw (ofE l))[j]? = some x->wr.cell? ⟨g,j,none⟩=some x)) (fun i _=>N - (intOf i).toNat)
 case atStart=>
  refine⟨0,Nat.zero_le _,rfl,HB0,?_,fun g hg j x hx=>?_⟩
  ·rw[List.take_zero,<-HP0.out];exact heap_alloc_new _ _
  ·have h0:0<N:=by
    rw[HN.out]
    rcases Nat.eq_zero_or_pos (ofE l).length with h | h
    ·rw[List.length_eq_zero_iff.1 h]at hx;simp[qbw]at hx
    ·exact h
   obtain⟨g',hg',_,hc⟩:=HQ.out h0
   rw[hg]at hg'
   cases hg'
   have:=hc j x hx
   exact (World.cell?_alloc_lt _ _ _ (block_lt_of_cell this)).trans this
 case round=>
  obtain⟨k,hk,rfl,HB,H0,H1⟩:=hrel
  by_cases hlt:k<N
  ·have hkl:k<(ofE l).length:=by rw[<-HN.out];exact hlt
   obtain⟨g,hqg,hg,hcg⟩:=HQ.out (by omega)
   subst hqg
   have hp:=qzm (ofE l) k hkl
   obtain⟨a,b,hab⟩:∃ a b,(ofE l)[k]=(a,b):=⟨_,_,rfl⟩
   have hr:=HOK.out _ (List.getElem_mem hkl)
   rw[hab]at hp hr
   have hgl:g<w1.heap.size:=block_lt_of_cell (hcg _ _ hp.1)
   clear hcg
   have ca:=H1.out g rfl _ _ hp.1
   have cb:=H1.out g rfl _ _ hp.2
   obtain⟨ha0,ha1,hb0,hb1⟩:=hr
   simp only at ha0 ha1 hb0 hb1 ca cb
   have HAB:=Lib.hid hab
   clear hab hp
   have hz:=yboj ((ofE l).take k) (by rw[List.length_take];omega)
   have hsz:w1.heap.size<wr.heap.size:=qac H0.out
   have hcx:∀ j,j<16->∃ x,wr.cell? ⟨w1.heap.size,j,none⟩=some x:=fun j hj=>by
    rw[cell_of_row _ _ _ _ _ _ H0.out]
    exact⟨_,Array.getElem?_eq_getElem (by rw[hz];exact hj)⟩
   obtain⟨x0,hx0⟩:=hcx (2*k) (by omega)
   obtain⟨x1,hx1⟩:=hcx (2*k+1) (by omega)
   have f0:wr.frozen? ⟨w1.heap.size,2*k,none⟩=false:=frozen_of_row _ _ _ _ _ H0.out
   have f1:wr.frozen? ⟨w1.heap.size,2*k+1,none⟩=false:=frozen_of_row _ _ _ _ _ H0.out
   clear hcx
   have HZ:=Lib.hid hz
   clear hz
   go_wp2
   go_region
   all_goals
    have hw1:=hbw.size
    have HB4:Below w.heap.size w (((wr.setCell { block:=w1.heap.size,off:=2*k } (Value.int IntKind.u8 a)).setCell { block:=w1.heap.size,off:=2*k+1 } (Value.int IntKind.u8 b)).alloc (Obj.cells #[Value.int IntKind.i64 a,Value.int IntKind.i64 b] 221)).drew:=
     (((HB.setCell hw1 _).setCell hw1 _).alloc ((HB.setCell hw1 _).setCell hw1 _).size _).drew
    have H4:Hid ((((wr.setCell { block:=w1.heap.size,off:=2*k } (Value.int IntKind.u8 a)).setCell { block:=w1.heap.size,off:=2*k+1 } (Value.int IntKind.u8 b)).alloc (Obj.cells #[Value.int IntKind.i64 a,Value.int IntKind.i64 b] 221)).drew.heap[w1.heap.size]? = some (.cells (byts (qeg ((ofE l).take (k+1)))) 5 (0,0))):=by
     have h1:=qad (heap_setCell_same _ _ (2*k+1) _ _ (.int .u8 b) (heap_setCell_same _ _ (2*k) _ _ (.int .u8 a) H0.out)) (Obj.cells #[Value.int IntKind.i64 a,Value.int IntKind.i64 b] 221)
     have h2:=ybue ((ofE l).take k) (a,b) (by rw[List.length_take];omega)
     rw[List.length_take,show min k (ofE l).length=k by omega,show k*2=2*k by omega,<-HAB.out,List.take_append_getElem hkl]at h2
     simp only[HAB.out]at h2
     rw[<-h2]
     exact h1
    have H5:Hid (∀ g',some (⟨g,0,none⟩:Addr)=some ⟨g',0,none⟩->∀ (j:Nat) (x:Value),(qbw (ofE l))[j]? = some x->(((wr.setCell { block:=w1.heap.size,off:=2*k } (Value.int IntKind.u8 a)).setCell { block:=w1.heap.size,off:=2*k+1 } (Value.int IntKind.u8 b)).alloc (Obj.cells #[Value.int IntKind.i64 a,Value.int IntKind.i64 b] 221)).drew.cell? ⟨g',j,none⟩=some x):=fun g' hg' j x hx=>by
     cases hg'
     have h1:=H1.out g rfl j x hx
     have h2:((wr.setCell { block:=w1.heap.size,off:=2*k } (Value.int IntKind.u8 a)).setCell { block:=w1.heap.size,off:=2*k+1 } (Value.int IntKind.u8 b)).cell? ⟨g,j,none⟩=some x:=by
      rw[World.cell?_setCell_other _ _ _ _ (by intro e;cases e;omega),World.cell?_setCell_other _ _ _ _ (by intro e;cases e;omega)]
      exact h1
     exact (World.cell?_alloc_lt _ _ _ (block_lt_of_cell h2)).trans h2
    clear ca cb hx0 hx1 f0 f1
    go_wp2
    go_roundw
    case rel=>exact⟨k+1,by omega,by go_num,HB4,H4,H5⟩
    case measure=>simp[intOf];omega
  ·have hkn:k=N:=by omega
   have HF:Hid ((ofE l).take k=ofE l):=by rw[hkn,HN.out];exact List.take_length
   have H4:Hid (wr.heap[w1.heap.size]? = some (.cells (byts (qeg (ofE l))) 5 (0,0))):=by
    have:=H0.out
    rw[HF.out]at this
    exact this
   clear hkn H0 HF
   go_wp2
   go_ret2
   exact⟨_,rfl,hbw.size,H4.out,HB⟩
theorem setT : Tryz.prog.underlying 76=some (.array 32 5):=by kernel_rfl
theorem setI : (Tryz.prog.info? 76).map (·.size)=some 32:=by kernel_rfl
theorem Below.setRow {B:Nat} {a w:World} (h:Below B a w) {g:Nat} (hp:B<=g) (cs:Array Value):Below B a (w.setRow g cs):=
 ⟨h.os,h.tape,h.output,by have:=h.size;simp only[World.setRow,Array.size_modify];exact this,fun k hk=>by rw[setRow_other _ _ _ _ (by omega)];exact h.block k hk⟩
theorem ybvq (A B:Array Value) (n:Nat) (w:World) (hn:n<256) (x:Int) (hx:A[n / 8]? = some (.int .u8 x))
  (HB:Hid (A.setIfInBounds (n / 8) (Value.int IntKind.u8 (bits BinOp.or IntKind.u8 x (2 ^ (n % 8) % 256)))=B)) (HS:Hid (B.size=32)) (h1:Hid (B.all (·.oneCell')=true)):
  Calls Tryz.prog 75 #[.agg A,.int .i64 n] w fun e w'=>e=.returned (.agg B)/\Below w.heap.size w w':=by
 go_enter Tryz.func75,Tryz.ntmps75
 go_wp2
 go_region
 all_goals
  rw[HB.out]
  go_wp2_with (first
   | (refine wpList_load_row rfl 76 (.tmp 2) rfl w.heap.size rfl 76 B (0,0) _ (heap_alloc2_old w _ _) setT rfl (by rw[HS.out];exact setI) ?_)
   | (refine wpList_store_row rfl 76 (.tmp 4) (.tmp 20) rfl (w.heap.size+1) B rfl rfl 76 _ (heap_alloc2_new w _ _) (by rw[HS.out];exact setI) (by rw[HS.out];rfl) h1 ?_))
  refine bodyPost_ret (results_cell_row rfl _ _ (w.heap.size+1) 76 B (0,0) _ rfl (setRow_heap _ _ _ _ _ _ (heap_alloc2_new w _ _)) setT rfl (by rw[HS.out];exact setI)) rfl ⟨rfl,?_⟩
  exact Below.setRow (((Below.refl _ _).alloc (Nat.le_refl _) _).alloc (by simp) _).drew (by omega) _
theorem ybdx (s:Nat->Bool) (n:Int) (w:World) (h0:0<=n) (hn:n<256):
  Calls Tryz.prog 75 #[.agg (enc s),.int .i64 n] w fun e w'=>e=.returned (.agg (enc (ins s n.toNat)))/\Below w.heap.size w w':=by
 obtain⟨k,rfl⟩:=Int.eq_ofNat_of_zero_le h0
 exact ybvq (enc s) _ k w (by omega) _ (qdh s (k / 8) (by omega)) (ybxj s k (by omega)) (qau _) (qit _)
theorem ybdy (A B:Array Value) (n:Nat) (w:World) (hn:n<256) (x:Int) (hx:A[n / 8]? = some (.int .u8 x))
  (HB:Hid (A.setIfInBounds (n / 8) (Value.int IntKind.u8 (bits BinOp.andNot IntKind.u8 x (2 ^ (n % 8) % 256)))=B)) (HS:Hid (B.size=32)) (h1:Hid (B.all (·.oneCell')=true)):
  Calls Tryz.prog 95 #[.agg A,.int .i64 n] w fun e w'=>e=.returned (.agg B)/\Below w.heap.size w w':=by
 go_enter Tryz.func95,Tryz.ntmps95
 go_wp2
 go_region
 all_goals
  rw[HB.out]
  go_wp2_with (first
   | (refine wpList_load_row rfl 76 (.tmp 2) rfl w.heap.size rfl 76 B (0,0) _ (heap_alloc2_old w _ _) setT rfl (by rw[HS.out];exact setI) ?_)
   | (refine wpList_store_row rfl 76 (.tmp 4) (.tmp 20) rfl (w.heap.size+1) B rfl rfl 76 _ (heap_alloc2_new w _ _) (by rw[HS.out];exact setI) (by rw[HS.out];rfl) h1 ?_))
  refine bodyPost_ret (results_cell_row rfl _ _ (w.heap.size+1) 76 B (0,0) _ rfl (setRow_heap _ _ _ _ _ _ (heap_alloc2_new w _ _)) setT rfl (by rw[HS.out];exact setI)) rfl ⟨rfl,?_⟩
  exact Below.setRow (((Below.refl _ _).alloc (Nat.le_refl _) _).alloc (by simp) _).drew (by omega) _
theorem ybjw (s:Nat->Bool) (n:Int) (w:World) (h0:0<=n) (hn:n<256):
  Calls Tryz.prog 95 #[.agg (enc s),.int .i64 n] w fun e w'=>e=.returned (.agg (enc (del s n.toNat)))/\Below w.heap.size w w':=by
 obtain⟨k,rfl⟩:=Int.eq_ofNat_of_zero_le h0
 exact ybdy (enc s) _ k w (by omega) _ (qdh s (k / 8) (by omega)) (ybxh s k (by omega)) (qau _) (qit _)
theorem ybyd (A:Array Value) (n:Nat) (w:World) (hn:n<256) (x:Int) (hx:A[n / 8]? = some (.int .u8 x)):
  Calls Tryz.prog 125 #[.agg A,.int .i64 n] w fun e w'=>e=.returned (.bool (bits BinOp.and IntKind.u8 (x / 2 ^ (n % 8)) 1 == 1))/\Below w.heap.size w w':=by
 go_enter Tryz.func125,Tryz.ntmps125
 go_wp2
 go_ret
 exact⟨rfl,(Below.refl _ _).alloc (Nat.le_refl _) _⟩
theorem ybml (s:Nat->Bool) (n:Int) (w:World) (h0:0<=n) (hn:n<256):
  Calls Tryz.prog 125 #[.agg (enc s),.int .i64 n] w fun e w'=>e=.returned (.bool (s n.toNat))/\Below w.heap.size w w':=by
 obtain⟨k,rfl⟩:=Int.eq_ofNat_of_zero_le h0
 refine (ybyd (enc s) k w (by omega) _ (qdh s (k / 8) (by omega))).mono fun e w' ⟨he,hb⟩=>⟨?_,hb⟩
 rw[he]
 unfold qbq
 rw[ybky _ _ (by omega)]
 have e1:8*(k / 8)+k % 8=k:=by omega
 rw[e1]
 simp only[Int.toNat_natCast]
 cases s k <;> rfl
theorem byteT : Tryz.prog.underlying 5=some (.int .u8):=by kernel_rfl
theorem byteI : (Tryz.prog.info? 5).map (·.size)=some 1:=by kernel_rfl
theorem qcm (w:World) (o:Obj) (i:Nat) (h:i=w.heap.size):(w.alloc o).heap[i]? = some o:=by rw[h];exact heap_alloc_new w o
theorem ybss (s t:Nat->Bool) (A T R:Array Value) (HA:Hid (A=enc s)) (HT:Hid (T=enc t)) (HR:Hid (enc (join s t)=R)) (w:World):
  Calls Tryz.prog 201 #[.agg A,.agg T] w fun e w'=>e=.returned (.agg R)/\Below w.heap.size w w':=by
 go_enter Tryz.func201,Tryz.ntmps201
 go_wp2
 go_loopw [6] (fun i wr=>∃ k:Nat,k<=32/\i=.int .i64 k/\Below w.heap.size w wr/\Hid (wr.heap[w.heap.size]? = some (.cells (enc (qpv s (join s t) k)) 76 (0,0)))/\Hid (wr.heap[w.heap.size+1]? = some (.cells (enc t) 76 (0,0)))
   /\Hid (∃ Z,wr.heap[w.heap.size+2]? = some (.cells Z 76 (0,0))/\Z.size=32)) (fun i _=>32 - (intOf i).toNat)
 case atStart=>
  refine⟨0,by omega,rfl,(((Below.refl _ _).alloc (Nat.le_refl _) _).alloc (by simp) _).alloc (by simp;omega) _,?_,?_,⟨_,qcm _ _ _ (by simp),rfl⟩⟩
  ·rw[ybrs,<-HA.out]
   exact (Below.heap_alloc _ _ _ (by simp;omega)).trans ((Below.heap_alloc _ _ _ (by simp)).trans (heap_alloc_new _ _))
  ·rw[<-HT.out]
   exact (Below.heap_alloc _ _ _ (by simp)).trans (qcm _ _ _ (by simp))
 case round=>
  obtain⟨k,hk,rfl,HB,H0,H1,H2⟩:=hrel
  by_cases hlt:k<32
  ·have c0:wr.cell? ⟨w.heap.size,k,none⟩=some (.int .u8 (qbq s k)):=by rw[cell_of_row _ _ k _ _ _ H0.out,qdh _ _ hlt,ybgt]
   have c1:wr.cell? ⟨w.heap.size+1,k,none⟩=some (.int .u8 (qbq t k)):=by rw[cell_of_row _ _ k _ _ _ H1.out,qdh _ _ hlt]
   have f0:wr.frozen? ⟨w.heap.size,k,none⟩=false:=frozen_of_row _ _ k _ _ H0.out
   go_wp2
   go_region
   all_goals
    go_wp2
    go_roundw
    case rel=>
     refine⟨k+1,by omega,by go_num,(HB.setCell (Nat.le_refl _) _).drew,?_,(heap_setCell_other _ _ _ _ (by simp)).trans H1.out,?_⟩
     ·rw[ybbd]
      exact (heap_setCell_same _ _ _ _ _ _ H0.out).trans (by rw[ybxk s (join s t) k hlt])
     ·obtain⟨Z,h1,h2⟩:=H2.out
      exact⟨Z,(heap_setCell_other _ _ _ _ (by simp)).trans h1,h2⟩
    case measure=>simp[intOf];omega
  ·obtain rfl:k=32:=by omega
   obtain⟨Z,h1,h2⟩:=H2.out
   have G1:=Lib.hid h1
   have G2:=Lib.hid h2
   have G0:Hid (wr.heap[w.heap.size]? = some (.cells R 76 (0,0))):=by have:=H0.out;rw[yblf,HR.out]at this;exact this
   have HS:Hid (R.size=32):=by rw[<-HR.out];exact qau _
   have HO:Hid (R.all (·.oneCell')=true):=by rw[<-HR.out];exact qit _
   clear h1 h2 H0 H2
   go_wp2_with (first
    | (refine wpList_load_row rfl 76 (.tmp 2) rfl w.heap.size rfl 76 R (0,0) _ G0.out setT rfl (by rw[HS.out];exact setI) ?_)
    | (refine wpList_store_row rfl 76 (.tmp 4) (.tmp 18) rfl (w.heap.size+2) R rfl rfl 76 Z G1.out (by rw[HS.out];exact setI) (by rw[HS.out,G2.out]) HO.out ?_))
   refine bodyPost_ret (results_cell_row rfl _ _ (w.heap.size+2) 76 R (0,0) _ rfl (setRow_heap _ _ _ _ _ _ G1.out) setT rfl (by rw[HS.out];exact setI)) rfl ⟨rfl,?_⟩
   exact Below.setRow HB (by omega) _
theorem ybsr (s t:Nat->Bool) (w:World):
  Calls Tryz.prog 201 #[.agg (enc s),.agg (enc t)] w fun e w'=>e=.returned (.agg (enc (join s t)))/\Below w.heap.size w w':=ybss s t _ _ _ rfl rfl rfl w
def ybqk (s:Nat->Bool) (lo hi:Nat) (e:Ending):Prop:=
 (∃ n:Nat,lo<=n/\n<hi/\s n=false/\(∀ m,lo<=m->m<n->s m=true)/\e=.returned (.tuple #[.int .i64 n,.int .i64 0])) \/
 ((∀ m,lo<=m->m<hi->s m=true)/\e=.returned (.tuple #[.int .i64 0,.int .i64 6]))
def Upto (s:Nat->Bool) (lo k:Nat):Prop:=∀ m,lo<=m->m<k->m<256->s m=true
theorem ybll (s : Nat → Bool) (A : Array Value) (HA : Hid (A = enc s)) (lo be : Nat) (w : World) (h0 : lo ≤ 1000) (h1 : be ≤ 1000) :
    Calls Tryz.prog 172 #[.agg A, .int .i64 lo, .int .i64 be] w fun e w' => ybqk s lo (min be 256) e ∧ Below w.heap.size w w' := by
  have HS : Hid (A.size = 32) := by rw [HA.out]; exact qau s
  rcases Nat.eq_zero_or_pos lo with hl | hl <;> by_cases hb : be ≤ 256
  all_goals
    obtain ⟨hi, Hhi, hh0, hh1⟩ : ∃ hi : Nat, Hid (min be 256 = hi) ∧ hi ≤ 256 ∧ (hi ≤ be ∧ (be ≤ hi ∨ 256 ≤ hi)) := ⟨_, rfl, by omega, by omega, by omega⟩
    obtain ⟨hh1, hh2⟩ := hh1
    first | (have hbI : ¬ ((256 : Int) < (be : Int)) := by omega) | (have hbI : (256 : Int) < (be : Int) := by omega)
    have HL := Lib.hid hl
    first | (have hz : ¬ 0 < lo := by omega) | (have hz : 0 < lo := hl)
    clear hl
    go_enter Tryz.func172, Tryz.ntmps172
    go_wp2
    go_loopw [8] (fun i wr => ∃ k : Nat, lo ≤ k ∧ k ≤ 1010 ∧ i = .int .i64 k ∧ Below w.heap.size w wr ∧ Hid (wr.heap[w.heap.size]? = some (.cells A 76 (0, 0))) ∧ Hid (Upto s lo k)) (fun i _ => 1020 - (intOf i).toNat)
    case atStart =>
      refine ⟨lo, by omega, by omega, by first | rfl | (rw [HL.out]; rfl), (Below.refl _ _).alloc (Nat.le_refl _) _, heap_alloc_new _ _, fun m hm hm' => by omega⟩
    case round =>
      obtain ⟨k, hk0, hk1, rfl, HB, H0, HU⟩ := hrel
      by_cases hlt : k < hi
      · have c0 : wr.cell? ⟨w.heap.size, k / 8, none⟩ = some (.int .u8 (qbq s (k / 8))) := by rw [cell_of_row _ _ _ _ _ _ H0.out, HA.out, qdh _ _ (by omega)]
        have hbl := qxq s (k / 8)
        have hlt1 : k < be := by omega
        have hlt2 : k < 256 := by omega
        by_cases hm : (k : Int) % 8 = 0 ∧ qbq s (k / 8) = 255
        · obtain ⟨hm1, hm2⟩ := hm
          have hm1' : ((k : Int) % 8 == 0) = true := by simpa using hm1
          have hm2' : ((qbq s (k / 8) : Int) == 255) = true := by rw [beq_iff_eq]; omega
          have HF : Hid (Upto s lo (k + 8)) := fun m h1 h2 h3 => by
            by_cases h4 : m < k
            · exact HU.out m h1 h4 h3
            · have := ybbc hm2 (m - k) (by omega)
              rwa [show 8 * (k / 8) + (m - k) = m by omega] at this
          clear hm1 hm2
          go_wp2
          go_roundw
          case rel => exact ⟨k + 8, by omega, by omega, by go_num, HB, H0, HF⟩
          case measure => simp [intOf]; omega
        · have hgo : ((k : Int) % 8 == 0) = false ∨ (((k : Int) % 8 == 0) = true ∧ ((qbq s (k / 8) : Int) == 255) = false) := by
            by_cases h1 : (k : Int) % 8 = 0
            · right
              refine ⟨by simpa using h1, ?_⟩
              rw [beq_eq_false_iff_ne]
              intro h2
              exact hm ⟨h1, by omega⟩
            · left; simpa using h1
          clear hm
          have HC : ∀ W : World, Calls Tryz.prog 125 #[.agg A, .int .i64 k] W fun e w' => e = .returned (.bool (s k)) ∧ Below W.heap.size W w' := fun W => by
            rw [HA.out]; exact ybml s k W (by omega) (by omega)
          have HH := Lib.hid HC
          clear HC
          rcases hgo with hg | ⟨hg, hg2⟩ <;> cases hs : s k
          all_goals
            have HSk := Lib.hid hs
            clear hs
            go_wp2_with (first
              | (refine wpList_load_row rfl 76 (.tmp 3) rfl w.heap.size rfl 76 A (0, 0) _ H0.out setT rfl (by rw [HS.out]; exact setI) ?_)
              | (go_at_call 125; refine (HH.out _).mono ?_; rw [HSk.out]; rintro e w' ⟨rfl, hb1⟩))
            first
              | (go_ret2
                 refine ⟨Or.inl ⟨k, by omega, ?_, HSk.out, fun m h1 h2 => HU.out m (by omega) h2 (by omega), rfl⟩, HB.trans (hb1.mono HB.size)⟩
                 rw [Hhi.out]; exact hlt)
              | (go_roundw
                 case rel =>
                   refine ⟨k + 1, by omega, by omega, by go_num, HB.trans (hb1.mono HB.size), (hb1.block _ (Array.getElem?_eq_some_iff.1 H0.out).1).trans H0.out, fun m h1 h2 h3 => ?_⟩
                   by_cases h4 : m = k
                   · rw [h4]; exact HSk.out
                   · exact HU.out m h1 (by omega) h3
                 case measure => simp [intOf]; omega)
      · have hge : ¬ (k < be ∧ k < 256) := by omega
        have hge1 : 256 < be → ¬ k < 256 := by omega
        have hge2 : be ≤ 256 → ¬ k < be := by omega
        first
          | (have hge3 : ¬ k < be := hge2 hb)
          | (have hge3 : ¬ k < 256 := hge1 (by omega))
        clear hge hge1 hge2
        go_wp2
        go_ret2
        refine ⟨Or.inr ⟨fun m h1 h2 => HU.out m (by omega) ?_ ?_, rfl⟩, HB⟩
        · rw [Hhi.out] at h2; omega
        · rw [Hhi.out] at h2; omega
theorem ybhn (s:Nat->Bool) (lo be:Int) (n:Nat) (w:World) (h0:0<=lo) (h1:lo<=1000) (h2:0<=be) (h3:be<=1000) (g0:lo<=n) (g1:(n:Int)<be) (g2:n<256) (g3:s n=false) (g4:∀ m:Nat,lo<=m->m<n->s m=true):
  Calls Tryz.prog 172 #[.agg (enc s),.int .i64 lo,.int .i64 be] w fun e w'=>e=.returned (.tuple #[.int .i64 n,.int .i64 0])/\Below w.heap.size w w':=by
 obtain⟨a,rfl⟩:=Int.eq_ofNat_of_zero_le h0
 obtain⟨b,rfl⟩:=Int.eq_ofNat_of_zero_le h2
 refine (ybll s _ rfl a b w (by omega) (by omega)).mono fun e w' ⟨he,hb⟩=>⟨?_,hb⟩
 rcases he with⟨k,k0,k1,k2,k3,rfl⟩ | ⟨hall,_⟩
 ·obtain rfl:k=n:=by
   rcases Nat.lt_trichotomy k n with h | h | h
   ·have:=g4 k (by omega) h;rw[k2]at this;cases this
   ·exact h
   ·have:=k3 n (by omega) h;rw[g3]at this;cases this
  rfl
 ·have:=hall n (by omega) (by omega);rw[g3]at this;cases this
def emp : Nat->Bool:=fun _=>false
theorem ybxi : #[Value.int IntKind.u8 0,Value.int IntKind.u8 0,Value.int IntKind.u8 0,Value.int IntKind.u8 0,Value.int IntKind.u8 0,Value.int IntKind.u8 0,Value.int IntKind.u8 0,Value.int IntKind.u8 0,Value.int IntKind.u8 0,Value.int IntKind.u8 0,Value.int IntKind.u8 0,Value.int IntKind.u8 0,Value.int IntKind.u8 0,Value.int IntKind.u8 0,Value.int IntKind.u8 0,Value.int IntKind.u8 0,Value.int IntKind.u8 0,Value.int IntKind.u8 0,Value.int IntKind.u8 0,Value.int IntKind.u8 0,Value.int IntKind.u8 0,Value.int IntKind.u8 0,Value.int IntKind.u8 0,Value.int IntKind.u8 0,Value.int IntKind.u8 0,Value.int IntKind.u8 0,Value.int IntKind.u8 0,Value.int IntKind.u8 0,Value.int IntKind.u8 0,Value.int IntKind.u8 0,Value.int IntKind.u8 0,Value.int IntKind.u8 0]=enc emp:=by kernel_rfl
theorem setZ : ∀ w,(zeroValue 76).run Tryz.prog w=.ok (.agg (enc emp)) w:=(zero_of_info (P:=Tryz.prog) (t:=76) (v:=.agg (enc emp)) (n:=32) (by rw[<-ybxi];kernel_rfl)).1
end Go.Proofs.YtpoglnpjadmbpaaGreatDoor
