/- Part of the proofs of FsLinks: the texts GRight, GCs, GOps, GTd. -/
import Derived.Test.YtpoglnpjadmbpaaGreatDoorKA29
import Derived.Maps.Own
import Derived.Maps.OwnOps
set_option maxHeartbeats 16000000
set_option maxRecDepth 100000
namespace Go.Proofs.YtpoglnpjadmbpaaGreatDoor
open Go.RowKit Go.Maps
def mapS (S:List Nat):DataW Value:=S.foldl (fun D n=>D.put (keyL n) (.held (.bool true))) (.map [])
theorem qsa (S:List Nat) (n:Nat):mapS (S++[n])=(mapS S).put (keyL n) (.held (.bool true)):=by unfold mapS;rw[List.foldl_append];rfl
theorem ybyo (S:List Nat):∀ k,k<=S.length->IsMap (mapS (S.take k))/\∀ n,(mapS (S.take k)).atKey (keyL n) (.held (.bool false))=.held (.bool ((S.take k).contains n)):=by
 intro k
 induction k with
 | zero=>intro _;exact⟨isMap_empty,fun n=>by rw[atKey_of_not_has (by simp[mapS,has])];rfl⟩
 | succ k ih=>
  intro hk
  obtain⟨h1,h2⟩:=ih (by omega)
  have e1:S.take (k+1)=S.take k++[S[k]]:=(List.take_append_getElem (show k<S.length by omega)).symm
  rw[e1,qsa]
  refine⟨h1.put _ _,fun n=>?_⟩
  by_cases e:n=S[k]
  ·subst e
   rw[atKey_put_same h1 (qqf _)]
   have:(S.take k++[S[k]]).contains S[k]=true:=by rw[List.contains_iff_mem];exact List.mem_append_right _ (List.mem_singleton.2 rfl)
   rw[this]
  ·rw[atKey_put_other (fun h=>e (qwi h)),h2]
   have this:(S.take k++[S[k]]).contains n=(S.take k).contains n:=by
    rw[Bool.eq_iff_iff,List.contains_iff_mem,List.contains_iff_mem,List.mem_append,List.mem_singleton]
    exact⟨fun h=>h.resolve_right e,Or.inl⟩
   rw[this]
theorem ybnh (S:List Nat) (n:Nat):(mapS S).atKey (keyL n) (.held (.bool false))=.held (.bool (S.contains n)):=by
 have:=(ybyo S S.length (Nat.le_refl _)).2 n
 rwa [List.take_length]at this
def rJ : List Nat->List (Nat × Nat)->Int
 | _,[]=>0
 | S,x :: r=>if 80<=x.1\/(5<=x.1/\x.1<37)\/x.2 ≠ 64 then 1 else if S.contains x.1=true then 5 else rJ (S++[x.1]) r
def jnl (x:Jw):Nat × Nat:=(x.n,x.D.length)
def qso (E:List Jw):Int:=if 30<E.length then 2 else rJ [] (E.map jnl)
theorem ybzj {E:List Jw} {k:Nat} (hk:k<E.length) (S:List Nat):rJ S ((E.drop k).map jnl)=if 80<=E[k].n\/(5<=E[k].n/\E[k].n<37)\/E[k].D.length ≠ 64 then 1 else if S.contains E[k].n=true then 5 else rJ (S++[E[k].n]) ((E.drop (k+1)).map jnl):=by
 rw[List.drop_eq_getElem_cons hk,List.map_cons,rJ]
 rfl
def ybkd (x:Jw):Prop:=x.n<256/\x.D.length<=1000/\∃ p c,x.v=.slice p x.D.length c
theorem ybtk : Tryz.prog.underlying 83=some (.map 3 4):=by kernel_rfl
theorem ybzl {w:World} {a:Addr} {sq:Int} {gl:Nat} (hl:w.heap[gl]? = some (.cells (logC a sq) 165 (0,0))):Calls Tryz.prog 142 #[.pointer (some ⟨gl,0,none⟩)] w fun e w'=>e=.returned (.int .i64 30)/\w=w':=by
 have c2:w.cell? ⟨gl,2,none⟩=some (.int .i64 32):=cell_of_row _ _ _ _ _ _ hl
 have hlt:=qac hl
 clear hl
 go_enter Tryz.func142,Tryz.ntmps142
 go_wp2
 go_ret
 exact⟨rfl,rfl⟩
theorem ybun {w:World} {a:Addr} {st:Dk} {F:Nat->Prop} {sq:Int} {gl:Nat} (h:qaw w (.pointer (some a)) st 80 F) (hl:w.heap[gl]? = some (.cells (logC a sq) 165 (0,0))) (v:Value) (E:List Jw) (hv:qai w v 2 E.length (qhl E)) (hE:∀ x ∈ E,ybkd x) (hn:E.length<=1000):
  Calls Tryz.prog 104 #[.pointer (some ⟨gl,0,none⟩),v] w fun e w'=>e=.returned (.int .i64 (qso E))/\Below w.heap.size w w':=by
 have HD:=Lib.hid h
 have HL:=Lib.hid hl
 have HRO:=Lib.hid (ybzl hl)
 obtain⟨p,cp,rfl,HP⟩:=qqe hv
 have HE:=Lib.hid hE
 obtain⟨N,HN⟩:∃ N,Hid (E.length=N):=⟨_,rfl⟩
 rw[HN.out]at HP hn
 rw[HN.out]
 have hltl:=qac hl
 clear h hl hv hE
 have HOM:Hid ((w.alloc (.map #[] 0)).ownsMap Tryz.prog 3 RV w.heap.size 0 (.map [])):=World.ownsMap_made w Tryz.prog 3 RV
 have hmm:=@run_makeMap Tryz.prog
 go_enter Tryz.func104,Tryz.ntmps104
 go_wp2_with fail
 refine HRO.out.mono ?_
 rintro e w' ⟨rfl,rfl⟩
 by_cases h4:30<N
 ·have d1:decide ((30:Int)<(N:Int))=true:=by rw[decide_eq_true_iff];omega
  have d2:decide (30<N)=true:=by rw[decide_eq_true_iff];omega
  have HI:Hid (qso E=2):=by show _=_;unfold qso;rw[HN.out,if_pos h4]
  go_wp2
  go_ret
  rw[HI.out]
  exact⟨rfl,Below.refl _ _⟩
 have d1:decide ((30:Int)<(N:Int))=false:=by rw[decide_eq_false_iff_not];omega
 have d2:decide (30<N)=false:=by rw[decide_eq_false_iff_not];omega
 have HI:Hid (qso E=rJ [] (E.map jnl)):=by show _=_;unfold qso;rw[HN.out,if_neg h4]
 go_wp2
 clear hmm
 go_loopw [16] (fun i wr=>∃ k:Nat,k<=N/\i=.int .i64 k/\Hid (wr.ownsMap Tryz.prog 3 RV w.heap.size k (mapS ((E.take k).map fun x=>x.n)))/\Hid (rJ [] (E.map jnl)=rJ ((E.take k).map fun x=>x.n) ((E.drop k).map jnl))/\Hid (Below w.heap.size w wr)) (fun i _=>N - (intOf i).toNat)
 case atStart=>exact⟨0,Nat.zero_le _,rfl,HOM,rfl,(Below.refl _ _).alloc (Nat.le_refl _) _⟩
 case round=>
  obtain⟨k,hk,rfl,HM,HRJ,HB⟩:=hrel
  by_cases hlt:k<N
  ·obtain⟨g,o,rfl,hg,hc⟩:=HP.out (by omega)
   have hkl:k<E.length:=by rw[HN.out];exact hlt
   obtain⟨e0,e1⟩:=qgo E k hkl
   have hsh:=HE.out E[k] (List.getElem_mem hkl)
   have hst:=ybzj hkl ((E.take k).map fun x=>x.n)
   rw[<-HRJ.out]at hst
   have htk:(E.take (k+1)).map (fun x=>x.n)=(E.take k).map (fun x=>x.n)++[E[k].n]:=by rw[<-List.take_append_getElem hkl,List.map_append];rfl
   generalize E[k]=x at e0 e1 hsh hst htk
   obtain⟨xn,xv,xD⟩:=x
   obtain⟨hx256,hx1000,px,cx,hxs⟩:=hsh
   dsimp only at hxs e0 e1 hst htk hx256 hx1000
   obtain⟨xl,Hxl⟩:∃ l,Hid (xD.length=l):=⟨_,rfl⟩
   rw[Hxl.out]at hxs hst hx1000
   subst hxs
   have c0:=(HB.out.cell (p:=⟨g,o+k*2,none⟩) hg).trans (hc _ _ e0)
   have c1:=(HB.out.cell (p:=⟨g,o+(k*2+1),none⟩) hg).trans (hc _ _ e1)
   rw[<-Nat.add_assoc]at c1
   have hlt2:(k:Int)<(N:Int):=by omega
   have hgl:g<wr.heap.size:=Nat.lt_of_lt_of_le hg HB.out.size
   have hgn:¬ g=wr.heap.size:=by omega
   have hlr:gl<wr.heap.size:=Nat.lt_of_lt_of_le hltl HB.out.size
   have hlrn:¬ gl=wr.heap.size:=by omega
   have hlw:=qaa HB.out HL.out
   have l0:wr.cell? ⟨gl,0,none⟩=some (.pointer (some a)):=cell_of_row _ _ _ _ _ _ hlw
   have l1:wr.cell? ⟨gl,1,none⟩=some (.int .i64 5):=cell_of_row _ _ _ _ _ _ hlw
   have l2:wr.cell? ⟨gl,2,none⟩=some (.int .i64 32):=cell_of_row _ _ _ _ _ _ hlw
   have HBA:Hid (Below w.heap.size w (wr.alloc (.cells #[.int .i64 (xn:Int),.slice px xl cx] 169))):=HB.out.alloc HB.out.size _
   have HSZ:Hid (∀ n,Calls Tryz.prog 41 #[.pointer (some a)] ((wr.alloc (.cells #[.int .i64 (xn:Int),.slice px xl cx] 169)).drewN n) fun e w'=>e=.returned (.int .i64 ((80:Nat):Int))/\w'=(wr.alloc (.cells #[.int .i64 (xn:Int),.slice px xl cx] 169)).drewN n):=fun n=>(qfz ((HD.out.below HBA.out).drewN n)).mono fun e w' h=>⟨h.1,h.2.symm⟩
   have HST:=Lib.hid hst
   have HTK:=Lib.hid htk
   have b0:decide ((xn:Int)<0)=false:=by rw[decide_eq_false_iff_not];omega
   clear hc e0 e1 hst htk hlw
   by_cases h20:80<=xn
   ·have q1:decide ((80:Int)<=(xn:Int))=true:=by rw[decide_eq_true_iff];omega
    have q1':decide (80<=xn)=true:=by rw[decide_eq_true_iff];omega
    have HR1:Hid (rJ [] (E.map jnl)=1):=by show _=_;rw[HST.out,if_pos (Or.inl h20)]
    clear h20
    go_wp2
    go_quiet ((go_at_call 41;exact Calls.quiet_of_same (HSZ.out _)))
    go_wp2
    go_ret
    rw[HI.out,HR1.out]
    exact⟨rfl,qfn HBA.out _⟩
   have q1:decide ((80:Int)<=(xn:Int))=false:=by rw[decide_eq_false_iff_not];omega
   have q1':decide (80<=xn)=false:=by rw[decide_eq_false_iff_not];omega
   by_cases h28:5<=xn/\xn<37
   ·have q2:decide ((5:Int)<=(xn:Int))=true:=by rw[decide_eq_true_iff];omega
    have q2':decide (5<=xn)=true:=by rw[decide_eq_true_iff];omega
    have q3:decide ((xn:Int)<37)=true:=by rw[decide_eq_true_iff];omega
    have q3':decide (xn<37)=true:=by rw[decide_eq_true_iff];omega
    have HR1:Hid (rJ [] (E.map jnl)=1):=by show _=_;rw[HST.out,if_pos (Or.inr (Or.inl h28))]
    clear h20 h28
    go_wp2
    go_quiet ((go_at_call 41;exact Calls.quiet_of_same (HSZ.out _)))
    go_wp2
    go_ret
    rw[HI.out,HR1.out]
    exact⟨rfl,qfn HBA.out _⟩
   by_cases h2:xn<5
   ·have q2:decide ((5:Int)<=(xn:Int))=false:=by rw[decide_eq_false_iff_not];omega
    have q2':decide (5<=xn)=false:=by rw[decide_eq_false_iff_not];omega
    clear h2
    by_cases h64:xl=64
    case neg=>
     have q4:((xl:Int) == 64)=false:=by rw[beq_eq_false_iff_ne];omega
     have q5:((xl:Int) != 64)=true:=by simp[bne,q4]
     have HR1:Hid (rJ [] (E.map jnl)=1):=by show _=_;rw[HST.out,if_pos (Or.inr (Or.inr h64))]
     clear h20 h28 h64
     go_wp2
     go_quiet ((go_at_call 41;exact Calls.quiet_of_same (HSZ.out _)))
     go_wp2
     go_ret
     rw[HI.out,HR1.out]
     exact⟨rfl,qfn HBA.out _⟩
    subst h64
    have HST2:Hid (rJ [] (E.map jnl)=if ((E.take k).map fun x=>x.n).contains xn=true then 5 else rJ (((E.take k).map fun x=>x.n)++[xn]) ((E.drop (k+1)).map jnl)):=by
     show _=_
     rw[HST.out,if_neg (by intro h;rcases h with h | h | h;exact h20 h;exact h28 h;exact h rfl)]
    clear h20 h28 HST
    obtain⟨cb,Hcb⟩:∃ b,Hid (((E.take k).map fun x=>x.n).contains xn=b):=⟨_,rfl⟩
    rw[Hcb.out]at HST2
    have HKEY:Hid (keyOf Tryz.prog 3 (.int .i64 (xn:Int))=some (keyL xn)):=keyOf_int_mk (by kernel_rfl) (ybpy xn hx256)
    go_wp2
    go_quiet ((go_at_call 41;exact Calls.quiet_of_same (HSZ.out _)))
    have HBW:Hid (Below w.heap.size w ((wr.alloc (.cells #[.int .i64 (xn:Int),.slice px 64 cx] 169)).drewN nq)):=qfn HBA.out nq
    have HMA:Hid (((wr.alloc (.cells #[.int .i64 (xn:Int),.slice px 64 cx] 169)).drewN nq).ownsMap Tryz.prog 3 RV w.heap.size k (mapS ((E.take k).map fun x=>x.n))):=HM.out.alloc _
    have x0:((wr.alloc (.cells #[.int .i64 (xn:Int),.slice px 64 cx] 169)).drewN nq).cell? ⟨wr.heap.size,0,none⟩=some (.int .i64 (xn:Int)):=cell_of_row _ _ _ _ _ _ (heap_alloc_new wr _)
    have xz:wr.heap.size<((wr.alloc (.cells #[.int .i64 (xn:Int),.slice px 64 cx] 169)).drewN nq).heap.size:=by simp[World.drewN]
    obtain⟨vb,psb,hrun,hvb⟩:=HMA.out.lookup (t:=83) (e:=4) qiw ybtk (z:=.bool false) (by kernel_rfl) (zd:=.held (.bool false)) (zp:=[]) rfl HKEY.out
    rw[ybnh,Hcb.out]at hvb
    have hvb2:vb=.bool cb:=by
     unfold RV at hvb
     simp at hvb
     exact hvb.1
    rw[hvb2]at hrun
    generalize (wr.alloc (.cells #[.int .i64 (xn:Int),.slice px 64 cx] 169)).drewN nq=w5 at *
    have hz5:w.heap.size<=w5.heap.size:=HBW.out.size
    clear hvb hvb2 c0 c1 l0 l1 l2
    cases cb with
    | true=>
     have HR1:Hid (rJ [] (E.map jnl)=5):=by show _=_;rw[HST2.out,if_pos rfl]
     go_wp2
     go_ret
     rw[HI.out,HR1.out]
     exact⟨rfl,HBW.out⟩
    | false=>
     have HR1:Hid (rJ [] (E.map jnl)=rJ ((E.take (k+1)).map fun x=>x.n) ((E.drop (k+1)).map jnl)):=by show _=_;rw[HST2.out,if_neg (by simp),HTK.out]
     go_wp2_with (at_mapUpdate;refine wpList_mapUpdate_own _ rfl _ _ _ 83 rfl 3 4 qiw ybtk RV w.heap.size k (mapS ((E.take k).map fun x=>x.n)) rfl HMA.out (by unfold maxLen;omega) _ _ (keyL xn) rfl rfl HKEY.out _ [] rfl ?_;intro w6 hown hgrow)
     have HM6:Hid (w6.ownsMap Tryz.prog 3 RV w.heap.size (k+1) (mapS ((E.take (k+1)).map fun x=>x.n))):=by show World.ownsMap _ _ _ _ _ _ _;rw[HTK.out,qsa];exact hown
     have HB6:Hid (Below w.heap.size w w6):=HBW.out.grown hgrow hz5 (by intro r hr;simp at hr;omega)
     clear hown hgrow
     go_wp2
     go_roundw
     case rel=>exact⟨k+1,by omega,by go_num,HM6,HR1,HB6⟩
     case measure=>simp[intOf];omega
   ·have q2:decide ((5:Int)<=(xn:Int))=true:=by rw[decide_eq_true_iff];omega
    have q2':decide (5<=xn)=true:=by rw[decide_eq_true_iff];omega
    have q3:decide ((xn:Int)<37)=false:=by rw[decide_eq_false_iff_not];omega
    have q3':decide (xn<37)=false:=by rw[decide_eq_false_iff_not];omega
    clear h2
    by_cases h64:xl=64
    case neg=>
     have q4:((xl:Int) == 64)=false:=by rw[beq_eq_false_iff_ne];omega
     have q5:((xl:Int) != 64)=true:=by simp[bne,q4]
     have HR1:Hid (rJ [] (E.map jnl)=1):=by show _=_;rw[HST.out,if_pos (Or.inr (Or.inr h64))]
     clear h20 h28 h64
     go_wp2
     go_quiet ((go_at_call 41;exact Calls.quiet_of_same (HSZ.out _)))
     go_wp2
     go_ret
     rw[HI.out,HR1.out]
     exact⟨rfl,qfn HBA.out _⟩
    subst h64
    have HST2:Hid (rJ [] (E.map jnl)=if ((E.take k).map fun x=>x.n).contains xn=true then 5 else rJ (((E.take k).map fun x=>x.n)++[xn]) ((E.drop (k+1)).map jnl)):=by
     show _=_
     rw[HST.out,if_neg (by intro h;rcases h with h | h | h;exact h20 h;exact h28 h;exact h rfl)]
    clear h20 h28 HST
    obtain⟨cb,Hcb⟩:∃ b,Hid (((E.take k).map fun x=>x.n).contains xn=b):=⟨_,rfl⟩
    rw[Hcb.out]at HST2
    have HKEY:Hid (keyOf Tryz.prog 3 (.int .i64 (xn:Int))=some (keyL xn)):=keyOf_int_mk (by kernel_rfl) (ybpy xn hx256)
    go_wp2
    go_quiet ((go_at_call 41;exact Calls.quiet_of_same (HSZ.out _)))
    have HBW:Hid (Below w.heap.size w ((wr.alloc (.cells #[.int .i64 (xn:Int),.slice px 64 cx] 169)).drewN nq)):=qfn HBA.out nq
    have HMA:Hid (((wr.alloc (.cells #[.int .i64 (xn:Int),.slice px 64 cx] 169)).drewN nq).ownsMap Tryz.prog 3 RV w.heap.size k (mapS ((E.take k).map fun x=>x.n))):=HM.out.alloc _
    have x0:((wr.alloc (.cells #[.int .i64 (xn:Int),.slice px 64 cx] 169)).drewN nq).cell? ⟨wr.heap.size,0,none⟩=some (.int .i64 (xn:Int)):=cell_of_row _ _ _ _ _ _ (heap_alloc_new wr _)
    have xz:wr.heap.size<((wr.alloc (.cells #[.int .i64 (xn:Int),.slice px 64 cx] 169)).drewN nq).heap.size:=by simp[World.drewN]
    obtain⟨vb,psb,hrun,hvb⟩:=HMA.out.lookup (t:=83) (e:=4) qiw ybtk (z:=.bool false) (by kernel_rfl) (zd:=.held (.bool false)) (zp:=[]) rfl HKEY.out
    rw[ybnh,Hcb.out]at hvb
    have hvb2:vb=.bool cb:=by
     unfold RV at hvb
     simp at hvb
     exact hvb.1
    rw[hvb2]at hrun
    generalize (wr.alloc (.cells #[.int .i64 (xn:Int),.slice px 64 cx] 169)).drewN nq=w5 at *
    have hz5:w.heap.size<=w5.heap.size:=HBW.out.size
    clear hvb hvb2 c0 c1 l0 l1 l2
    cases cb with
    | true=>
     have HR1:Hid (rJ [] (E.map jnl)=5):=by show _=_;rw[HST2.out,if_pos rfl]
     go_wp2
     go_ret
     rw[HI.out,HR1.out]
     exact⟨rfl,HBW.out⟩
    | false=>
     have HR1:Hid (rJ [] (E.map jnl)=rJ ((E.take (k+1)).map fun x=>x.n) ((E.drop (k+1)).map jnl)):=by show _=_;rw[HST2.out,if_neg (by simp),HTK.out]
     go_wp2_with (at_mapUpdate;refine wpList_mapUpdate_own _ rfl _ _ _ 83 rfl 3 4 qiw ybtk RV w.heap.size k (mapS ((E.take k).map fun x=>x.n)) rfl HMA.out (by unfold maxLen;omega) _ _ (keyL xn) rfl rfl HKEY.out _ [] rfl ?_;intro w6 hown hgrow)
     have HM6:Hid (w6.ownsMap Tryz.prog 3 RV w.heap.size (k+1) (mapS ((E.take (k+1)).map fun x=>x.n))):=by show World.ownsMap _ _ _ _ _ _ _;rw[HTK.out,qsa];exact hown
     have HB6:Hid (Below w.heap.size w w6):=HBW.out.grown hgrow hz5 (by intro r hr;simp at hr;omega)
     clear hown hgrow
     go_wp2
     go_roundw
     case rel=>exact⟨k+1,by omega,by go_num,HM6,HR1,HB6⟩
     case measure=>simp[intOf];omega
  ·have HF:Hid (rJ [] (E.map jnl)=0):=by
    show _=_
    rw[HRJ.out,List.drop_of_length_le (by rw[HN.out];omega)]
    rfl
   go_wp2
   go_ret
   rw[HI.out,HF.out]
   exact⟨rfl,HB.out⟩
end Go.Proofs.YtpoglnpjadmbpaaGreatDoor
namespace Go.Proofs.YtpoglnpjadmbpaaGreatDoor
open Go.RowKit
def CS (w:World) (a:Addr) (gl:Nat) (F:Nat->Prop) (st:Dk) (sq:Int) (G:Nat->Prop) (W:World):Prop:=
 ∃ F',qaw W (.pointer (some a)) st 80 F'/\(∀ i,F' i->F i\/w.heap.size<=i)/\(∀ i,G i->i<W.heap.size/\w.heap.size<=i/\¬ F' i)/\qab (fun i=>F i\/i=gl) w W/\W.heap[gl]? = some (.cells (logC a sq) 165 (0,0))
section
variable {w : World} {a : Addr} {gl : Nat} {F : Nat -> Prop} {st st' : Dk} {sq : Int} {G : Nat -> Prop} {W W' : World}
theorem CS.did (h:CS w a gl F st sq G W) (hgl:¬ F gl/\gl<w.heap.size) {F':Nat->Prop} (hF':∀ i,F' i->F i\/w.heap.size<=i) (hG:∀ i,G i->¬ F' i) (hd:Did (.pointer (some a)) st' 80 F' W W'):CS w a gl F st' sq G W'/\∀ i,G i->W'.heap[i]? = W.heap[i]? :=by
 obtain⟨F0,h1,h2,h3,h4,h5⟩:=h
 obtain⟨F2,d1,d2,d3⟩:=hd
 have hg2:∀ i,G i->i<W.heap.size/\w.heap.size<=i:=fun i hi=>⟨(h3 i hi).1,(h3 i hi).2.1⟩
 refine⟨⟨F2,d1,fun i hi=>?_,fun i hi=>⟨Nat.lt_of_lt_of_le (hg2 i hi).1 d3.size,(hg2 i hi).2,fun hc=>?_⟩,h4.trans d3 (fun i hi=>?_),?_⟩,fun i hi=>d3.block i (hg2 i hi).1 (hG i hi)⟩
 ·rcases d2 i hi with h | h
  ·exact hF' i h
  ·exact Or.inr (Nat.le_trans h4.size h)
 ·rcases d2 i hc with h | h
  ·exact hG i hi h
  ·have:=(hg2 i hi).1;omega
 ·rcases hF' i hi with h | h
  ·exact Or.inl (Or.inl h)
  ·exact Or.inr h
 ·refine (d3.block gl (qac h5) (fun hc=>?_)).trans h5
  rcases hF' gl hc with h | h
  ·exact hgl.1 h
  ·omega
theorem CS.mem (h:CS w a gl F st sq G W) (hgl:¬ F gl/\gl<w.heap.size) (hk:qab G W W'):CS w a gl F st sq (fun i=>G i\/(W.heap.size<=i/\i<W'.heap.size)) W':=by
 obtain⟨F0,h1,h2,h3,h4,h5⟩:=h
 refine⟨F0,h1.keep hk (fun i hi hg=>(h3 i hg).2.2 hi),h2,fun i hi=>?_,h4.trans hk (fun i hi=>Or.inr (h3 i hi).2.1),(hk.block gl (qac h5) (fun hg=>by have:=(h3 gl hg).2.1;omega)).trans h5⟩
 rcases hi with hi | ⟨h6,h7⟩
 ·exact⟨Nat.lt_of_lt_of_le (h3 i hi).1 hk.size,(h3 i hi).2.1,(h3 i hi).2.2⟩
 ·exact⟨h7,Nat.le_trans h4.size h6,fun hc=>by have:=h1.fin i hc;omega⟩
theorem CS.below (h:CS w a gl F st sq G W) (hgl:¬ F gl/\gl<w.heap.size) (hb:Below W.heap.size W W'):CS w a gl F st sq (fun i=>G i\/(W.heap.size<=i/\i<W'.heap.size)) W':=h.mem hgl (qab.of_below hb)
theorem CS.mono {G':Nat->Prop} (h:CS w a gl F st sq G W) (hG:∀ i,G' i->G i):CS w a gl F st sq G' W:=by
 obtain⟨F0,h1,h2,h3,h4,h5⟩:=h
 exact⟨F0,h1,h2,fun i hi=>h3 i (hG i hi),h4,h5⟩
theorem CS.drew (h:CS w a gl F st sq G W):CS w a gl F st sq G W.drew:=by
 obtain⟨F0,h1,h2,h3,h4,h5⟩:=h
 exact⟨F0,h1.drew,h2,h3,h4.drew,h5⟩
theorem CS.count (h:CS w a gl F st sq G W) (hgl:¬ F gl/\gl<w.heap.size) (sq':Int):CS w a gl F st sq' G (W.setCell ⟨gl,3,none⟩ (.int .u32 sq')):=by
 obtain⟨F0,h1,h2,h3,h4,h5⟩:=h
 have hk:qab (fun i=>i=gl) W (W.setCell ⟨gl,3,none⟩ (.int .u32 sq')):=qab.setCell (F:=fun i=>i=gl) rfl _
 refine⟨F0,h1.keep hk (fun i hi hg=>?_),h2,fun i hi=>⟨Nat.lt_of_lt_of_le (h3 i hi).1 hk.size,(h3 i hi).2⟩,h4.trans hk (fun i hi=>Or.inl (Or.inr hi)),?_⟩
 ·subst hg
  rcases h2 i hi with h | h
  ·exact hgl.1 h
  ·omega
 ·have:=qbu (i:=3) h5 (.int .u32 sq')
  simpa[logC]using this
theorem CS.log (h:CS w a gl F st sq G W):W.heap[gl]? = some (.cells (logC a sq) 165 (0,0)):=by
 obtain⟨F0,h1,h2,h3,h4,h5⟩:=h
 exact h5
theorem CS.cells (h:CS w a gl F st sq G W):W.cell? ⟨gl,0,none⟩=some (.pointer (some a))/\W.cell? ⟨gl,1,none⟩=some (.int .i64 5)/\W.cell? ⟨gl,2,none⟩=some (.int .i64 32)/\W.cell? ⟨gl,3,none⟩=some (.int .u32 sq)/\gl<W.heap.size/\W.frozen? ⟨gl,3,none⟩=false:=by
 have h5:=h.log
 exact⟨cell_of_row _ _ _ _ _ _ h5,cell_of_row _ _ _ _ _ _ h5,cell_of_row _ _ _ _ _ _ h5,cell_of_row _ _ _ _ _ _ h5,qac h5,frozen_of_row _ _ _ _ _ h5⟩
theorem CS.own (h:CS w a gl F st sq G W) {i:Nat} (hi:G i):i<W.heap.size:=by
 obtain⟨F0,h1,h2,h3,h4,h5⟩:=h
 exact (h3 i hi).1
theorem CS.keeps (h:CS w a gl F st sq G W):qab (fun i=>F i\/i=gl) w W:=by
 obtain⟨F0,h1,h2,h3,h4,h5⟩:=h
 exact h4
theorem CS.flush (h:CS w a gl F st sq G W) (hgl:¬ F gl/\gl<w.heap.size):Calls Tryz.prog 78 #[.pointer (some a)] W fun e W'=>e=.returned (.tuple #[])/\CS w a gl F (doE st barR) sq G W'/\∀ i,G i->W'.heap[i]? = W.heap[i]? :=by
 have h0:=h
 obtain⟨F0,h1,h2,h3,h4,h5⟩:=h
 exact (qwa h1).mono fun e W' ⟨he,hd⟩=>⟨he,h0.did hgl h2 (fun i hi=>(h3 i hi).2.2) hd⟩
theorem CS.write (h:CS w a gl F st sq G W) (hgl:¬ F gl/\gl<w.heap.size) (n:Nat) (hn:n<80) (g c:Nat) (D:List Int) (hD:D.length=64) (hg:G g) {cur:Array Value} (hh:W.heap[g]? = some (.cells cur 5 (0,0))) (ht:cur.toList.take 64=u8s D) (hW:st.W.length<1000000):
  Calls Tryz.prog 74 #[.pointer (some a),.int .i64 (n:Int),.slice (some ⟨g,0,none⟩) 64 c] W fun e W'=>e=.returned (.int .i64 0)/\CS w a gl F (doE st (n,D,false)) sq G W'/\∀ i,G i->W'.heap[i]? = W.heap[i]? :=by
 have h0:=h
 obtain⟨F0,h1,h2,h3,h4,h5⟩:=h
 rw[qrd]
 exact (qhq h1 n hn _ D hD (fun w' hk=>qav hD ((hk.block g (h3 g hg).1 (h3 g hg).2.2).trans hh) ht) hW).mono fun e W' ⟨he,hd⟩=>⟨he,h0.did hgl h2 (fun i hi=>(h3 i hi).2.2) hd⟩
theorem CS.write_arg (h:CS w a gl F st sq G W) (hgl:¬ F gl/\gl<w.heap.size) (n:Nat) (hn:n<80) {B:Nat} (hFB:∀ i,F i->i<B) {x:Jw} (hx:qjl w B x) (hW:st.W.length<1000000) (hgB:gl<B):
  Calls Tryz.prog 74 #[.pointer (some a),.int .i64 (n:Int),x.v] W fun e W'=>e=.returned (.int .i64 0)/\CS w a gl F (doE st (n,x.D,false)) sq G W'/\∀ i,G i->W'.heap[i]? = W.heap[i]? :=by
 have h0:=h
 obtain⟨F0,h1,h2,h3,h4,h5⟩:=h
 obtain⟨gx,cx,cur,hxv,hb1,hb2,hh,ht⟩:=ybcl hx h4 (fun i hi=>by
  rcases hi with hi | hi
  ·exact hFB i hi
  ·omega)
 have hD:x.D.length=64:=hx.2.1
 have hnF:¬ F0 gx:=fun hc=>by
  rcases h2 gx hc with h | h
  ·have:=hFB gx h;omega
  ·omega
 rw[qrd,hxv]
 exact (qhq h1 n hn _ x.D hD (fun w' hk=>qav hD ((hk.block gx (qac hh) hnF).trans hh) ht) hW).mono fun e W' ⟨he,hd⟩=>⟨he,h0.did hgl h2 (fun i hi=>(h3 i hi).2.2) hd⟩
end
def TD (W:World) (G:Nat->Prop) (b:Nat) (v:Value) (L:List Rb):Prop:=∃ E:List Rq,E.map rab=L/\W.ownsRow b 171 3 v E.length (qbe E)/\(∀ q,v.ownBlock=some q->G q)/\∀ x ∈ E,x.b=false/\x.n<256/\x.D.length=64/\∃ g cap cur,x.v=.slice (some ⟨g,0,none⟩) 64 cap/\G g/\W.heap[g]? = some (.cells cur 5 (0,0))/\cur.toList.take 64=u8s x.D
theorem TD.nil (W:World) (G:Nat->Prop) (b:Nat):TD W G b (.slice none 0 0) []:=⟨[],rfl,World.ownsRow_nil _ _ _ _,fun q hq=>by simp[Value.ownBlock]at hq,fun x hx=>by simp at hx⟩
theorem TD.keep {W W':World} {G G':Nat->Prop} {b:Nat} {v:Value} {L:List Rb} (h:TD W G b v L) (hk:∀ i,G i->W'.heap[i]? = W.heap[i]?) (hG:∀ i,G i->G' i):TD W' G' b v L:=by
 obtain⟨E,h1,h2,h3,h4⟩:=h
 refine⟨E,h1,qci h2 fun q hq=>hk q (h3 q hq),fun q hq=>hG q (h3 q hq),fun x hx=>?_⟩
 obtain⟨e1,e2,e3,g,cap,cur,e4,e5,e6,e7⟩:=h4 x hx
 exact⟨e1,e2,e3,g,cap,cur,e4,hG g e5,(hk g e5).trans e6,e7⟩
theorem TD.run {W:World} {G:Nat->Prop} {b:Nat} {v:Value} {L:List Rb} (h:TD W G b v L):∃ E:List Rq,E.map rab=L/\qge W v E/\∀ x ∈ E,RqOk W x:=by
 obtain⟨E,h1,h2,h3,h4⟩:=h
 refine⟨E,h1,qge.of_owns h2,fun x hx=>?_⟩
 obtain⟨e1,e2,e3,g,cap,cur,e4,e5,e6,e7⟩:=h4 x hx
 refine Or.inr ⟨e1,e2,?_,e3⟩
 rw[e4]
 exact qav e3 e6 e7
def zS : List Int:=List.replicate 64 0
def qps (sq:Int) (L:List Wr):Nat->List Int
 | 0=>over ((zS.set 0 74).set 5 (L.length:Int)) 1 (qck sq)
 | k+1=>(qps sq L k).set (6+k) (((L[k]?.getD (0,[])).1:Nat):Int)
def qyp (sq:Int) (L:List Wr):List Int:=qps sq L L.length
def ybag (sq sm:Int):List Int:=over (over (zS.set 0 67) 1 (qck sq)) 5 (qck sm)
def qpq (L:List Wr):Nat->List Rb
 | 0=>[]
 | k+1=>qpq L k++[(6+k,(L[k]?.getD (0,[])).2,false)]
def opsA (L:List Wr):List Rb:=[barR,(5,zS,false),barR]++qpq L L.length
def opsB (sq:Int) (L:List Wr):List Rb:=opsA L++[(6+L.length,zS,false),barR,(5,qyp sq L,false),(6+L.length,ybag sq (sumW L),false),barR]
def opsJ (sq:Int) (L:List Wr):List Rb:=opsB sq L++qii (emit L) 0
theorem ybwn : zS.length=64:=by simp[zS]
theorem qne {l D:List Int} {o:Nat} (h:o+D.length<=l.length):(over l o D).length=l.length:=by
 unfold over
 rw[List.length_append,List.length_append,List.length_take,List.length_drop]
 omega
theorem qmv (sq:Int) (L:List Wr):∀ k,(qps sq L k).length=64
 | 0=>by rw[qps,qne (by simp[zS,qck])];simp[zS]
 | k+1=>by rw[qps,List.length_set];exact qmv sq L k
theorem ybah (sq sm:Int):(ybag sq sm).length=64:=by
 unfold ybag
 rw[qne (by rw[qne (by simp[zS,qck])];simp[zS,qck]),qne (by simp[zS,qck])]
 simp[zS]
theorem qxc (L:List Int) (i:Nat) (x:Int):(u8s L).toArray.setIfInBounds i (.int .u8 x)=(u8s (L.set i x)).toArray:=by
 unfold u8s
 rw[List.map_set]
 simp
structure ybql (L : List Wr) : Prop where
 n:∀ x ∈ L,(x.1<5\/37<=x.1)/\x.1<80
 d:(L.map fun x=>x.1).Nodup
 l:L.length<=30
theorem ybzi (S:List Nat) (l:List (Nat × Nat)) (h1:∀ x ∈ l,(x.1<5\/37<=x.1)/\x.1<80/\x.2=64) (h2:(S++l.map fun x=>x.1).Nodup):rJ S l=0:=by
 induction l generalizing S with
 | nil=>rfl
 | cons x l ih=>
  have hx:=h1 x (by simp)
  rw[rJ,if_neg (by omega),if_neg]
  ·refine ih _ (fun y hy=>h1 y (by simp[hy])) ?_
   rw[List.append_assoc]
   exact h2
  ·rw[List.contains_iff_mem]
   intro hc
   rw[List.nodup_append]at h2
   exact h2.2.2 x.1 hc x.1 (by simp) rfl
theorem ybje {w:World} {B:Nat} {E:List Jw} (hg:ybql (E.map jab)) (hE:∀ x ∈ E,qjl w B x):qso E=0:=by
 have hl:E.length<=30:=by have:=hg.l;rwa [List.length_map]at this
 unfold qso
 rw[if_neg (by omega)]
 refine ybzi [] _ (fun y hy=>?_) ?_
 ·obtain⟨x,hx,rfl⟩:=List.mem_map.1 hy
  have h1:=hg.n (jab x) (List.mem_map.2 ⟨x,hx,rfl⟩)
  have h2:x.D.length=64:=(hE x hx).2.1
  exact⟨h1.1,h1.2,h2⟩
 ·rw[List.nil_append,List.map_map]
  have:=hg.d
  rw[List.map_map]at this
  exact this
theorem ybno {w:World} {B:Nat} {x:Jw} (h:qjl w B x):ybkd x:=by
 obtain⟨h1,h2,g,cap,cur,h3,_⟩:=h
 exact⟨h1,by omega,_,cap,by rw[h3,h2]⟩
theorem qxh (n:Int) (h0:0<=n) (h1:n<4294967296) (w W:World) (hb:Below w.heap.size w W) (hs:W.heap.size=w.heap.size):Calls Tryz.prog 105 #[.int .u32 n] W fun e w'=>e=.returned (.slice (some ⟨w.heap.size,0,none⟩) 4 4)/\Below w.heap.size w w'/\qaf w' (.slice (some ⟨w.heap.size,0,none⟩) 4 4) (qck n):=by
 refine (ybvr n h0 h1 W).mono ?_
 rintro e w' ⟨rfl,rfl⟩
 rw[<-hs]
 refine⟨rfl,?_,qav (cur:=(u8s (qck n)).toArray) rfl (heap_alloc_new W _) (by simp[u8s,qck])⟩
 rw[hs]
 exact hb.alloc (by omega) _
theorem CS.copied {w:World} {a:Addr} {gl:Nat} {F:Nat->Prop} {st:Dk} {sq:Int} {G:Nat->Prop} {W W':World} (h:CS w a gl F st sq G W) (hgl:¬ F gl/\gl<w.heap.size) (hb:Below W.heap.size W W') {g:Nat} (hg:G g) (cs:Array Value):CS w a gl F st sq G (W'.setRow g cs):=
 (h.mem hgl ((qab.of_below hb).step (qab.setRow hg cs))).mono fun _ hi=>Or.inl hi
theorem TD.snoc {W W2 W4:World} {G:Nat->Prop} {b gg g2 cap2 cap4:Nat} {v:Value} {E:List Rq} {n:Nat} {D:List Int} {cur2:Array Value} {o:Obj}
  (ho:W.ownsRow b 171 3 v E.length (qbe E)) (h3:∀ q,v.ownBlock=some q->G q)
  (h4:∀ x ∈ E,x.b=false/\x.n<256/\x.D.length=64/\∃ g cap cur,x.v=.slice (some ⟨g,0,none⟩) 64 cap/\G g/\W.heap[g]? = some (.cells cur 5 (0,0))/\cur.toList.take 64=u8s x.D)
  (hb2:Below W.heap.size W W2) (hg2:W.heap.size<=g2) (hh2:W2.heap[g2]? = some (.cells cur2 5 (0,0))) (ht2:cur2.toList.take 64=u8s D) (hn:n<256) (hD:D.length=64)
  (hown:W4.ownsRow b 171 3 (.slice (some ⟨gg,0,none⟩) (E.length+1) cap4) (E.length+1) (qbe E++[.int .i64 (n:Int),.slice (some ⟨g2,0,none⟩) 64 cap2,.bool false]))
  (hgrow:(W2.alloc o).grownBy W4 v.ownBlock) (hat:v.ownBlock=some gg\/gg=W2.heap.size+1):
  TD W4 (fun i=>G i\/(W.heap.size<=i/\i<W4.heap.size)) b (.slice (some ⟨gg,0,none⟩) (E.length+1) cap4) (E.map rab++[(n,D,false)])/\qab G W W4:=by
 have hsz:(W2.alloc o).heap.size=W2.heap.size+1:=by simp
 have hs4:=hgrow.size
 refine⟨⟨E++[⟨n,.slice (some ⟨g2,0,none⟩) 64 cap2,D,false⟩],by rw[List.map_append];rfl,?_,fun q hq=>?_,fun x hx=>?_⟩,((qab.of_below hb2).step (qab.alloc o)).step (qab.grown hgrow h3)⟩
 ·rw[List.length_append,qgl]
  exact hown
 ·have h5:=(hown.lt q hq).2
  have h6:gg=q:=by simpa[Value.ownBlock]using hq
  subst h6
  rcases hat with h | h
  ·exact Or.inl (h3 _ h)
  ·exact Or.inr ⟨by have:=hb2.size;omega,h5⟩
 ·rcases List.mem_append.1 hx with hx | hx
  ·obtain⟨e1,e2,e3,g,cap,cur,e4,e5,e6,e7⟩:=h4 x hx
   refine⟨e1,e2,e3,g,cap,cur,e4,Or.inl e5,?_,e7⟩
   have hne:v.ownBlock ≠ some g:=qds ho e6 (by decide)
   have e8:=qad (qaa hb2 e6) o
   exact (hgrow.block g (qac e8) (Ne.symm hne)).trans e8
  ·rw[List.mem_singleton]at hx
   subst hx
   have e8:=qad hh2 o
   have hne:v.ownBlock ≠ some g2:=fun hc=>by have:=(ho.lt g2 hc).2;omega
   have e9:=(hgrow.block g2 (qac e8) (Ne.symm hne)).trans e8
   exact⟨rfl,hn,hD,g2,cap2,cur2,rfl,Or.inr ⟨hg2,qac e9⟩,e9,ht2⟩
theorem qrc (L:List Wr):∀ k,(qpq L k).length=k
 | 0=>rfl
 | k+1=>by rw[qpq,List.length_append,qrc L k];rfl
theorem yble {L:List Wr} {k:Nat} (hk:k<L.length):emit (L.take (k+1))=emit (L.take k)++[(L[k].1,L[k].2,false)]:=by
 unfold emit
 rw[<-List.take_append_getElem hk,List.map_append]
 rfl
theorem ybhb {L:List Wr} {k:Nat} (hk:k<L.length):qpq L (k+1)=qpq L k++[(6+k,L[k].2,false)]:=by
 rw[qpq,List.getElem?_eq_getElem hk]
 rfl
theorem ybhv {sq:Int} {L:List Wr} {k:Nat} (hk:k<L.length):qps sq L (k+1)=(qps sq L k).set (6+k) ((L[k].1:Nat):Int):=by
 rw[qps,List.getElem?_eq_getElem hk]
 rfl
theorem CS.arg {w:World} {a:Addr} {gl B:Nat} {F:Nat->Prop} {st:Dk} {sq:Int} {G:Nat->Prop} {W:World} (h:CS w a gl F st sq G W) (hFB:∀ i,F i->i<B) (hgB:gl<B) {x:Jw} (hx:qjl w B x):qaf W x.v x.D:=by
 obtain⟨gx,cx,cur,hxv,hb1,hb2,hh,ht⟩:=ybcl hx h.keeps (fun i hi=>by
  rcases hi with hi | hi
  ·exact hFB i hi
  ·omega)
 rw[hxv]
 exact qav hx.2.1 hh ht
structure LJ (w : World) (a : Addr) (gl : Nat) (F : Nat -> Prop) (st : Dk) (sq : Int) (L : List Wr) (gn gh : Nat) (Z : List Int) (k : Nat) (td : Value) (W : World) : Prop where
 ex:∃ G GT:Nat->Prop,CS w a gl F (runE st (qpq L k)) sq G W/\(G gn/\G gh)/\(∀ i,GT i->G i/\i ≠ gn/\i ≠ gh)/\TD W GT w.heap.size td (emit (L.take k))
 hh:W.heap[gh]? = some (.cells (u8s (qps sq L k)).toArray 5 (0,0))
 hz:W.heap[gn]? = some (.cells (u8s Z).toArray 5 (0,0))
theorem CS.jws {w:World} {a:Addr} {gl B:Nat} {F:Nat->Prop} {st:Dk} {sq:Int} {G:Nat->Prop} {W:World} (h:CS w a gl F st sq G W) (hFB:∀ i,F i->i<B) (hgB:gl<B) {v:Value} {E:List Jw} (hJ:qeh w B B v E):ybgp W v E:=by
 have hk:∀ i,B<=i->i<w.heap.size->W.heap[i]? = w.heap[i]? :=fun i h1 h2=>h.keeps.block i h2 (fun hc=>by
  rcases hc with hc | hc
  ·have:=hFB i hc;omega
  ·omega)
 exact qeh.at (b:=B) (B:=B) ⟨qci hJ.1 fun q hq=>hk q (hJ.1.lt q hq).1 (hJ.1.lt q hq).2,fun x hx=>(hJ.2 x hx).keep fun i c h1 h2=>hk i h1 (qac h2)⟩
theorem CS.runs {w:World} {a:Addr} {gl:Nat} {F:Nat->Prop} {st:Dk} {sq:Int} {G GT:Nat->Prop} {W:World} (h:CS w a gl F st sq G W) (hgl:¬ F gl/\gl<w.heap.size) {b:Nat} {v:Value} {R:List Rb} (hT:TD W GT b v R) (hn:∀ x ∈ R,x.1<80) (hl:R.length<=100) (hW:st.W.length<900000):
  Calls Tryz.prog 107 #[.pointer (some a),v] W fun e W'=>e=.returned (.int .i64 0)/\CS w a gl F (runE st (qii R 0)) sq (fun _=>False) W':=by
 have h0:=h.mono (G':=fun _=>False) (fun _ hi=>hi.elim)
 obtain⟨F0,h1,h2,h3,h4,h5⟩:=h
 obtain⟨E,hE,hv,hx⟩:=hT.run
 refine (ybzo h1 v E hv hx (fun x hx _=>?_) (by omega) ?_ hW).mono fun e W' ⟨he,hd⟩=>⟨he,?_⟩
 ·exact hn (rab x) (by rw[<-hE];exact List.mem_map.2 ⟨x,hx,rfl⟩)
 ·rw[<-hE,List.length_map]at hl;exact hl
 ·rw[hE]at hd
  exact (h0.did hgl h2 (fun i hi=>hi.elim) hd).1
theorem TD.drew {W:World} {G:Nat->Prop} {b:Nat} {v:Value} {L:List Rb} (h:TD W G b v L):TD W.drew G b v L:=h
theorem qkg {w:World} {o:Oper} {a:Act} {K:Act->World->Prop} {Q:Exit->Act->World->Prop} {ops:Array Oper} {X:Prop} (dd:Option Nat) (hdd:o.dst=dd) (hgd:o.guard=none) (d s:Operand) (dT sT:TypeId) (ho:o.op=.call { callee:=.builtin .copy,args:=#[d,s],argTypes:=#[dT,sT] }) (elem:TypeId) (hu:Tryz.prog.underlying dT=some (.slice elem)) (hsz:(Tryz.prog.info? elem).map (·.size)=some 1)
  (g off dLen dCap:Nat) (sv:Value) (hd:a.eval d=.slice (some ⟨g,off,none⟩) dLen dCap) (hs:a.eval s=sv) (cur D:List Int) (t:TypeId) (hg:w.heap[g]? = some (.cells (u8s cur).toArray t (0,0)))
  (hb:qaf w sv D) (h0:0<D.length) (hle:D.length<=dLen) (hfit:off+D.length<=cur.length)
  (h:K (a.put dd (goInt D.length)) (w.setRow g (u8s (over cur off D)).toArray)):if Region.wanted o (yielded ops a.tmps)=true then Oper.wp Tryz.prog o a w K Q else X:=
 qsx hgd d s dT sT ho elem hu hsz g off dLen dCap sv hd hs cur D t hg hb h0 hle hfit (by rw[hdd];exact h)
end Go.Proofs.YtpoglnpjadmbpaaGreatDoor
