/- Part of the proofs of FsLinks: the texts LiftMap, LiftPart. -/
import Derived.Test.YtpoglnpjadmbpaaGreatDoorKA6
import Derived.Test.YtpoglnpjadmbpaaGreatDoorKA16
import Derived.Maps.RangeWalk
import Derived.Maps.Views
import Derived.Carry
set_option maxHeartbeats 16000000
set_option maxRecDepth 100000
namespace Go.Proofs.YtpoglnpjadmbpaaGreatDoor
open Go.RowKit Go.Maps
def RV (v:Value):Option (DataW Value × List MemPlace):=some (.held v,[])
def keyL (n:Nat):Lit:=.int .i64 (n:Int)
def mapD (E:List Rq):DataW Value:=E.foldl (fun D x=>D.put (keyL x.n) (.held x.v)) (.map [])
def wrs (E:List Rq):List Wr:=E.map fun x=>(x.n,x.D)
theorem qif (E:List Rq) (x:Rq):mapD (E++[x])=(mapD E).put (keyL x.n) (.held x.v):=by unfold mapD;rw[List.foldl_append];rfl
theorem qxk (E:List Rq) (x:Rq):wrs (E++[x])=wrs E++[(x.n,x.D)]:=by simp[wrs]
theorem qqf (n:Nat):WideAt.IsKeyLit (keyL n):=by unfold keyL;trivial
theorem qwi {a b:Nat} (h:keyL a=keyL b):a=b:=by unfold keyL at h;injection h with _ h;omega
structure ybqn (E : List Rq) : Prop where
 im:IsMap (mapD E)
 back:∀ kl,has (mapD E) kl=true->∃ x ∈ E,kl=keyL x.n/\(∀ z,(mapD E).atKey kl z=.held x.v)/\qfd (wrs E) x.n=some x.D
 there:∀ n,has (mapD E) (keyL n)=(qfd (wrs E) n).isSome
theorem ybif {E:List Rq} (h:ybqn E) (x:Rq):ybqn (E++[x]):=by
 refine⟨?_,?_,?_⟩
 ·rw[qif];exact h.im.put _ _
 ·intro kl hk
  rw[qif]at hk
  by_cases e:kl=keyL x.n
  ·subst e
   refine⟨x,by simp,rfl,fun z=>?_,?_⟩
   ·rw[qif];exact atKey_put_same h.im (qqf _) _ _
   ·rw[qxk,qkm,if_pos rfl]
  ·rw[has_put_other e]at hk
   obtain⟨y,hy,h1,h2,h3⟩:=h.back kl hk
   refine⟨y,by simp[hy],h1,fun z=>?_,?_⟩
   ·rw[qif,atKey_put_other e];exact h2 z
   ·rw[qxk,qkm,if_neg (fun e2=>e (by rw[h1,<-e2]))];exact h3
 ·intro n
  rw[qif,qxk,qkm]
  by_cases e:x.n=n
  ·subst e
   rw[has_put_same h.im (qqf _),if_pos rfl];rfl
  ·rw[has_put_other (fun e2=>e (qwi e2).symm),if_neg e];exact h.there n
theorem ybng (E:List Rq):ybqn E:=by
 have key:∀ k,k<=E.length->ybqn (E.take k):=by
  intro k
  induction k with
  | zero=>intro _;exact⟨isMap_empty,fun kl hk=>by simp[mapD,has]at hk,fun n=>rfl⟩
  | succ k ih=>
   intro hk
   rw[<-List.take_append_getElem (show k<E.length by omega)]
   exact ybif (ih (by omega)) _
 have:=key E.length (Nat.le_refl _)
 rwa [List.take_length]at this
def New64c (D:List Int) (w:World) (v:Value) (w':World):Prop:=
 ∃ g cap cur,v=.slice (some ⟨g,0,none⟩) 64 cap/\(w.heap.size<=g/\64<=cap)/\w'.heap[g]? = some (.cells cur 5 (0,0))/\cur.toList.take 64=u8s D/\Below w.heap.size w w'
theorem ybrd (v:Value) (D:List Int) (w:World) (h:qaf w v D) (hD:D.length=64):Calls Tryz.prog 98 #[v] w fun e w'=>∃ v',e=.returned v'/\New64c D w v' w':=
 (qgr v D w h (by omega) (by omega)).mono fun e w' ⟨v',he,g,cap,cur,hv,h1,h2,h3,h4⟩=>⟨v',he,g,cap,cur,by rw[hv,hD],⟨h1.1,by rw[<-hD];exact h1.2⟩,h2,by rw[<-hD];exact h3,h4⟩
structure qks (R : List Wr) (base : Nat) (w : World) (left : Lit -> Bool) (O : List Rk) : Prop where
 el:∀ x ∈ O,x.1<256/\∃ D cur,qfd R x.1=some D/\D.length=64/\(base<=x.2.1/\64<=x.2.2)/\w.heap[x.2.1]? = some (.cells cur 5 (0,0))/\cur.toList.take 64=u8s D
 nd:(O.map fun x=>x.1).Nodup
 all:∀ n D,qfd R n=some D->left (keyL n)=true\/n ∈ O.map fun x=>x.1
 out:∀ x ∈ O,left (keyL x.1)=false
theorem qks.keep {R:List Wr} {base:Nat} {w w':World} {left:Lit->Bool} {O:List Rk} (h:qks R base w left O) (hk:∀ i c,base<=i->w.heap[i]? = some (.cells c 5 (0,0))->w'.heap[i]? = w.heap[i]?):qks R base w' left O:=
 ⟨fun x hx=>by
  obtain⟨h1,D,cur,h2,h3,h4,h5,h6⟩:=h.el x hx
  exact⟨h1,D,cur,h2,h3,h4,(hk _ _ h4.1 h5).trans h5,h6⟩,h.nd,h.all,h.out⟩
theorem qks.start (R:List Wr) (base:Nat) (w:World) (left:Lit->Bool) (h:∀ n D,qfd R n=some D->left (keyL n)=true):qks R base w left []:=
 ⟨fun x hx=>by simp at hx,by simp,fun n D hn=>Or.inl (h n D hn),fun x hx=>by simp at hx⟩
theorem qks.step {R:List Wr} {base:Nat} {w:World} {left:Lit->Bool} {O:List Rk} (h:qks R base w left O) (n g c:Nat) (D:List Int) (cur:Array Value) (hl:left (keyL n)=true) (hn:n<256) (hD:qfd R n=some D) (h64:D.length=64) (hg:base<=g/\64<=c)
  (hh:w.heap[g]? = some (.cells cur 5 (0,0))) (ht:cur.toList.take 64=u8s D):qks R base w (fun z=>left z && !z.sameKey (keyL n)) (O++[(n,g,c)]):=by
 have hself:(keyL n).sameKey (keyL n)=true:=WideAt.sameKey_self (qqf n)
 refine⟨fun x hx=>?_,?_,fun m E hm=>?_,fun x hx=>?_⟩
 ·rcases List.mem_append.1 hx with hx | hx
  ·exact h.el x hx
  ·simp at hx;subst hx
   exact⟨hn,D,cur,hD,h64,hg,hh,ht⟩
 ·rw[List.map_append,List.nodup_append]
  refine⟨h.nd,by simp,fun a ha b hb e=>?_⟩
  simp at hb
  obtain⟨x,hx,rfl⟩:=List.mem_map.1 ha
  have:=h.out x hx
  rw[show x.1=n by omega,hl]at this
  cases this
 ·rcases h.all m E hm with h1 | h1
  ·by_cases e:m=n
   ·subst e;exact Or.inr (by simp)
   ·refine Or.inl ?_
    have:(keyL m).sameKey (keyL n)=false:=sameKey_ne fun e2=>e (qwi e2)
    simp[h1,this]
  ·exact Or.inr (by rw[List.map_append,List.mem_append];exact Or.inl h1)
 ·rcases List.mem_append.1 hx with hx | hx
  ·simp[h.out x hx]
  ·simp at hx;subst hx
   simp[hself]
theorem ybum : Tryz.prog.underlying 167=some (.slice 171):=by kernel_rfl
theorem qwq : (Tryz.prog.info? 171).map (fun i=>(i.zero,i.size,i.bytes))=some (some (.agg #[.int .i64 0,.slice none 0 0,.bool false]),3,40):=by kernel_rfl
theorem ybos : Tryz.prog.underlying 93=some (.map 3 38):=by kernel_rfl
theorem qiw : Keyed Tryz.prog 3:=int_keyed (q:=.i64) (by kernel_rfl)
theorem ybpy (n:Nat) (h:n<256):(Lit.int .i64 (n:Int)).wf=true:=by
 simp[Lit.wf,IntKind.min,IntKind.max,IntKind.signed,IntKind.bits];omega
def qly : Prop:=∀ (gh h base:Nat) (v:Value) (O:List Rk) (W:World),h<256->W.ownsRow base 171 3 v O.length (O.flatMap encK)->W.heap[gh]? = some (.cells #[.int .i64 (h:Int)] 3 (0,0))->O.length<=1000000 ->
 Calls Tryz.prog 202 #[v,.func (.func 203) #[] #[.pointer (some ⟨gh,0,none⟩)]] W fun e w'=>e=.returned (.tuple #[]) /\
  ∃ O':List Rk,O'.Perm O/\O'.Pairwise (fun a b=>farN h (a.1 % 256)<=farN h (b.1 % 256))/\w'.ownsRow base 171 3 v O'.length (O'.flatMap encK)/\W.grownBy w' v.ownBlock
def toRq (R:List Wr) (x:Rk):Rq:=⟨x.1,.slice (some ⟨x.2.1,0,none⟩) 64 x.2.2,(qfd R x.1).getD [],false⟩
theorem qvf {R:List Wr} {O:List Rk} (h:∀ x ∈ O,x.1<256):qbe (O.map (toRq R))=O.flatMap encK:=by
 induction O with
 | nil=>rfl
 | cons x O ih=>
  rw[List.map_cons,qsm,List.flatMap_cons,ih fun y hy=>h y (by simp[hy])]
  congr 1
  show [_,_,_]=[_,_,_]
  rw[Nat.mod_eq_of_lt (h x (by simp))]
  rfl
theorem ybpp {R:List Wr} {O:List Rk}:(O.map (toRq R)).map rab=emit (O.map fun x=>(x.1,(qfd R x.1).getD [])):=by
 unfold emit
 rw[List.map_map,List.map_map]
 rfl
theorem ybug {R:List Wr} {h base:Nat} {w:World} {left:Lit->Bool} {O O':List Rk} (hh:h<256) (_hR:∀ n D,qfd R n=some D->n<256) (ho:qks R base w left O) (hl:∀ kl,left kl=false) (hp:O'.Perm O) (hs:O'.Pairwise fun a b=>farN h (a.1 % 256)<=farN h (b.1 % 256)):
  (O'.map fun x=>(x.1,(qfd R x.1).getD []))=qeq R h:=by
 have hlt:∀ x ∈ O',x.1<256:=fun x hx=>(ho.el x (hp.mem_iff.1 hx)).1
 have hnd:(O'.map fun x=>x.1).Nodup:=(hp.map fun x=>x.1).nodup_iff.2 ho.nd
 refine ybok hh ?_ fun x=>?_
 ·rw[List.pairwise_map]
  rw[List.Nodup,List.pairwise_map]at hnd
  have hboth:=List.Pairwise.and hs hnd
  refine hboth.imp_of_mem ?_
  intro a b ha hb hab
  have h1:=hlt a ha
  have h2:=hlt b hb
  have h3:=hab.1
  rw[Nat.mod_eq_of_lt h1,Nat.mod_eq_of_lt h2]at h3
  show farN h a.1<farN h b.1
  rcases Nat.lt_or_eq_of_le h3 with h4 | h4
  ·exact h4
  ·exact absurd (ybxq hh h1 h2 h4) hab.2
 ·constructor
  ·intro hx
   obtain⟨y,hy,rfl⟩:=List.mem_map.1 hx
   obtain⟨h1,D,cur,h2,_⟩:=ho.el y (hp.mem_iff.1 hy)
   exact⟨h1,by rw[h2];rfl⟩
  ·rintro ⟨h1,h2⟩
   rcases ho.all x.1 x.2 h2 with h3 | h3
   ·rw[hl]at h3;cases h3
   ·have h4:=(hp.map fun x=>x.1).mem_iff.2 h3
    obtain⟨y,hy,hy2⟩:=List.mem_map.1 h4
    refine List.mem_map.2 ⟨y,hy,?_⟩
    rw[hy2,h2]
    rfl
theorem ybyj {E:List Rq} (h:∀ x ∈ E,x.n<256):∀ n D,qfd (wrs E) n=some D->n<256:=by
 intro n D hn
 obtain⟨x,hx,e⟩:=List.mem_map.1 (qmy _ n D hn)
 have:=h x hx
 have e2:x.n=n:=by injection e
 omega
theorem ybip {w:World} {base:Nat} {e:TypeId} {size n:Nat} {v:Value} {xs:List Value} {b:Nat} {es:Array MapEntry} {c:Nat} (h:w.ownsRow base e size v n xs) (hb:w.heap[b]? = some (.map es c)):v.ownBlock ≠ some b:=by
 rcases h.2 with⟨rfl,_⟩ | ⟨g',cap,cur,rfl,_,hh,_⟩
 ·simp[Value.ownBlock]
 ·intro he
  have:g'=b:=by simpa[Value.ownBlock]using he
  subst this
  rw[hb]at hh;cases hh
theorem ybda {w:World} {base:Nat} {e:TypeId} {size n:Nat} {v:Value} {xs:List Value} {b:Nat} {m:Option Nat} {s:Nat} {sn:Array Nat} {c:Nat} (h:w.ownsRow base e size v n xs) (hb:w.heap[b]? = some (.mapIter m s sn c)):v.ownBlock ≠ some b:=by
 rcases h.2 with⟨rfl,_⟩ | ⟨g',cap,cur,rfl,_,hh,_⟩
 ·simp[Value.ownBlock]
 ·intro he
  have:g'=b:=by simpa[Value.ownBlock]using he
  subst this
  rw[hb]at hh;cases hh
theorem qzs {w:World} {base:Nat} {e:TypeId} {size n:Nat} {v:Value} {xs:List Value} {b r m cnt:Nat} {D:DataW Value} {left:Lit->Bool} (h:w.ownsRow base e size v n xs) (hr:w.ranges Tryz.prog 3 RV b r m D left cnt):some b ≠ v.ownBlock/\some r ≠ v.ownBlock:=by
 obtain⟨es,clock,since,seen,c0,hb,_,_,_,hr,_⟩:=hr
 exact⟨fun e=>ybip h hb e.symm,fun e=>ybda h hr e.symm⟩
theorem qzr {w:World} {b r m cnt:Nat} {D:DataW Value} {left:Lit->Bool} (hr:w.ranges Tryz.prog 3 RV b r m D left cnt):∃ o,w.heap[r]? = some o/\∀ c t f,o ≠ .cells c t f:=by
 obtain⟨es,clock,since,seen,c0,hb,_,_,_,hr,_⟩:=hr
 exact⟨_,hr,fun c t f h=>by cases h⟩
theorem qzl {R:List Wr} {base:Nat} {w:World} {left:Lit->Bool} {O:List Rk} (h:qks R base w left O):O.length<=256:=by
 have:=qnc (B:=List.range 256) h.nd fun n hn=>by
  obtain⟨x,hx,rfl⟩:=List.mem_map.1 hn
  exact List.mem_range.2 (h.el x hx).1
 simpa using this
theorem ybbo (O:List Rk) (x:Rk):(O++[x]).flatMap encK=O.flatMap encK++encK x:=by simp
theorem ybyh : ∀ (key:Value) (kl:Lit),keyOf Tryz.prog 3 key=some kl->∃ x:Int,key=.int .i64 x:=fun key kl h=>by
 obtain⟨x,hx,_⟩:=Maps.keyOf_int_inv (q:=.i64) (by kernel_rfl) h
 exact⟨x,hx⟩
theorem qky {a b:World} (h:Below a.heap.size a b):a.grownBy b none:=⟨h.os,h.tape,h.output,h.size,fun i hi _=>h.block i hi⟩
theorem qma {B:Nat} {a w:World} (h:Below B a w) (n:Nat):Below B a (w.drewN n):=⟨h.os,h.tape,h.output,h.size,h.block⟩
def qqv (R:List Wr) (h:Nat) (w:World) (e:Ending) (w':World):Prop:=
 ∃ v',e=.returned (.tuple #[v',.int .i64 (qmt R h:Int)])/\qdv w' w.heap.size v' (emit (qeq R h))/\Below w.heap.size w w'
theorem ybfq (hsort : qly) (v : Value) (E : List Rq) (h : Nat) (hh : h < 256) (w : World) (hv : qai w v 3 E.length (qbe E)) (hE : ∀ x ∈ E, x.b = false ∧ x.n < 256 ∧ qaf w x.v x.D ∧ x.D.length = 64) (hl : E.length ≤ 1000) :
    Calls Tryz.prog 178 #[v, .int .i64 (h : Int)] w (qqv (wrs E) h w) := by
  have HSORT : Hid qly := hsort
  clear hsort
  obtain ⟨N, HN⟩ : ∃ N, Hid (E.length = N) := ⟨_, rfl⟩
  obtain ⟨p, cp, rfl, HP⟩ : ∃ p cp, v = .slice p N cp ∧ Hid (0 < N → ∃ g o, p = some ⟨g, o, none⟩ ∧ ∀ (j : Nat) (x : Value), (qbe E)[j]? = some x → w.cell? ⟨g, o + j, none⟩ = some x) := by
    rw [← HN.out]
    obtain ⟨_, ⟨h0, a0, c0, rfl⟩ | ⟨g, o, cap, rfl, hc⟩⟩ := hv
    · exact ⟨a0, c0, by rw [h0], fun h => by omega⟩
    · exact ⟨_, cap, rfl, fun _ => ⟨g, o, rfl, hc⟩⟩
  rw [HN.out] at hl
  have HE := Lib.hid hE
  clear hv hE
  obtain ⟨i0, hi0, hz0, hz1, hz2⟩ := info_parts qwq
  have HI := Lib.hid hi0
  have HZ0 := Lib.hid hz0
  have HZ1 := Lib.hid hz1
  have HZ2 := Lib.hid hz2
  clear hi0 hz0 hz1 hz2
  have HNW := Lib.hid (heap_alloc_new w (.cells #[.int .i64 (h : Int)] 3))
  have HOM : Hid (((w.alloc (.cells #[.int .i64 (h : Int)] 3)).alloc (.map #[] 0)).ownsMap Tryz.prog 3 RV (w.heap.size + 1) 0 (.map [])) := by
    have := World.ownsMap_made (w.alloc (.cells #[.int .i64 (h : Int)] 3)) Tryz.prog 3 RV
    rw [show (w.alloc (.cells #[.int .i64 (h : Int)] 3)).heap.size = w.heap.size + 1 by simp] at this
    exact this
  have hmm := @run_makeMap Tryz.prog
  go_enter Tryz.func178, Tryz.ntmps178
  go_wp2
  clear hmm
  go_loopw [8, 15] (fun _ i wr => ∃ k : Nat, k ≤ N ∧ i = .int .i64 k ∧ Hid (wr.ownsMap Tryz.prog 3 RV (w.heap.size + 1) k (mapD (E.take k))) ∧ Hid (wr.heap[w.heap.size]? = some (.cells #[.int .i64 (h : Int)] 3 (0, 0))) ∧ Below w.heap.size w wr) (fun _ i _ => N - (intOf i).toNat)
  case atStart =>
    refine ⟨0, Nat.zero_le _, rfl, HOM, qad HNW.out _, ((Below.refl _ _).alloc (Nat.le_refl _) _).alloc (by simp) _⟩
  case round =>
    obtain ⟨k, hk, rfl, HM, HH, HB⟩ := hrel
    by_cases hlt : k < N
    · obtain ⟨g, o, rfl, hc⟩ := HP.out (by omega)
      have hkl : k < E.length := by rw [HN.out]; exact hlt
      obtain ⟨e0, e1, e2⟩ := qfi E k hkl
      obtain ⟨x, Hx⟩ : ∃ x, Hid (E[k] = x) := ⟨E[k], rfl⟩
      rw [Hx.out] at e0 e1 e2
      obtain ⟨hxb, hxn, hxv, hxl⟩ := HE.out x (by rw [← Hx.out]; exact List.getElem_mem hkl)
      obtain ⟨gx, ox, cx, hxs⟩ : ∃ gx ox cx, x.v = .slice (some ⟨gx, ox, none⟩) 64 cx := by
        obtain ⟨_, ⟨h0, _⟩ | ⟨g, o, cap, h1, _⟩⟩ := hxv
        · omega
        · exact ⟨g, o, cap, by rw [h1, hxl]⟩
      rw [hxs] at e1
      rw [hxb] at e2
      have keep : ∀ {x : Addr} {y : Value}, w.cell? x = some y → wr.cell? x = some y := fun h => (HB.cell (block_lt_of_cell h)).trans h
      have c0 := keep (hc _ _ e0)
      have c1 := keep (hc _ _ e1)
      have c2 := keep (hc _ _ e2)
      rw [← Nat.add_assoc] at c1 c2
      obtain ⟨xn, Hxn⟩ : ∃ q, Hid (x.n = q) := ⟨_, rfl⟩
      rw [Hxn.out] at c0 hxn
      have HT : Hid (mapD (E.take (k + 1)) = (mapD (E.take k)).put (keyL xn) (.held (.slice (some ⟨gx, ox, none⟩) 64 cx))) := by
        show _ = _
        rw [← List.take_append_getElem hkl, qif, Hx.out, Hxn.out, hxs]
      have hlt2 : (k : Int) < (N : Int) := by omega
      have hgl : g < wr.heap.size := block_lt_of_cell c0
      have hgn : ¬ g = wr.heap.size := by omega
      have hmx := HM.out.lt
      have hwz : w.heap.size < wr.heap.size := by omega
      have HMA : Hid ((wr.alloc (.cells #[.int .i64 (xn : Int), .slice (some ⟨gx, ox, none⟩) 64 cx, .bool false] 171)).ownsMap Tryz.prog 3 RV (w.heap.size + 1) k (mapD (E.take k))) := HM.out.alloc _
      have HBA : Hid (Below w.heap.size w (wr.alloc (.cells #[.int .i64 (xn : Int), .slice (some ⟨gx, ox, none⟩) 64 cx, .bool false] 171))) := HB.alloc HB.size _
      have HHA : Hid ((wr.alloc (.cells #[.int .i64 (xn : Int), .slice (some ⟨gx, ox, none⟩) 64 cx, .bool false] 171)).heap[w.heap.size]? = some (.cells #[.int .i64 (h : Int)] 3 (0, 0))) := qad HH.out _
      have HKEY : Hid (keyOf Tryz.prog 3 (.int .i64 (xn : Int)) = some (keyL xn)) := keyOf_int_mk (by kernel_rfl) (ybpy xn hxn)
      clear hc e0 e1 e2 keep hxs hxv hxl hmx hxb
      go_wp2_with (at_mapUpdate; refine wpList_mapUpdate_own _ rfl _ _ _ 93 rfl 3 38 qiw ybos RV (w.heap.size + 1) k (mapD (E.take k)) rfl HMA.out (by unfold maxLen; omega) _ _ (keyL xn) rfl rfl HKEY.out _ [] rfl ?_; intro w1 hown1 hgrow1)
      have HM1 : Hid (w1.ownsMap Tryz.prog 3 RV (w.heap.size + 1) (k + 1) (mapD (E.take (k + 1)))) := by show World.ownsMap _ _ _ _ _ _ _; rw [HT.out]; exact hown1
      have HB1 : Hid (Below w.heap.size w w1) := HBA.out.grown hgrow1 HBA.out.size (by intro r hr; simp at hr; omega)
      have HH1 : Hid (w1.heap[w.heap.size]? = some (.cells #[.int .i64 (h : Int)] 3 (0, 0))) := (hgrow1.block _ (qac HHA.out) (by simp)).trans HHA.out
      clear hown1 hgrow1 c0 c1 c2
      go_wp2
      go_roundw
      case rel => exact ⟨k + 1, by omega, by go_num, HM1, HH1, HB1.out⟩
      case measure => simp [intOf]; omega
    · have HT : Hid (E.take k = E) := List.take_of_length_le (by rw [HN.out]; omega)
      rw [HT.out] at HM
      obtain ⟨r, Hr⟩ : ∃ r, Hid (wr.heap.size = r) := ⟨_, rfl⟩
      have hrw : w.heap.size < r := by rw [← Hr.out]; exact qac HH.out
      go_wp2_with (at_range; refine wpList_range_own _ rfl _ 93 rfl 3 38 qiw ybos RV (w.heap.size + 1) k (mapD E) rfl HM.out ?_; intro w0 hrg0 hg0 hs0)
      rw [Hr.out] at hrg0 hs0 ⊢
      have HR0 := Lib.hid hrg0
      have HB0 : Hid (Below w.heap.size w w0) := HB.grown hg0 HB.size (by simp)
      have HH0 : Hid (w0.heap[w.heap.size]? = some (.cells #[.int .i64 (h : Int)] 3 (0, 0))) := (hg0.block _ (qac HH.out) (by simp)).trans HH.out
      have HMO := Lib.hid (ybng E)
      have HR256 := Lib.hid (ybyj fun x hx => (HE.out x hx).2.1)
      clear hrg0 hg0 hs0 HB hlt hk
      go_frame
      go_loopw [9] (fun v ws => ∃ (left : Lit → Bool) (cnt : Nat) (O : List Rk), Hid (ws.ranges Tryz.prog 3 RV (w.heap.size + 1) r k (mapD E) left cnt) ∧ Hid (ws.ownsRow (w.heap.size + 1) 171 3 v O.length (O.flatMap encK)) ∧ Hid (qks (wrs E) (w.heap.size + 1) ws left O) ∧ Hid (ws.heap[w.heap.size]? = some (.cells #[.int .i64 (h : Int)] 3 (0, 0))) ∧ Hid (Below w.heap.size w ws)) (fun _ ws => ws.rangeLeft (w.heap.size + 1) r)
      case atStart =>
        exact ⟨_, _, [], HR0, World.ownsRow_nil _ _ _ _, qks.start _ _ _ _ (fun n D hn => by rw [HMO.out.there n, hn]; rfl), HH0, HB0⟩
      case round =>
        obtain ⟨left, cnt, O, HR, HO, HOK, HHs, HBs⟩ := hrel
        go_wp2_with (at_next; refine wpList_next_ranges (α := Int) (β := Value) _ rfl _ rfl 3 qiw RV (fun x => .int .i64 x) (fun c => c) ybyh (fun v y _ => ⟨v, rfl⟩) (w.heap.size + 1) r k (mapD E) left cnt rfl HR.out ?_ ?_)
        · intro _ hl0
          have HL0 := Lib.hid hl0
          clear hl0
          have hO256 := qzl HOK.out
          have HS5 := Lib.hid (HSORT.out w.heap.size h (w.heap.size + 1) u9 O _ hh HO.out HHs.out (by omega))
          go_wp2_with fail
          refine HS5.out.mono ?_
          rintro e w5 ⟨rfl, O', hp, hs, ho5, hg5⟩
          have hne : u9.ownBlock ≠ some w.heap.size := qds HO.out HHs.out (by decide)
          have HH5 : Hid (w5.heap[w.heap.size]? = some (.cells #[.int .i64 (h : Int)] 3 (0, 0))) := (hg5.block _ (qac HHs.out) (fun e => hne e.symm)).trans HHs.out
          have hok5 : qks (wrs E) (w.heap.size + 1) w5 left O := HOK.out.keep fun i c _ hi => hg5.block i (qac hi) (fun e => qds HO.out hi (by decide) e.symm)
          have hfin := ybug hh HR256.out HOK.out HL0.out hp hs
          have hlt5 : ∀ x ∈ O', x.1 < 256 := fun x hx => (hok5.el x (hp.mem_iff.1 hx)).1
          have hown : qdv w5 (w.heap.size + 1) u9 (emit (qeq (wrs E) h)) := by
            refine ⟨O'.map (toRq (wrs E)), by rw [ybpp, hfin], by rw [qvf hlt5, List.length_map]; exact ho5, fun x hx => ?_⟩
            obtain ⟨y, hy, rfl⟩ := List.mem_map.1 hx
            obtain ⟨h1, D, cur, h2, h3, h4, h5, h6⟩ := hok5.el y (hp.mem_iff.1 hy)
            have e : (toRq (wrs E) y).D = D := by show (qfd (wrs E) y.1).getD [] = D; rw [h2]; rfl
            exact Or.inr ⟨rfl, h1, by rw [e]; exact h3, y.2.1, y.2.2, cur, rfl, h4, h5, by rw [e]; exact h6⟩
          have HOWN := Lib.hid hown
          have HB5 : Hid (Below w.heap.size w w5) := HBs.out.grown hg5 HBs.out.size (by intro q hq; have := (HO.out.lt q hq).1; omega)
          obtain ⟨q5, cp5, hv5, hq5⟩ := qat ho5
          have hlen5 : O'.length ≤ 256 := by rw [hp.length_eq]; exact hO256
          have HFIN := Lib.hid hfin
          have HLT5 := Lib.hid hlt5
          obtain ⟨M, HM5⟩ : ∃ M, Hid (O'.length = M) := ⟨_, rfl⟩
          rw [HM5.out] at hv5 hlen5 hq5
          have HQ5 := Lib.hid hq5
          have hz5 := qac HH5.out
          clear hp hs ho5 hg5 hne hok5 hfin hlt5 hown hq5
          by_cases hM0 : M = 0
          · have HHD : Hid (qmt (wrs E) h = h) := by
              show _ = _
              unfold qmt
              rw [← HFIN.out]
              have : O' = [] := List.length_eq_zero_iff.1 (by rw [HM5.out]; exact hM0)
              rw [this]
              rfl
            subst hM0
            have k0 := cell_of_row w5 _ 0 _ _ _ HH5.out
            subst hv5
            go_wp2
            go_quiet (fail)
            go_wp2
            go_ret2
            unfold qqv
            rw [HHD.out]
            refine ⟨_, rfl, (HOWN.out.below (qma (Below.refl _ _) _)).mono (by omega), qma HB5.out _⟩
          · obtain ⟨g5, rfl, _, hc5⟩ := HQ5.out (by omega)
            have hml : M - 1 < O'.length := by rw [HM5.out]; omega
            obtain ⟨x, Hx⟩ : ∃ x, Hid (O'[M - 1] = x) := ⟨O'[M - 1], rfl⟩
            have hx256 : x.1 < 256 := HLT5.out x (by rw [← Hx.out]; exact List.getElem_mem hml)
            have hcx : w5.cell? ⟨g5, (M - 1) * 3, none⟩ = some (.int .i64 (x.1 : Int)) := hc5 _ _ (by
              rw [← qvf (R := wrs E) HLT5.out]
              have := (qfi (O'.map (toRq (wrs E))) (M - 1) (by rw [List.length_map]; exact hml)).1
              rw [this, List.getElem_map, Hx.out]
              rfl)
            have HHD : Hid (qmt (wrs E) h = x.1) := by
              show _ = _
              unfold qmt
              rw [← HFIN.out, List.getLast?_map, List.getLast?_eq_getElem?, HM5.out, List.getElem?_eq_getElem hml, Hx.out]
              rfl
            obtain ⟨xn, Hxn⟩ : ∃ q, Hid (x.1 = q) := ⟨_, rfl⟩
            rw [Hxn.out] at hcx hx256 HHD
            have k0 := cell_of_row w5 _ 0 _ _ _ HH5.out
            have z0 : w5.frozen? ⟨w.heap.size, 0, none⟩ = false := by simp [World.frozen?, HH5.out]
            have HST : Hid (qdv (w5.setCell ⟨w.heap.size, 0, none⟩ (.int .i64 (xn : Int))) (w.heap.size + 1) (.slice (some ⟨g5, 0, none⟩) M cp5) (emit (qeq (wrs E) h))) := by
              have h1 := HOWN.out
              rw [hv5] at h1
              exact h1.keeps (F := fun i => i = w.heap.size) (qab.setCell (by rfl) _) (fun i hi _ e => by omega)
            have HBS : Hid (Below w.heap.size w (w5.setCell ⟨w.heap.size, 0, none⟩ (.int .i64 (xn : Int)))) := HB5.out.setCell (Nat.le_refl _) _
            subst hv5
            have p1 : IntKind.i64.wrap ((M : Int) - 1) = (M : Int) - 1 := IntWalk.i64_in _ (by omega)
            have p2 : ((M : Int) - 1).toNat = M - 1 := by omega
            have p3 : 0 ≤ (M : Int) - 1 := by omega
            have p4 : (M : Int) - 1 < (M : Int) := by omega
            have p5 : 1 ≤ (M : Int) := by omega
            clear hc5 hM0
            go_wp2
            go_quiet (fail)
            go_wp2
            go_ret2
            unfold qqv
            rw [HHD.out]
            refine ⟨_, rfl, (HST.out.below (qma (Below.refl _ _) _)).mono (by omega), qma HBS.out _⟩
        · intro x c kl y ps w1 cnt1 hkey hlk hRv hat hrg1 hlt1 hg1 hs1 hen
          obtain ⟨x', hx', rfl, _⟩ := Maps.keyOf_int_inv (q := .i64) (by kernel_rfl) hkey
          have hxx : x' = x := by injection hx' with _ h; exact h.symm
          subst hxx
          have hy : y = .held c := by unfold RV at hRv; injection hRv with h; injection h with h _; exact h.symm
          subst hy
          obtain ⟨rq, hrq, hkl, hat2, hlast⟩ := HMO.out.back _ (has_true_of_atKey hat)
          have hxn : x' = (rq.n : Int) := by unfold keyL at hkl; injection hkl with _ h
          have hcv : c = rq.v := by
            have h1 := hat .nil
            rw [hat2 .nil] at h1
            injection h1 with h1
            exact h1.symm
          subst hxn hcv
          obtain ⟨_, hxn, hxv, hxl⟩ := HE.out rq hrq
          obtain ⟨gx, ox, cx, hxs⟩ : ∃ gx ox cx, rq.v = .slice (some ⟨gx, ox, none⟩) 64 cx := by
            obtain ⟨_, ⟨h0, _⟩ | ⟨g, o, cap, h1, _⟩⟩ := hxv
            · omega
            · exact ⟨g, o, cap, by rw [h1, hxl]⟩
          have HR1 := Lib.hid hrg1
          obtain ⟨ob, hob, hobn⟩ := qzr HR.out
          have HB1 : Hid (Below w.heap.size w w1) := HBs.out.grown hg1 HBs.out.size (by intro q hq; simp at hq; omega)
          have HO1 : Hid (w1.ownsRow (w.heap.size + 1) 171 3 u9 O.length (O.flatMap encK)) := qci HO.out fun b hb => hg1.block b (HO.out.lt b hb).2 (by
            rw [← hb]
            exact fun e => (qzs HO.out HR.out).2 e.symm)
          have HOK1 : Hid (qks (wrs E) (w.heap.size + 1) w1 left O) := HOK.out.keep fun i c _ hi => hg1.block i (qac hi) (by
            intro e
            injection e with e
            subst e
            rw [hob] at hi
            injection hi with hi
            exact hobn _ _ _ hi)
          have HH1 : Hid (w1.heap[w.heap.size]? = some (.cells #[.int .i64 (h : Int)] 3 (0, 0))) := (hg1.block _ (qac HHs.out) (by intro e; injection e with e; omega)).trans HHs.out
          have HCL := Lib.hid (ybrd rq.v rq.D w1 (qai.below hxv HB1.out) hxl)
          have hO256 := qzl HOK.out
          have HLK := Lib.hid hlk
          have HLAST := Lib.hid hlast
          have HXL := Lib.hid hxl
          have HLT := Lib.hid hlt1
          rw [hxs] at hen HCL
          obtain ⟨xn, Hxn⟩ : ∃ q, Hid (rq.n = q) := ⟨_, rfl⟩
          rw [Hxn.out] at hen hxn
          obtain ⟨ON, HON⟩ : ∃ q, Hid (O.length = q) := ⟨_, rfl⟩
          rw [HON.out] at HO1 hO256
          clear hkey hlk hRv hat hrg1 hlt1 hg1 hs1 hkl hat2 hlast hxv hxl hxs hob hobn hrq
          go_wp2_with (first
            | (go_at_call 98; refine HCL.out.mono ?_; rintro e w2 ⟨v2, rfl, g2, cap2, cur2, rfl, hg2, hh2, ht2, hb2⟩
               have HO2 : Hid (∀ o, (w2.alloc o).ownsRow (w.heap.size + 1) 171 3 u9 ON (O.flatMap encK)) := fun o => (qap HO1.out hb2).alloc o
               have HB2 : Hid (Below w.heap.size w w2) := HB1.out.trans (hb2.mono HB1.out.size)
               have hz2 : w.heap.size < w2.heap.size := Nat.lt_of_lt_of_le (qac HH1.out) hb2.size
               have HH2 : Hid (w2.heap[w.heap.size]? = some (.cells #[.int .i64 (h : Int)] 3 (0, 0))) := qaa hb2 HH1.out
               have HBL := Lib.hid hb2
               have HG2 := Lib.hid (And.intro hg2 (And.intro hh2 ht2))
               clear hb2 hg2 hh2 ht2)
            | (at_builtin; refine wpList_append_own _ rfl _ _ 167 rfl (w.heap.size + 1) 171 i0 (.agg #[.int .i64 0, .slice none 0 0, .bool false]) 3 40 ybum HI.out HZ0.out HZ1.out HZ2.out rfl (by decide) _ _ _ rfl (HO2.out _) ⟨w2.heap.size, 0, none⟩ 1 1 [.int .i64 (xn : Int), .slice (some ⟨g2, 0, none⟩) 64 cap2, .bool false] rfl rfl (fun j u hu => qig _ #[.int .i64 (xn : Int), .slice (some ⟨g2, 0, none⟩) 64 cap2, .bool false] _ j u hu) (fun u hu => by simp at hu; rcases hu with rfl | rfl | rfl <;> rfl) (by unfold maxLen; omega) (by omega) (by simp; omega) ?_; intro v3 w3 hown3 hgrow3 _))
          have HG := HG2.out
          have HNEW : Hid (w3.ownsRow (w.heap.size + 1) 171 3 v3 (O ++ [(xn, g2, cap2)]).length ((O ++ [(xn, g2, cap2)]).flatMap encK)) := by
            show World.ownsRow _ _ _ _ _ _ _
            rw [ybbo, List.length_append, HON.out]
            have e : encK (xn, g2, cap2) = [.int .i64 (xn : Int), .slice (some ⟨g2, 0, none⟩) 64 cap2, .bool false] := by
              show [_, _, _] = _
              rw [Nat.mod_eq_of_lt hxn]
            rw [e]
            exact hown3
          have hneb := qzs (HO2.out (.cells #[.int .i64 (xn : Int), .slice (some ⟨g2, 0, none⟩) 64 cap2, .bool false] 171)) ((HR1.out.kept (qky HBL.out) (by simp) (by simp)).alloc (.cells #[.int .i64 (xn : Int), .slice (some ⟨g2, 0, none⟩) 64 cap2, .bool false] 171))
          have HR3 : Hid (w3.ranges Tryz.prog 3 RV (w.heap.size + 1) r k (mapD E) (fun z => left z && !z.sameKey (keyL xn)) cnt1) := by
            have := ((HR1.out.kept (qky HBL.out) (by simp) (by simp)).alloc (.cells #[.int .i64 (xn : Int), .slice (some ⟨g2, 0, none⟩) 64 cap2, .bool false] 171)).kept hgrow3 hneb.1 hneb.2
            rw [← Hxn.out]
            exact this
          have hnt : ∀ i c, (w2.alloc (.cells #[.int .i64 (xn : Int), .slice (some ⟨g2, 0, none⟩) 64 cap2, .bool false] 171)).heap[i]? = some (.cells c 5 (0, 0)) → some i ≠ u9.ownBlock := fun i c hi e => qds (HO2.out _) hi (by decide) e.symm
          have HOK3 : Hid (qks (wrs E) (w.heap.size + 1) w3 (fun z => left z && !z.sameKey (keyL xn)) (O ++ [(xn, g2, cap2)])) := by
            have h1 : qks (wrs E) (w.heap.size + 1) w3 left O := HOK1.out.keep fun i c _ hi => by
              have h2 := qaa HBL.out hi
              have h3 := qad h2 (.cells #[.int .i64 (xn : Int), .slice (some ⟨g2, 0, none⟩) 64 cap2, .bool false] 171)
              exact (hgrow3.block i (qac h3) (hnt i c h3)).trans (h3.trans hi.symm)
            have h4 := qad HG.2.1 (.cells #[.int .i64 (xn : Int), .slice (some ⟨g2, 0, none⟩) 64 cap2, .bool false] 171)
            have hl1 := qac HH1.out
            exact h1.step xn g2 cap2 rq.D cur2 (by rw [← Hxn.out]; exact HLK.out) hxn (by rw [← Hxn.out]; exact HLAST.out) HXL.out ⟨by have := HG.1.1; omega, HG.1.2⟩ ((hgrow3.block g2 (qac h4) (hnt g2 cur2 h4)).trans h4) HG.2.2
          have HH3 : Hid (w3.heap[w.heap.size]? = some (.cells #[.int .i64 (h : Int)] 3 (0, 0))) := by
            have h4 := qad HH2.out (.cells #[.int .i64 (xn : Int), .slice (some ⟨g2, 0, none⟩) 64 cap2, .bool false] 171)
            exact (hgrow3.block _ (qac h4) (fun e => qds (HO2.out _) h4 (by decide) e.symm)).trans h4
          have HB3 : Hid (Below w.heap.size w w3) := (HB2.out.alloc HB2.out.size _).grown hgrow3 (by simp; omega) (by intro q hq; have := ((HO2.out (.cells #[.int .i64 (xn : Int), .slice (some ⟨g2, 0, none⟩) 64 cap2, .bool false] 171)).lt q hq).1; omega)
          clear hown3 hgrow3 hneb hnt hen HG
          go_wp2
          go_roundw
          case rel => exact ⟨_, cnt1, _, HR3, HNEW, HOK3, HH3, HB3⟩
          case measure => rw [HR3.out.left_eq, HR.out.left_eq]; exact HLT.out
end Go.Proofs.YtpoglnpjadmbpaaGreatDoor
