/- Part of the proofs of FsLinks: the texts DirW, DirW2, DirRight. -/
import Derived.Test.YtpoglnpjadmbpaaGreatDoorKA5
import Derived.Test.YtpoglnpjadmbpaaGreatDoorKA6
import Derived.Laws.Cover1
set_option maxHeartbeats 16000000
set_option maxRecDepth 100000
namespace Go.Proofs.YtpoglnpjadmbpaaGreatDoor
open Go.RowKit Go.Shelf
theorem qoo (s:ByteArray) (w:World):Calls Tryz.prog 164 #[.string s] w fun e w'=>e=.returned (.bool false)/\w=w':=by
 go_enter Tryz.func164,Tryz.ntmps164
 go_wp2
 go_ret
 simp
theorem qra (a b:ByteArray) (w:World):Calls Tryz.prog 121 #[.string a,.string b] w fun e w'=>e=.returned (.int .i64 (cmpB a b))/\w=w':=by
 obtain⟨r,Hr⟩:∃ r,Hid (cmpB a b=r):=⟨_,rfl⟩
 rw[Hr.out]
 cases h1:lexB a b with
 | true=>
  have HR:Hid (r = -1):=by
   show r = -1
   rw[<-Hr.out];unfold cmpB;rw[if_pos h1]
  have h1':Op.bytesLess a.toList b.toList=true:=h1
  clear h1
  go_enter Tryz.func121,Tryz.ntmps121
  go_wp2_with fail
  refine (qoo _ _).mono ?_
  rintro e w' ⟨rfl,rfl⟩
  go_wp2_with fail
  refine (qoo _ _).mono ?_
  rintro e w' ⟨rfl,rfl⟩
  go_wp2
  go_ret
  exact⟨by rw[HR.out];rfl,rfl⟩
 | false=>
  have h1':Op.bytesLess a.toList b.toList=false:=h1
  cases h2:lexB b a with
  | true=>
   have HR:Hid (r=1):=by
    show r=1
    rw[<-Hr.out];unfold cmpB;rw[if_neg (by rw[h1];decide),if_neg]
    intro e;subst e;rw[h2]at h1;cases h1
   have hne:¬ a.toList=b.toList:=fun e=>by have:=ybkk e;subst this;rw[h2]at h1;cases h1
   have hbe:(a.toList == b.toList)=false:=by rw[beq_eq_false_iff_ne];exact hne
   clear h1 h2 hne
   go_enter Tryz.func121,Tryz.ntmps121
   go_wp2_with fail
   refine (qoo _ _).mono ?_
   rintro e w' ⟨rfl,rfl⟩
   go_wp2_with fail
   refine (qoo _ _).mono ?_
   rintro e w' ⟨rfl,rfl⟩
   go_wp2
   go_ret
   exact⟨by rw[HR.out];rfl,rfl⟩
  | false=>
   have HR:Hid (r=0):=by
    show r=0
    rw[<-Hr.out];unfold cmpB;rw[if_neg (by rw[h1];decide),if_pos (qic h1 h2)]
   have hab:=qic h1 h2
   subst hab
   clear h1 h2
   go_enter Tryz.func121,Tryz.ntmps121
   go_wp2_with fail
   refine (qoo _ _).mono ?_
   rintro e w' ⟨rfl,rfl⟩
   go_wp2_with fail
   refine (qoo _ _).mono ?_
   rintro e w' ⟨rfl,rfl⟩
   go_wp2
   go_ret
   exact⟨by rw[HR.out];rfl,rfl⟩
theorem ybmn (l:List UInt8) (c:UInt8):decide (Lib.indexByte l c<0) = !(l.contains c):=by
 have h:∀ l:List UInt8,-1<=Lib.indexByte l c:=by
  intro l
  induction l with
  | nil=>show (-1:Int) <= -1;omega
  | cons b l ih=>unfold Lib.indexByte;split <;> (try split) <;> omega
 induction l with
 | nil=>rfl
 | cons b l ih=>
  have h1:=h l
  unfold Lib.indexByte
  by_cases hb:b=c
  ·subst hb;simp
  ·have hb2:¬ c=b:=fun e=>hb e.symm
   by_cases hc:Lib.indexByte l c = -1
   ·rw[hc]at ih
    simp at ih
    simp[hb,hb2,hc,ih]
   ·have h3:¬ (Lib.indexByte l c<0):=by omega
    have h4:¬ (Lib.indexByte l c+1<0):=by omega
    simp[h3]at ih
    simp[hb,hb2,hc,h4,ih]
theorem ixb (s:ByteArray) (c:Nat) (_:c<256) (w:World):Calls Tryz.prog 100 #[.string s,.int .u8 (c:Int)] w fun e w'=>(∃ r:Int,e=.returned (.int .i64 r)/\decide (r<0) = !(s.data.toList.contains (UInt8.ofNat c)))/\w'=w:=by
 refine (Any.strings_IndexByte Tryz.lays137 s (c:Int) w).mono ?_
 rintro e w' ⟨rfl,rfl⟩
 refine⟨⟨_,rfl,?_⟩,rfl⟩
 rw[ybmn]
 simp
theorem ixz (s:ByteArray) (c:Nat) (hc:c<256) (z:Bool) (hz:s.data.toList.contains (UInt8.ofNat c)=z) (w:World):Calls Tryz.prog 100 #[.string s,.int .u8 (c:Int)] w fun e w'=>(∃ r:Int,e=.returned (.int .i64 r)/\decide (r<0) = !z)/\w'=w:=by
 rw[<-hz];exact ixb s c hc w
theorem qqh (s : ByteArray) (w : World) : Calls Tryz.prog 59 #[.string s] w fun e w' => e = .returned (.bool (qjs s)) ∧ w = w' := by
  obtain ⟨r, Hr⟩ : ∃ r, Hid (qjs s = r) := ⟨_, rfl⟩
  obtain ⟨z, Hz⟩ : ∃ z, Hid (s.data.toList.contains 0 = z) := ⟨_, rfl⟩
  obtain ⟨y, Hy⟩ : ∃ y, Hid (s.data.toList.contains 47 = y) := ⟨_, rfl⟩
  have H0 := Lib.hid (fun w => ixz s 0 (by omega) z Hz.out w)
  have H1 := Lib.hid (fun w => ixz s 47 (by omega) y Hy.out w)
  have HN : Hid (r = (!(s.toList == []) && decide (s.size ≤ 14) && !(s.toList == [46]) && !(s.toList == [46, 46]) && !z && !y)) := by
    show _ = _
    rw [← Hr.out, ← Hz.out, ← Hy.out]; rfl
  rw [Hr.out]
  clear Hr Hz Hy
  go_enter Tryz.func59, Tryz.ntmps59
  cases z <;> cases y <;> go_wp2_with (go_at_call 100; (first | refine (H0.out _).mono ?_ | refine (H1.out _).mono ?_); rintro e w' ⟨⟨q, rfl, hq⟩, rfl⟩; simp at hq)
  all_goals
    have hs : decide (s.size ≤ 14) = true ∨ decide (s.size ≤ 14) = false := by cases decide (s.size ≤ 14) <;> simp
    go_ret
    rw [HN.out]
    refine ⟨?_, rfl⟩
    first
      | simp [*]; done
      | (have h14 : s.size ≤ 14 := by omega
         simp [*]; done)
      | (have h14 : ¬ s.size ≤ 14 := by omega
         simp [*]; done)
end Go.Proofs.YtpoglnpjadmbpaaGreatDoor
namespace Go.Proofs.YtpoglnpjadmbpaaGreatDoor
open Go.RowKit
def IdxP (T:En->Bool) (l:List En) (r:Int):Prop:=(r = -1/\∀ x ∈ l,T x=false)\/∃ (k:Nat) (hk:k<l.length),r=k/\T l[k]=true/\∀ x ∈ l.take k,T x=false
def IdxE (T:En->Bool) (l:List En) (w:World) (e:Ending) (w':World):Prop:=∃ r:Int,e=.returned (.int .i64 r)/\IdxP T l r/\Below w.heap.size w w'
theorem ybdr (a b:ByteArray):(a.toList == b.toList)=decide (a=b):=by
 rw[Bool.eq_iff_iff,beq_iff_eq,decide_eq_true_eq]
 exact⟨ybkk,fun e=>by rw[e]⟩
theorem ybfd (fid:FuncId) (hfid:∀ args w,(callFunc fid args).run Tryz.prog w=.ok (.enter fid args) w) (c:Value) (T:En->Bool) (v:Value) (l:List En) (w:World) (h:qdd w v l) (hl:l.length<=1000000)
  (hf:∀ x ∈ l,∀ W:World,Below w.heap.size w W->Calls Tryz.prog fid #[.agg #[.string x.1,.int .i64 x.2],c] W fun e w'=>e=.returned (.bool (T x))/\Below W.heap.size W w'):
  Calls Tryz.prog 147 #[v,.func (.func fid) #[] #[c]] w (IdxE T l w):=by
 obtain⟨N,HN⟩:∃ N,Hid (N=l.length):=⟨_,rfl⟩
 obtain⟨p,cp,rfl,hp⟩:=qgt h N HN.out
 have HP:=Lib.hid hp
 have HF:=Lib.hid hf
 rw[<-HN.out]at hl
 clear h hf hp
 go_enter Tryz.func147,Tryz.ntmps147
 go_wp2
 go_loopw [8] (fun i wr=>∃ k:Nat,k<=N/\i=.int .i64 k/\Hid (∀ x ∈ l.take k,T x=false)/\Below w.heap.size w wr) (fun i _=>N - (intOf i).toNat)
 case atStart=>exact⟨0,Nat.zero_le _,rfl,by show ∀ x ∈ l.take 0,_;simp,Below.refl _ _⟩
 case round=>
  obtain⟨k,hk,rfl,HK,HB⟩:=hrel
  by_cases hlt:k<N
  ·obtain⟨g,o,rfl,hg,hc⟩:=HP.out (by omega)
   have hkl:k<l.length:=by rw[<-HN.out];exact hlt
   have hck:=hc k hkl
   have hcall:=HF.out l[k] (List.getElem_mem hkl) _ HB
   obtain⟨x,HX⟩:∃ x,Hid (l[k]=x):=⟨l[k],rfl⟩
   obtain⟨x1,HX1⟩:∃ y,Hid (l[k].1=y):=⟨l[k].1,rfl⟩
   obtain⟨x2,HX2⟩:∃ y,Hid (l[k].2=y):=⟨l[k].2,rfl⟩
   rw[HX1.out,HX2.out]at hck hcall
   have c1:=(HB.cell (p:=⟨g,o+k*2,none⟩) hg).trans hck.1
   have c2:=(HB.cell (p:=⟨g,o+(k*2+1),none⟩) hg).trans hck.2
   have c3:=c2
   rw[<-Nat.add_assoc]at c3
   obtain⟨b,Hb⟩:∃ b,Hid (T l[k]=b):=⟨T l[k],rfl⟩
   rw[Hb.out]at hcall
   have HT:Hid (b=false->∀ y ∈ l.take (k+1),T y=false):=fun hb y hy=>by
    rw[<-List.take_append_getElem hkl,List.mem_append,List.mem_singleton]at hy
    rcases hy with hy | rfl
    ·exact HK.out y hy
    ·rw[Hb.out];exact hb
   have HC:=Lib.hid hcall
   clear hc hck hcall
   have hlt2:(k:Int)<(N:Int):=by omega
   go_wp2_with fail
   refine HC.out.mono ?_
   rintro e w1 ⟨rfl,hb1⟩
   have hB1:=Below.step HB hb1
   clear hb1
   cases b with
   | true=>
    go_wp2
    go_ret
    exact⟨k,rfl,Or.inr ⟨k,hkl,rfl,Hb.out,HK.out⟩,hB1⟩
   | false=>
    go_wp2
    go_roundw
    case rel=>exact⟨k+1,by omega,by go_num,fun y hy=>HT.out trivial y hy,hB1⟩
    case measure=>simp[intOf];omega
  ·have HE:Hid (∀ x ∈ l,T x=false):=by
    have:=HK.out
    rw[List.take_of_length_le (by rw[<-HN.out];omega)]at this
    exact this
   go_wp2
   go_ret
   exact⟨-1,rfl,Or.inl ⟨rfl,HE.out⟩,HB⟩
theorem ybfb (fid:FuncId) (hfid:∀ args w,(callFunc fid args).run Tryz.prog w=.ok (.enter fid args) w) (c:Value) (T:En->Bool) (v:Value) (l:List En) (w:World) (h:qdd w v l) (hl:l.length<=1000000)
  (hf:∀ x ∈ l,∀ W:World,Below w.heap.size w W->Calls Tryz.prog fid #[.agg #[.string x.1,.int .i64 x.2],c] W fun e w'=>e=.returned (.bool (T x))/\Below W.heap.size W w'):
  Calls Tryz.prog 145 #[v,.func (.func fid) #[] #[c]] w fun e w'=>e=.returned (.bool (l.any T))/\Below w.heap.size w w':=by
 have HI:=Lib.hid (ybfd fid hfid c T v l w h hl hf)
 obtain⟨r0,Hr0⟩:∃ r,Hid (l.any T=r):=⟨_,rfl⟩
 rw[Hr0.out]
 clear h hf hfid
 go_enter Tryz.func145,Tryz.ntmps145
 go_wp2_with fail
 refine HI.out.mono ?_
 rintro e w1 ⟨r,rfl,hr,hb⟩
 have HR:=Lib.hid hr
 clear hr
 go_wp2
 go_ret
 refine⟨?_,hb⟩
 have:r0=decide (0<=r):=by
  rw[<-Hr0.out]
  rcases HR.out with⟨rfl,h⟩ | ⟨k,hk,rfl,h,_⟩
  ·rw[List.any_eq_false.2 (fun x hx=>by rw[h x hx];simp)];rfl
  ·rw[List.any_eq_true.2 ⟨_,List.getElem_mem hk,h⟩]
   have:(0:Int)<=(k:Int):=by omega
   simp[this]
 rw[this];rfl
theorem ybjd (n:ByteArray) (y:En) (g:Nat) (W:World) (h:W.cell? ⟨g,0,none⟩=some (.string n)):
  Calls Tryz.prog 162 #[.agg #[.string y.1,.int .i64 y.2],.pointer (some ⟨g,0,none⟩)] W fun e w'=>e=.returned (.bool (decide (n=y.1)))/\Below W.heap.size W w':=by
 obtain⟨b,Hb⟩:∃ b,Hid (decide (n=y.1)=b):=⟨_,rfl⟩
 rw[Hb.out]
 have hb:Hid ((n.toList == y.1.toList)=b):=by show _=_;rw[ybdr];exact Hb.out
 have hb2:Hid ((y.1.toList == n.toList)=b):=by show _=_;rw[Bool.beq_comm];exact hb.out
 obtain⟨y1,y2⟩:=y
 have hlt:g<W.heap.size:=block_lt_of_cell h
 have hne:¬ g=W.heap.size:=by omega
 have HB:Hid (Below W.heap.size W (W.alloc (.cells #[.string y1,.int .i64 y2] 100))):=(Below.refl _ _).alloc (Nat.le_refl _) _
 clear Hb
 go_enter Tryz.func162,Tryz.ntmps162
 go_wp2
 go_ret
 first
  | exact⟨by rw[<-hb.out];rfl,HB.out⟩
  | exact⟨by rw[<-hb2.out];rfl,HB.out⟩
theorem qtt (args:Array Value) (w:World):(callFunc 162 args).run Tryz.prog w=.ok (.enter 162 args) w:=by simp[go_sem]
theorem ybuj (n:ByteArray) (y:En) (g:Nat) (W:World) (h:W.cell? ⟨g,0,none⟩=some (.string n)):
  Calls Tryz.prog 146 #[.agg #[.string y.1,.int .i64 y.2],.pointer (some ⟨g,0,none⟩)] W fun e w'=>e=.returned (.bool (decide (n=y.1)))/\Below W.heap.size W w':=by
 obtain⟨b,Hb⟩:∃ b,Hid (decide (n=y.1)=b):=⟨_,rfl⟩
 rw[Hb.out]
 have hb:Hid ((n.toList == y.1.toList)=b):=by show _=_;rw[ybdr];exact Hb.out
 have hb2:Hid ((y.1.toList == n.toList)=b):=by show _=_;rw[Bool.beq_comm];exact hb.out
 obtain⟨y1,y2⟩:=y
 have hlt:g<W.heap.size:=block_lt_of_cell h
 have hne:¬ g=W.heap.size:=by omega
 have HB:Hid (Below W.heap.size W (W.alloc (.cells #[.string y1,.int .i64 y2] 100))):=(Below.refl _ _).alloc (Nat.le_refl _) _
 clear Hb
 go_enter Tryz.func146,Tryz.ntmps146
 go_wp2
 go_ret
 first
  | exact⟨by rw[<-hb.out];rfl,HB.out⟩
  | exact⟨by rw[<-hb2.out];rfl,HB.out⟩
theorem qzo (args:Array Value) (w:World):(callFunc 146 args).run Tryz.prog w=.ok (.enter 146 args) w:=by simp[go_sem]
theorem ybtz (n:ByteArray) (y:En) (g:Nat) (W:World) (h:W.cell? ⟨g,0,none⟩=some (.string n)):
  Calls Tryz.prog 148 #[.agg #[.string y.1,.int .i64 y.2],.pointer (some ⟨g,0,none⟩)] W fun e w'=>e=.returned (.bool (decide (n=y.1)))/\Below W.heap.size W w':=by
 obtain⟨b,Hb⟩:∃ b,Hid (decide (n=y.1)=b):=⟨_,rfl⟩
 rw[Hb.out]
 have hb:Hid ((n.toList == y.1.toList)=b):=by show _=_;rw[ybdr];exact Hb.out
 have hb2:Hid ((y.1.toList == n.toList)=b):=by show _=_;rw[Bool.beq_comm];exact hb.out
 obtain⟨y1,y2⟩:=y
 have hlt:g<W.heap.size:=block_lt_of_cell h
 have hne:¬ g=W.heap.size:=by omega
 have HB:Hid (Below W.heap.size W (W.alloc (.cells #[.string y1,.int .i64 y2] 100))):=(Below.refl _ _).alloc (Nat.le_refl _) _
 clear Hb
 go_enter Tryz.func148,Tryz.ntmps148
 go_wp2
 go_ret
 first
  | exact⟨by rw[<-hb.out];rfl,HB.out⟩
  | exact⟨by rw[<-hb2.out];rfl,HB.out⟩
theorem qzk (args:Array Value) (w:World):(callFunc 148 args).run Tryz.prog w=.ok (.enter 148 args) w:=by simp[go_sem]
theorem qdd.take {w:World} {p:Option Addr} {N cp:Nat} {l:List En} (h:qdd w (.slice p N cp) l) {k:Nat} (hk:k<=l.length):qdd w (.slice p k cp) (l.take k):=by
 have hlen:(l.take k).length=k:=by rw[List.length_take];omega
 refine⟨by rw[qfo],?_⟩
 rw[hlen]
 rcases Nat.eq_zero_or_pos k with h0 | h0
 ·exact Or.inl ⟨h0,p,cp,by rw[h0]⟩
 ·obtain⟨_,⟨h1,_⟩ | ⟨g,o,cap,hv,hc⟩⟩:=h
  ·omega
  ·injection hv with e1 e2 e3
   subst e1 e3
   refine Or.inr ⟨g,o,_,rfl,fun j x hj=>hc j x ?_⟩
   have e:ents l=ents (l.take k)++ents (l.drop k):=by rw[<-qed,List.take_append_drop]
   rw[e,List.getElem?_append_left (List.getElem?_eq_some_iff.1 hj).1]
   exact hj
def ybqj (v:Value):Prop:=∀ p n c,v=.slice p n c->n<=c
theorem qdd.below {w w':World} {v:Value} {l:List En} (h:qdd w v l) (hb:Below w.heap.size w w'):qdd w' v l:=qai.below h hb
theorem ybzg (S:List En) (x:En) (l:List En):rD S (x :: l)=if okE x=false then 3 else if S.any (fun y=>decide (x.1=y.1)) then 5 else rD (S++[x]) l:=by
 have:S.any (fun y=>decide (x.1=y.1))=S.any (fun y=>decide (y.1=x.1)):=by
  congr 1
  funext y
  rw[decide_eq_decide]
  exact eq_comm
 rw[this];rfl
theorem qsp (v:Value) (l:List En) (w:World) (h:qdd w v l) (hv:ybqj v) (hl:l.length<=1000000):
  Calls Tryz.prog 117 #[v] w fun e w'=>e=.returned (.int .i64 (qct l))/\Below w.heap.size w w':=by
 obtain⟨r,Hr⟩:∃ r,Hid (qct l=r):=⟨_,rfl⟩
 rw[Hr.out]
 obtain⟨N,HN⟩:∃ N,Hid (N=l.length):=⟨_,rfl⟩
 obtain⟨p,cp,rfl,hp⟩:=qgt h N HN.out
 have HP:=Lib.hid hp
 have HE:=Lib.hid h
 have hcp:N<=cp:=hv _ _ _ rfl
 rw[<-HN.out]at hl
 clear h hp
 by_cases h32:32<N
 ·have hr2:r=2:=by rw[<-Hr.out];unfold qct;rw[if_pos (by rw[<-HN.out];exact h32)]
  subst hr2
  have h32i:(32:Int)<(N:Int):=by omega
  go_enter Tryz.func117,Tryz.ntmps117
  go_wp2
  go_ret
  exact⟨rfl,Below.refl _ _⟩
 have HR:Hid (rD [] l=r):=by
  show _=_
  rw[<-Hr.out];unfold qct;rw[if_neg (by rw[<-HN.out];exact h32)]
 have h32i:¬ (32:Int)<(N:Int):=by omega
 go_enter Tryz.func117,Tryz.ntmps117
 go_wp2
 go_loopw [10] (fun i wr=>∃ k:Nat,k<=N/\i=.int .i64 k/\Hid (rD (l.take k) (l.drop k)=r)/\Below w.heap.size w wr) (fun i _=>N - (intOf i).toNat)
 case atStart=>exact⟨0,Nat.zero_le _,rfl,by show rD (l.take 0) (l.drop 0)=r;simpa using HR.out,Below.refl _ _⟩
 case round=>
  obtain⟨k,hk,rfl,HK,HB⟩:=hrel
  by_cases hlt:k<N
  ·obtain⟨g,o,rfl,hg,hc⟩:=HP.out (by omega)
   have hkl:k<l.length:=by rw[<-HN.out];exact hlt
   have hck:=hc k hkl
   obtain⟨x,HX⟩:∃ x,Hid (l[k]=x):=⟨l[k],rfl⟩
   rw[HX.out]at hck
   have hst:=HK.out
   rw[List.drop_eq_getElem_cons hkl,HX.out,ybzg]at hst
   have HS:=Lib.hid hst
   have HTK:Hid (l.take k++[x]=l.take (k+1)):=by
    show _=_
    rw[<-HX.out,List.take_append_getElem hkl]
   obtain⟨x1,x2⟩:=x
   have c1:=(HB.cell (p:=⟨g,o+k*2,none⟩) hg).trans hck.1
   have c2:=(HB.cell (p:=⟨g,o+(k*2+1),none⟩) hg).trans hck.2
   have c3:=c2
   rw[<-Nat.add_assoc]at c3
   have HEk:=Lib.hid (HE.out.take (k:=k) (by omega))
   clear hc hck hst
   have hlt2:(k:Int)<(N:Int):=by omega
   have hkc:(k:Int)<=(cp:Int):=by omega
   obtain⟨nm,Hnm⟩:∃ b,Hid (qjs x1=b):=⟨_,rfl⟩
   have HNM:Hid (∀ W:World,Calls Tryz.prog 59 #[.string x1] W fun e w'=>e=.returned (.bool nm)/\W=w'):=fun W=>by
    rw[<-Hnm.out];exact qqh x1 W
   have HBA:Hid (Below w.heap.size w (wr.alloc (.cells #[.string x1,.int .i64 x2] 100))):=HB.alloc HB.size _
   have hA:=heap_alloc_new wr (.cells #[.string x1,.int .i64 x2] 100)
   have hA1:(wr.alloc (.cells #[.string x1,.int .i64 x2] 100)).cell? ⟨wr.heap.size,0,none⟩=some (.string x1):=cell_of_row _ _ _ _ _ _ hA
   have HA1:=Lib.hid hA1
   obtain⟨b,Hb⟩:∃ b,Hid ((l.take k).any (fun y=>decide (x1=y.1))=b):=⟨_,rfl⟩
   have hcl:=ybfb 162 qtt (.pointer (some ⟨wr.heap.size,0,none⟩)) (fun y=>decide (x1=y.1)) _ (l.take k) _ (HEk.out.below HBA.out) (by rw[List.length_take];omega) (fun y _ W hW=>ybjd x1 y wr.heap.size W (by rw[hW.cell (block_lt_of_cell hA1)];exact hA1))
   rw[Hb.out]at hcl
   have HCL:=Lib.hid hcl
   clear hA hA1 hcl
   go_wp2_with fail
   refine (HNM.out _).mono ?_
   rintro e w1 ⟨rfl,rfl⟩
   cases nm with
   | false=>
    have hr3:r=3:=by
     rw[<-HS.out,if_pos];unfold okE;rw[Hnm.out];rfl
    subst hr3
    go_wp2
    go_ret
    exact⟨rfl,HBA.out⟩
   | true=>
    by_cases h1:x2<1
    ·have hr3:r=3:=by
      rw[<-HS.out,if_pos];unfold okE;simp;omega
     subst hr3
     go_wp2
     go_ret
     exact⟨rfl,HBA.out⟩
    by_cases h2:32<x2
    ·have hr3:r=3:=by
      rw[<-HS.out,if_pos];unfold okE;simp;omega
     subst hr3
     go_wp2
     go_ret
     exact⟨rfl,HBA.out⟩
    have hok:Hid (okE (x1,x2)=true):=by
     show _=_
     unfold okE;rw[Hnm.out];simp;omega
    have HS2:Hid ((if b=true then 5 else rD (l.take (k+1)) (l.drop (k+1)))=r):=by
     show _=_
     have h3:=HS.out
     rw[if_neg (by rw[hok.out];decide),HTK.out]at h3
     have h4:((l.take k).any fun y=>decide ((x1,x2).1=y.1))=b:=Hb.out
     rw[h4]at h3
     exact h3
    go_wp2_with fail
    refine HCL.out.mono ?_
    rintro e w2 ⟨rfl,hb2⟩
    have HB2:=Below.step HBA.out hb2
    clear hb2
    cases b with
    | true=>
     have hr5:r=5:=HS2.out.symm
     subst hr5
     go_wp2
     go_ret
     exact⟨rfl,HB2⟩
    | false=>
     have HS3:Hid (rD (l.take (k+1)) (l.drop (k+1))=r):=HS2.out
     go_wp2
     go_roundw
     case rel=>exact⟨k+1,by omega,by go_num,HS3,HB2⟩
     case measure=>simp[intOf];omega
  ·have hr0:r=0:=by
    have:=HK.out
    rw[List.drop_eq_nil_of_le (by rw[<-HN.out];omega)]at this
    rw[<-this];rfl
   subst hr0
   go_wp2
   go_ret
   exact⟨rfl,HB⟩
end Go.Proofs.YtpoglnpjadmbpaaGreatDoor
