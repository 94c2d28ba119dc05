/- Part of the proofs of FsLinks: the texts DirLay, LiftFar, LiftCmp. -/
import Derived.Test.YtpoglnpjadmbpaaGreatDoorKA1
import Derived.Shelf.Small.Strs
import Derived.Shelf.Strings.Trim
import Derived.Test.YtpoglnpjadmbpaaGreatDoorProg
import Derived.LoopTactic
import Derived.WalkKit
import Derived.IntWalk
import Derived.Lib.Hide
import Derived.BigQuiet
import Derived.Deep.QuietTactic
import Derived.Sort.Grow
set_option maxHeartbeats 16000000
set_option maxRecDepth 100000
namespace Go.Proofs.YtpoglnpjadmbpaaGreatDoor
open Go.Shelf
def Tryz.lays137_ren : Go.Shelf.Ren:=⟨fun | 137=>100 | 217=>144 | 266=>174 | n=>n,fun | 9=>9 | 5=>5 | 3=>3 | n=>n,fun | n=>n⟩
theorem Tryz.lays137 : Go.Proofs.Lays.n137 Tryz.prog Tryz.lays137_ren:={
 mixed:=by kernel_rfl,
 f137:=Tryz.func100.trans (congrArg some (by kernel_rfl)),
 f217:=Tryz.func144.trans (congrArg some (by kernel_rfl)),
 f266:=Tryz.func174.trans (congrArg some (by kernel_rfl)),
 t3:=Tryz.underlying3,
 a3:=Tryz.isAgg3,
 z3:=Tryz.sizeOf3,
 v3:=Tryz.zeroValue3,
 t5:=Tryz.underlying5,
 a5:=Tryz.isAgg5,
 z5:=Tryz.sizeOf5,
 v5:=Tryz.zeroValue5,
 t9:=Tryz.underlying9,
 a9:=Tryz.isAgg9,
 z9:=Tryz.sizeOf9,
 v9:=Tryz.zeroValue9 }
def Tryz.lays162_ren : Go.Shelf.Ren:=⟨fun | 162=>116 | 232=>158 | 227=>159 | 234=>160 | 236=>161 | 228=>189 | 271=>190 | 151=>191 | 120=>208 | 197=>209 | 152=>210 | 260=>216 | 137=>100 | 119=>217 | 224=>218 | 225=>219 | 217=>144 | 266=>174 | n=>n,fun | 9=>9 | 4=>4 | 3=>3 | 5=>5 | 117=>225 | 116=>224 | 0=>0 | 124=>228 | 21=>21 | 105=>252 | 46=>61 | 119=>280 | 139=>283 | 138=>282 | n=>n,fun | 3=>1 | 4=>2 | n=>n⟩
theorem Tryz.lays162 : Go.Proofs.Lays.n162 Tryz.prog Tryz.lays162_ren:={
 mixed:=by kernel_rfl,
 f119:=Tryz.func217.trans (congrArg some (by kernel_rfl)),
 f120:=Tryz.func208.trans (congrArg some (by kernel_rfl)),
 f137:=Tryz.func100.trans (congrArg some (by kernel_rfl)),
 f151:=Tryz.func191.trans (congrArg some (by kernel_rfl)),
 f152:=Tryz.func210.trans (congrArg some (by kernel_rfl)),
 f162:=Tryz.func116.trans (congrArg some (by kernel_rfl)),
 f197:=Tryz.func209.trans (congrArg some (by kernel_rfl)),
 f217:=Tryz.func144.trans (congrArg some (by kernel_rfl)),
 f224:=Tryz.func218.trans (congrArg some (by kernel_rfl)),
 f225:=Tryz.func219.trans (congrArg some (by kernel_rfl)),
 f227:=Tryz.func159.trans (congrArg some (by kernel_rfl)),
 f228:=Tryz.func189.trans (congrArg some (by kernel_rfl)),
 f232:=Tryz.func158.trans (congrArg some (by kernel_rfl)),
 f234:=Tryz.func160.trans (congrArg some (by kernel_rfl)),
 f236:=Tryz.func161.trans (congrArg some (by kernel_rfl)),
 f260:=Tryz.func216.trans (congrArg some (by kernel_rfl)),
 f266:=Tryz.func174.trans (congrArg some (by kernel_rfl)),
 f271:=Tryz.func190.trans (congrArg some (by kernel_rfl)),
 t0:=Tryz.underlying0,
 a0:=Tryz.isAgg0,
 z0:=Tryz.sizeOf0,
 v0:=Tryz.zeroValue0,
 t3:=Tryz.underlying3,
 a3:=Tryz.isAgg3,
 z3:=Tryz.sizeOf3,
 v3:=Tryz.zeroValue3,
 t4:=Tryz.underlying4,
 a4:=Tryz.isAgg4,
 z4:=Tryz.sizeOf4,
 v4:=Tryz.zeroValue4,
 t5:=Tryz.underlying5,
 a5:=Tryz.isAgg5,
 z5:=Tryz.sizeOf5,
 v5:=Tryz.zeroValue5,
 t9:=Tryz.underlying9,
 a9:=Tryz.isAgg9,
 z9:=Tryz.sizeOf9,
 v9:=Tryz.zeroValue9,
 t21:=Tryz.underlying21,
 a21:=Tryz.isAgg21,
 z21:=Tryz.sizeOf21,
 v21:=Tryz.zeroValue21,
 t46:=Tryz.underlying61,
 a46:=Tryz.isAgg61,
 z46:=Tryz.sizeOf61,
 v46:=Tryz.zeroValue61,
 t105:=Tryz.underlying252,
 a105:=Tryz.isAgg252,
 z105:=Tryz.sizeOf252,
 v105:=Tryz.zeroValue252,
 t116:=Tryz.underlying224,
 a116:=Tryz.isAgg224,
 z116:=Tryz.sizeOf224,
 t117:=Tryz.underlying225,
 a117:=Tryz.isAgg225,
 z117:=Tryz.sizeOf225,
 v117:=Tryz.zeroValue225,
 t119:=Tryz.underlying280,
 a119:=Tryz.isAgg280,
 z119:=Tryz.sizeOf280,
 t124:=Tryz.underlying228,
 a124:=Tryz.isAgg228,
 z124:=Tryz.sizeOf228,
 v124:=Tryz.zeroValue228,
 t138:=Tryz.underlying282,
 a138:=Tryz.isAgg282,
 z138:=Tryz.sizeOf282,
 v138:=Tryz.zeroValue282,
 t139:=Tryz.underlying283,
 a139:=Tryz.isAgg283,
 z139:=Tryz.sizeOf283,
 v139:=Tryz.zeroValue283,
 g3:=by kernel_rfl,
 g4:=by kernel_rfl }
end Go.Proofs.YtpoglnpjadmbpaaGreatDoor
namespace Go.Proofs.YtpoglnpjadmbpaaGreatDoor
open Go.RowKit
theorem ybwa (h n:Int) (h0:0<=h) (h1:h<256) (n0:0<=n) (n1:n<256):(((n - h).tmod 256+256) % 256)=((farN h.toNat n.toNat:Nat):Int):=by
 unfold farN
 have e1:(n - h).tmod 256=n - h:=by
  by_cases c:0<=n - h
  ·rw[Int.tmod_eq_emod_of_nonneg c];omega
  ·have:n - h = -(h - n):=by omega
   rw[this,Int.neg_tmod,Int.tmod_eq_emod_of_nonneg (by omega)];omega
 rw[e1]
 omega
theorem ybxp (h n:Int) (w:World) (h0:0<=h) (h1:h<256) (n0:0<=n) (n1:n<256):
  Calls Tryz.prog 204 #[.int .i64 h,.int .i64 n] w fun e w'=>e=.returned (.int .i64 (farN h.toNat n.toNat:Int))/\w=w':=by
 have HE:=Lib.hid (ybwa h n h0 h1 n0 n1)
 have b1: -256<=(n - h).tmod 256/\(n - h).tmod 256<=256:=by
  have e:=ybwa h n h0 h1 n0 n1
  have a:=Int.tmod_lt_of_pos (n - h) (b:=256) (by omega)
  have b: -256<(n - h).tmod 256:=by
   by_cases c:0<=n - h
   ·have:=Int.tmod_nonneg 256 c;omega
   ·have e2:n - h = -(h - n):=by omega
    rw[e2,Int.neg_tmod]
    have:=Int.tmod_lt_of_pos (h - n) (b:=256) (by omega)
    omega
  omega
 obtain⟨c1,c2⟩:=b1
 have p1:IntKind.i64.wrap (n - h)=n - h:=IntWalk.i64_in _ (by omega)
 have p2:IntKind.i64.wrap ((n - h).tmod 256+256)=(n - h).tmod 256+256:=IntWalk.i64_in _ (by omega)
 go_enter Tryz.func204,Tryz.ntmps204
 go_wp2
 go_ret
 rw[<-HE.out]
 exact⟨rfl,rfl⟩
open Go.Sort
abbrev Rk := Nat × Nat × Nat
def encK (x:Rk):List Value:=[.int .i64 ((x.1 % 256:Nat):Int),.slice (some ⟨x.2.1,0,none⟩) 64 x.2.2,.bool false]
def cfK (h:Nat) (x y:Rk):Int:=(farN h (x.1 % 256):Int) - (farN h (y.1 % 256):Int)
theorem qpy (x:Rk):(encK x).length=3:=rfl
theorem ybrp (x:Rk):∀ v ∈ encK x,v.oneCell'=true:=by
 intro v hv
 simp[encK]at hv
 rcases hv with rfl | rfl | rfl <;> rfl
theorem ybxa (gh h:Nat) (hh:h<256) (x y:Rk) (W:World) (hc:W.cell? ⟨gh,0,none⟩=some (.int .i64 (h:Int))):
  Calls Tryz.prog 203 #[.agg (encK x).toArray,.agg (encK y).toArray,.pointer (some ⟨gh,0,none⟩)] W fun e w'=>e=.returned (.int .i64 (cfK h x y))/\∃ q os',w'=grow (W.drewN q) os':=by
 obtain⟨a,Ha⟩:∃ a,Hid (x.1 % 256=a):=⟨_,rfl⟩
 obtain⟨b,Hb⟩:∃ b,Hid (y.1 % 256=b):=⟨_,rfl⟩
 have ha:a<256:=by rw[<-Ha.out];omega
 have hb:b<256:=by rw[<-Hb.out];omega
 unfold cfK encK
 rw[Ha.out,Hb.out]
 obtain⟨v1,Hv1⟩:∃ v,Hid (v=x.2.1):=⟨_,rfl⟩
 obtain⟨c1,Hc1⟩:∃ v,Hid (v=x.2.2):=⟨_,rfl⟩
 obtain⟨v2,Hv2⟩:∃ v,Hid (v=y.2.1):=⟨_,rfl⟩
 obtain⟨c2,Hc2⟩:∃ v,Hid (v=y.2.2):=⟨_,rfl⟩
 rw[<-Hv1.out,<-Hc1.out,<-Hv2.out,<-Hc2.out]
 have hfa:=ybbr h a
 have hfb:=ybbr h b
 have HF:=Lib.hid (fun (n:Nat) (hn:n<256) w=>ybxp (h:Int) (n:Int) w (by omega) (by omega) (by omega) (by omega))
 simp only[Int.toNat_natCast]at HF
 have hlt:gh<W.heap.size:=block_lt_of_cell hc
 have hn1:¬ gh=W.heap.size:=by omega
 have hn2:¬ gh=W.heap.size+1:=by omega
 go_enter Tryz.func203,Tryz.ntmps203
 go_wp2
 go_quiet ((go_at_call 204;exact Calls.quiet_of_same ((HF.out _ (by assumption) _).mono fun e w' h=>⟨h.1,h.2.symm⟩)))
 go_wp2
 go_ret
 exact⟨rfl,_,_,by rw[alloc_eq_grow,alloc_eq_grow,grow_grow];rfl⟩
end Go.Proofs.YtpoglnpjadmbpaaGreatDoor
