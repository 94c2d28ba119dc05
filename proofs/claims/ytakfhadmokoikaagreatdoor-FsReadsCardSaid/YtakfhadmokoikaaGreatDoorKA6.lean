import Derived.Test.YtakfhadmokoikaaGreatDoorKA1
import Derived.Shelf.Small.Strs
import Derived.Shelf.Strings.Trim
import Derived.Test.YtakfhadmokoikaaGreatDoorProg
import Derived.LoopTactic
import Derived.WalkKit
import Derived.IntWalk
import Derived.Lib.Hide
import Derived.BigQuiet
import Derived.Deep.QuietTactic
import Derived.Sort.Grow
import Derived.Shelf.Strings.Repeat
set_option maxHeartbeats 0
set_option linter.all false
set_option maxRecDepth 100000
namespace Go.Proofs.YtakfhadmokoikaaGreatDoor
open Go.Proofs.Tryz Go.Shelf
abbrev lW:=@zeroValue9
abbrev lZ:=@zeroValue3
abbrev ly:=@isAgg5
abbrev mN:=@underlying3
abbrev nN:=@sizeOf5
abbrev rQ:=@zeroValue5
abbrev uD:=@underlying9
abbrev uY:=@underlying23
abbrev vP:=@underlying5
def Tryz.lays137_ren : Go.Shelf.Ren:=⟨fun|137=>143|217=>181|266=>216|n=>n,fun|9=>9|5=>5|3=>3|n=>n,fun|n=>n⟩
theorem Tryz.lays137: Go.Proofs.Lays.n137 prog Tryz.lays137_ren:={
 mixed:=by kernel_rfl,
 f137:=func143.trans (congrArg some (by kernel_rfl)),
 f217:=func181.trans (congrArg some (by kernel_rfl)),
 f266:=func216.trans (congrArg some (by kernel_rfl)),
 t3:=mN,
 a3:=isAgg3,
 z3:=sizeOf3,
 v3:=lZ,
 t5:=vP,
 a5:=ly,
 z5:=nN,
 v5:=rQ,
 t9:=uD,
 a9:=isAgg9,
 z9:=sizeOf9,
 v9:=lW}
def Tryz.lays162_ren : Go.Shelf.Ren:=⟨fun|162=>183|232=>217|227=>218|234=>219|236=>220|228=>230|271=>231|151=>232|120=>251|197=>252|152=>253|260=>260|137=>143|119=>261|224=>262|225=>263|217=>181|266=>216|n=>n,fun|9=>9|4=>4|3=>3|5=>5|117=>290|116=>289|0=>0|124=>293|21=>21|105=>302|46=>60|119=>325|139=>328|138=>327|n=>n,fun|3=>1|4=>2|n=>n⟩
theorem Tryz.lays162: Go.Proofs.Lays.n162 prog Tryz.lays162_ren:={
 mixed:=by kernel_rfl,
 f119:=func261.trans (congrArg some (by kernel_rfl)),
 f120:=func251.trans (congrArg some (by kernel_rfl)),
 f137:=func143.trans (congrArg some (by kernel_rfl)),
 f151:=func232.trans (congrArg some (by kernel_rfl)),
 f152:=func253.trans (congrArg some (by kernel_rfl)),
 f162:=func183.trans (congrArg some (by kernel_rfl)),
 f197:=func252.trans (congrArg some (by kernel_rfl)),
 f217:=func181.trans (congrArg some (by kernel_rfl)),
 f224:=func262.trans (congrArg some (by kernel_rfl)),
 f225:=func263.trans (congrArg some (by kernel_rfl)),
 f227:=func218.trans (congrArg some (by kernel_rfl)),
 f228:=func230.trans (congrArg some (by kernel_rfl)),
 f232:=func217.trans (congrArg some (by kernel_rfl)),
 f234:=func219.trans (congrArg some (by kernel_rfl)),
 f236:=func220.trans (congrArg some (by kernel_rfl)),
 f260:=func260.trans (congrArg some (by kernel_rfl)),
 f266:=func216.trans (congrArg some (by kernel_rfl)),
 f271:=func231.trans (congrArg some (by kernel_rfl)),
 t0:=underlying0,
 a0:=isAgg0,
 z0:=sizeOf0,
 v0:=zeroValue0,
 t3:=mN,
 a3:=isAgg3,
 z3:=sizeOf3,
 v3:=lZ,
 t4:=underlying4,
 a4:=isAgg4,
 z4:=sizeOf4,
 v4:=zeroValue4,
 t5:=vP,
 a5:=ly,
 z5:=nN,
 v5:=rQ,
 t9:=uD,
 a9:=isAgg9,
 z9:=sizeOf9,
 v9:=lW,
 t21:=underlying21,
 a21:=isAgg21,
 z21:=sizeOf21,
 v21:=zeroValue21,
 t46:=underlying60,
 a46:=isAgg60,
 z46:=sizeOf60,
 v46:=zeroValue60,
 t105:=underlying302,
 a105:=isAgg302,
 z105:=sizeOf302,
 v105:=zeroValue302,
 t116:=underlying289,
 a116:=isAgg289,
 z116:=sizeOf289,
 t117:=underlying290,
 a117:=isAgg290,
 z117:=sizeOf290,
 v117:=zeroValue290,
 t119:=underlying325,
 a119:=isAgg325,
 z119:=sizeOf325,
 t124:=underlying293,
 a124:=isAgg293,
 z124:=sizeOf293,
 v124:=zeroValue293,
 t138:=underlying327,
 a138:=isAgg327,
 z138:=sizeOf327,
 v138:=zeroValue327,
 t139:=underlying328,
 a139:=isAgg328,
 z139:=sizeOf328,
 v139:=zeroValue328,
 g3:=by kernel_rfl,
 g4:=by kernel_rfl}
end Go.Proofs.YtakfhadmokoikaaGreatDoor
namespace Go.Proofs.YtakfhadmokoikaaGreatDoor
open Go.Proofs.Tryz Go.RowKit
theorem ZN (h n:Int) (b:0<=h) (d:h<256) (e:0<=n) (f:n<256):(((n-h).tmod 256+256)%256)=((farN h.toNat n.toNat:Nat):Int):=by
 unfold farN;have a:(n-h).tmod 256=n-h:=by
  by_cases c:0<=n-h
  .rw[jT c];omega
  .have:n-h = -(h-n):=(by omega);rw[this,Int.neg_tmod,jT (by omega)];omega
 rw[a];omega
theorem Tp (h n:Int) (w:World) (m:0<=h) (p:h<256) (q:0<=n) (r:n<256):
 Calls prog 210 #[h,n] w fun e w'=>e=.returned (.int .i64 (farN h.toNat n.toNat:Int))/\w=w':=by
 have f:=Lib.hid (ZN h n m p q r);have d: -256<=(n-h).tmod 256/\(n-h).tmod 256<=256:=by
  have e:=ZN h n m p q r;have a:=oH (n-h) (b:=256) (by omega);have b: -256<(n-h).tmod 256:=by
   by_cases c:0<=n-h
   .have:=Int.tmod_nonneg 256 c;omega
   .have g:n-h = -(h-n):=(by omega);rw[g,Int.neg_tmod];have:=oH (h-n) (b:=256) (by omega);omega
  omega
 obtain⟨l,i⟩:=d;have j:=zW (n-h);have k:=zW ((n-h).tmod 256+256);go_enter func210,ntmps210;go_wp2;go_ret;rw[<-f.o];exact⟨rfl,rfl⟩
open Go.Sort
abbrev Rk:=Nat×Nat×Nat
def encK (x:Rk):List Value:=[.int .i64 ((x.1%256:Nat):Int),.slice (some ⟨x.2.1,0,none⟩) 64 x.2.2,.bool false]
def cfK (h:Nat) (x y:Rk):Int:=(farN h (x.1%256):Int)-(farN h (y.1%256):Int)
theorem Vz (x:Rk):(encK x).length=3:=rfl
theorem RZ (x:Rk):∀v∈encK x,v.oneCell'=true:=by intro v a;simp[encK]at a;rcases a with rfl|rfl|rfl<;>rfl
theorem TB (D h:Nat) (F:h<256) (x y:Rk) (W:World) (E:W.cell? (D,0)=some (.int .i64 (h:Int))):
 Calls prog 209 #[.agg (encK x).toArray,.agg (encK y).toArray,(D,())] W fun e w'=>e=.returned (.int .i64 (cfK h x y))/\∃q os',w'=grow (W.drewN q) os':=by
 obtain⟨a,k⟩:=zD (x.1%256);obtain⟨b,j⟩:=zD (y.1%256);have C:a<256:=by rw[<-k.o];omega
 have t:b<256:=by rw[<-j.o];omega
 unfold cfK encK;rw[k.o,j.o];obtain⟨u,c⟩:=zA x.2.1;obtain⟨v,f⟩:=zA x.2.2;obtain⟨A,g⟩:=zA y.2.1;obtain⟨z,d⟩:=zA y.2.2;rw[<-c.o,<-f.o,<-g.o,<-d.o];have l:=iO h a;have p:=iO h b;have i:=Lib.hid (fun (n:Nat) (B:n<256) w=>Tp (h:Int) (n:Int) w (by omega) (by omega) (by omega) (by omega));simp only[yy]at i;have m:D<W.heap.size:=block_lt_of_cell E;have r:¬D=W.heap.size:=by omega
 have s:¬D=W.heap.size+1:=by omega
 go_enter func209,ntmps209
 go_wp2
 go_quiet ((go_at_call 210;exact Calls.quiet_of_same ((i.o _ (by assumption) _).mono fun e w' h=>⟨h.1,h.2.symm⟩)))
 go_wp2;go_ret;exact⟨rfl,_,_,by rw[alloc_eq_grow,alloc_eq_grow,grow_grow];rfl⟩
end Go.Proofs.YtakfhadmokoikaaGreatDoor
namespace Go.Proofs.YtakfhadmokoikaaGreatDoor
open Go.Proofs.Tryz Go.Shelf
def Tryz.lays105_ren : Go.Shelf.Ren:=⟨fun|105=>8|212=>24|99=>25|165=>26|166=>27|170=>28|169=>29|263=>75|264=>76|206=>77|240=>78|241=>79|276=>121|277=>122|n=>n,fun|9=>9|3=>3|4=>4|20=>20|0=>0|46=>60|109=>61|5=>5|72=>66|76=>70|51=>140|146=>141|53=>143|148=>144|70=>64|37=>23|75=>69|127=>146|164=>200|80=>73|n=>n,fun|n=>n⟩
theorem Tryz.lays105: Go.Proofs.Lays.n105 prog Tryz.lays105_ren:={
 mixed:=by kernel_rfl,
 f99:=func25.trans (congrArg some (by kernel_rfl)),
 f105:=func8.trans (congrArg some (by kernel_rfl)),
 f165:=func26.trans (congrArg some (by kernel_rfl)),
 f166:=func27.trans (congrArg some (by kernel_rfl)),
 f169:=func29.trans (congrArg some (by kernel_rfl)),
 f170:=func28.trans (congrArg some (by kernel_rfl)),
 f206:=func77.trans (congrArg some (by kernel_rfl)),
 f212:=func24.trans (congrArg some (by kernel_rfl)),
 f240:=func78.trans (congrArg some (by kernel_rfl)),
 f241:=func79.trans (congrArg some (by kernel_rfl)),
 f263:=func75.trans (congrArg some (by kernel_rfl)),
 f264:=func76.trans (congrArg some (by kernel_rfl)),
 f276:=func121.trans (congrArg some (by kernel_rfl)),
 f277:=func122.trans (congrArg some (by kernel_rfl)),
 t0:=underlying0,
 a0:=isAgg0,
 z0:=sizeOf0,
 v0:=zeroValue0,
 t3:=mN,
 a3:=isAgg3,
 z3:=sizeOf3,
 v3:=lZ,
 t4:=underlying4,
 a4:=isAgg4,
 z4:=sizeOf4,
 v4:=zeroValue4,
 t5:=vP,
 a5:=ly,
 z5:=nN,
 v5:=rQ,
 t9:=uD,
 a9:=isAgg9,
 z9:=sizeOf9,
 v9:=lW,
 t20:=underlying20,
 a20:=isAgg20,
 z20:=sizeOf20,
 v20:=zeroValue20,
 t37:=uY,
 a37:=isAgg23,
 z37:=sizeOf23,
 v37:=zeroValue23,
 t46:=underlying60,
 a46:=isAgg60,
 z46:=sizeOf60,
 v46:=zeroValue60,
 t51:=underlying140,
 a51:=isAgg140,
 z51:=sizeOf140,
 v51:=zeroValue140,
 t53:=underlying143,
 a53:=isAgg143,
 z53:=sizeOf143,
 v53:=zeroValue143,
 t70:=underlying64,
 a70:=isAgg64,
 z70:=sizeOf64,
 v70:=zeroValue64,
 t72:=underlying66,
 a72:=isAgg66,
 z72:=sizeOf66,
 v72:=zeroValue66,
 t75:=underlying69,
 a75:=isAgg69,
 z75:=sizeOf69,
 v75:=zeroValue69,
 t76:=underlying70,
 a76:=isAgg70,
 z76:=sizeOf70,
 v76:=zeroValue70,
 t109:=underlying61,
 a109:=isAgg61,
 z109:=sizeOf61,
 v109:=zeroValue61,
 t127:=underlying146,
 a127:=isAgg146,
 z127:=sizeOf146,
 v127:=zeroValue146,
 t146:=underlying141,
 a146:=isAgg141,
 z146:=sizeOf141,
 v146:=zeroValue141,
 t148:=underlying144,
 a148:=isAgg144,
 z148:=sizeOf144,
 v148:=zeroValue144,
 t164:=underlying200,
 a164:=isAgg200,
 z164:=sizeOf200,
 v164:=zeroValue200}
