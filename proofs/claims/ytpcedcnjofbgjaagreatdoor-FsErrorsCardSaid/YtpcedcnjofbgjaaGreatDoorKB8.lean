import Derived.Test.YtpcedcnjofbgjaaGreatDoorKB2
import Derived.Test.YtpcedcnjofbgjaaGreatDoorKB3
import Derived.Test.YtpcedcnjofbgjaaGreatDoorKB6
import Derived.Test.YtpcedcnjofbgjaaGreatDoorKB7
set_option maxHeartbeats 0
set_option linter.all false
set_option maxRecDepth 100000
namespace Go.Proofs.YtpcedcnjofbgjaaGreatDoor
open Go.RowKit
def wasN (th:Bool) (x:AN):ByteArray:=numI (oldE th x)++tu (oldD th x)++⟨#[124]⟩
def wasI (th:Bool) (c:Nat->AN) (b:ByteArray):Nat->ByteArray
 | 0=>b
 | i+1=>wasI th c b i++wasN th (c i)
theorem E5 (th) (x):0<=oldE th x/\oldE th x<=12:=by
 unfold oldE
 repeat' split
 all_goals lia
theorem SJ.old {s:Fs} {c:Nat} {A:Nat->AN} {B:Nat->List Pn×(Nat->AN)} (h:SJ s B) (o:SI s c A):FQ s λt=>(B t).2:=by
 refine⟨λt _ d f=>((h.tree t d f).1.tree o.k1).1,λt _ d f i b=>?_,o.byteE⟩;let⟨a,_,_⟩:=h.tree t d f;have g:=Po a.len b;let⟨_,l,_,_,_,m⟩:=a.ents b;refine⟨(B t).1.getD i zN,?_,l,m,λp j=>?_,a.own.few _ g,?_⟩
 .rw[(a.tree o.k1).2,zt,zk (by rwa[a.len])];rfl
 .rcases a.own.pts _ g p j with e|e
  .have:=o.k0;lia
  .lia
 .rcases a.fld i b with e|⟨_,k,n,_⟩
  .rw[e];decide
  .exact⟨k,n⟩
