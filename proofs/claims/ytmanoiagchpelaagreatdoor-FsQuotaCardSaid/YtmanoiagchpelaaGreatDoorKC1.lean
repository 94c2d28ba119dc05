import Derived.Test.YtmanoiagchpelaaGreatDoorKA8
set_option maxHeartbeats 0
set_option linter.all false
set_option maxRecDepth 100000
namespace Go.Proofs.YtmanoiagchpelaaGreatDoor
variable {A B l:List (Int×Int)} {o u v:Int}
theorem P5:ofQ l u≠-1->∃A B,l=A++(u,ofQ l u)::B:=by
 induction l with
 | nil=>intro h;exact zY rfl h
 | cons x l c=>
  intro h;by_cases a:x.1=u
  .refine⟨[],l,?_⟩;have:ofQ (x::l) u=x.2:=(by show (if x.1=u then x.2 else _)=_;rw[ze a]);rw[this,<-a];rfl
  .have e:ofQ (x::l) u=ofQ l u:=(by show (if x.1=u then x.2 else _)=_;rw[zb a]);rw[e]at h ⊢;obtain⟨A,B,b⟩:=c h;exact⟨x::A,B,by rw[tJ,<-b]⟩
theorem RK (h:∀x∈l,x.1≠u):ofQ l u = -1:=by
 induction l with
 | nil=>rfl
 | cons x l a=>
  show (if x.1=u then x.2 else ofQ l u)=_;rw[zb (h x (by simp))];exact a fun y b=>h y (by simp[b])
theorem ofQ_at (h:∀x∈A,x.1≠u):ofQ (A++(u,v)::B) u=v:=by
 induction A with
 | nil=>show (if u=u then v else _)=_;rw[ze rfl]
 | cons x A a=>
  show (if x.1=u then x.2 else ofQ (A++(u,v)::B) u)=_;rw[zb (h x (by simp))];exact a fun y b=>h y (by simp[b])
theorem RJ (h:u≠o):ofQ (A++(u,v)::B) o=ofQ (A++B) o:=by
 induction A with
 | nil=>show (if u=o then v else _)=_;rw[zb h];rfl
 | cons x A a=>
  show (if x.1=o then x.2 else ofQ (A++(u,v)::B) o)=if x.1=o then x.2 else ofQ (A++B) o
  rw[a]
theorem YV (h:u≠o):ofQ (othQ l u) o=ofQ l o:=by
 induction l with
 | nil=>rfl
 | cons x l b=>
  show _=(if x.1=o then x.2 else ofQ l o);unfold othQ at *
  rw[vo];by_cases a:x.1=u
  .rw[zb (by simpa using a),b,zb (by rw[a];exact h)]
  .rw[ze (by simpa using a)];show (if x.1=o then x.2 else _)=_;rw[b]
theorem set_of (l) (u lim):ofQ (setQ l u lim) u=lim:=by
 unfold setQ;split
 .rename_i h;rw[h];exact RK fun x a=>(Ua a).2
 .rw[zP];exact ofQ_at fun x a=>(Ua (yY a)).2
theorem Py (l) (u lim o) (h:u≠o):ofQ (setQ l u lim) o=ofQ l o:=by
 unfold setQ;split
 .exact YV h
 .have e:=RJ (A:=(othQ l u).take (posQ (othQ l u) u)) (B:=(othQ l u).drop (posQ (othQ l u) u)) (v:=lim) h;rw[xC,YV h]at e;rw[zP];exact e
