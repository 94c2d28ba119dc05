import Derived.Test.YtpcedcnjofbgjaaGreatDoorKA24
import Derived.Test.YtpcedcnjofbgjaaGreatDoorKB5
import Derived.Test.YtpcedcnjofbgjaaGreatDoorKB9
set_option maxHeartbeats 0
set_option linter.all false
set_option maxRecDepth 100000
namespace Go.Proofs.YtpcedcnjofbgjaaGreatDoor
open Go.RowKit
section
variable {s : Fs}
theorem TA {x:Tx} (h:endE s x≠0):endS s x=s:=zb h
theorem IH {p:Prop} [Decidable p] {a b:Int} {e:Int} (h:(if p then (a,0) else (b,e)).2≠0):¬p:=λc=>by rw[ze c]at h;exact h rfl
theorem V4 (i) (D) (name) (k m u g) (b) (h:(addM s i D name k m u g b).1.2≠0):(addM s i D name k m u g b).2=s:=by
 unfold addM at h |-;split at h
 .next a=>
  rw[ze a];split at h
  .rfl
  .dsimp only at h |-;split at h
   .next c=>rw[ze c];exact TA (IH h)
   .next c=>rw[zb c]
 .next a=>rw[zb a]
theorem CB (i) (D) (name) (h:(unlM s i D name).1≠0):(unlM s i D name).2=s:=by
 unfold unlM at h |-;dsimp only at h |-;split at h
 .next a=>
  rw[ze a];split at h
  .next b=>rw[ze b]
  .next b=>rw[zb b];exact TA h
 .next a=>rw[zb a]
theorem CO (i n) (D) (name) (h:(lnkM s i n D name).1≠0):(lnkM s i n D name).2=s:=by
 unfold lnkM at h |-;dsimp only at h |-
 repeat' split
 all_goals first|rfl|skip
 all_goals simp_all [endS]
theorem Gs (i j) (D E) (a b) (h:(movM s i j D E a b).1≠0):(movM s i j D E a b).2=s:=by
 unfold movM movR at h |-
 repeat' split
 all_goals first|rfl|skip
 all_goals simp_all [endS]
theorem Cu (i p) (Dt) (h:(wrtM s i p Dt).1.2≠0):(wrtM s i p Dt).2=s:=by
 unfold wrtM at h |-;dsimp only at h |-
 repeat' split
 all_goals first|rfl|skip
 all_goals simp_all [endS]
theorem Io (i sz) (h:(cutM s i sz).1≠0):(cutM s i sz).2=s:=by
 unfold cutM at h |-;dsimp only at h |-
 repeat' split
 all_goals first|rfl|skip
 all_goals simp_all [endS]
theorem Jq (i) (u g) (h:(ownM s i u g).1≠0):(ownM s i u g).2=s:=by
 unfold ownM at h |-;dsimp only at h |-;split
 .rfl
 .simp_all [endS]
theorem I0 (h:(ZJ s).1.2≠0):(ZJ s).2=s:=by
 unfold ZJ at h |-;split
 .next a=>rw[ze a]at h;exact TA (IH h)
 .rfl
theorem G1 (k) (h:(je s k).1≠0):(je s k).2=s:=by
 unfold je at h |-;split
 .simp_all [endS]
 .rfl
theorem Hi (u lim) (h:(rO s u lim).1≠0):(rO s u lim).2=s:=by
 unfold rO at h |-;split
 .rfl
 .simp_all [endS]
theorem do_err (x) (h:(doM s x).1≠0):(doM s x).2=s:=by
 unfold doM at h |-;dsimp only at h |-;split at h
 .exact V4 _ _ _ _ _ _ _ _ h
 .exact V4 _ _ _ _ _ _ _ _ h
 .split at h
  .next a=>rw[ze a]
  .next a=>rw[zb a];exact Cu _ _ _ h
 .exact CB _ _ _ h
 .exact Gs _ _ _ _ _ _ h
 .split at h
  .next a=>rw[ze a]
  .next a=>rw[zb a];exact Io _ _ h
 .split at h
  .next a=>rw[ze a]
  .next a=>rw[zb a];exact CO _ _ _ _ h
 .unfold symM at h |-;split at h
  .next a=>rw[ze a]
  .next a=>rw[zb a];exact V4 _ _ _ _ _ _ _ _ h
 .split at h
  .next a=>rw[ze a]
  .next a=>rw[zb a];exact Jq _ _ _ h
 .exact Hi _ _ h
 .exact yi rfl h
 .split at h
  .next a=>rw[ze a];exact I0 h
  .next a=>rw[zb a];exact G1 _ h
end
