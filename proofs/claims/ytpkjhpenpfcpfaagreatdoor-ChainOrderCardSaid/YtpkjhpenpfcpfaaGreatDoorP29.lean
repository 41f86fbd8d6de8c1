/-
  ChainOrder: the proof, a part.
-/
import Derived.Test.YtpkjhpenpfcpfaaGreatDoorP10
import Derived.Test.YtpkjhpenpfcpfaaGreatDoorP11
set_option linter.unusedSimpArgs false
set_option linter.unusedVariables false
set_option maxHeartbeats 40000000
set_option maxRecDepth 100000
open Go renaming World -> ZB, Value -> ZC, Calls -> ZE
namespace Go.Proofs.YtpkjhpenpfcpfaaGreatDoor
section
open Go.Lib Go.Proofs.Tryz Go.RowKit Go.Shelf Go.Sort CH
theorem pD {α:Type} (l:List α) (i:Nat) (h:i<l.toArray.size):l.toArray[i]=l[i]'(by simpa using h):=rfl
theorem pE {α:Type} (a:α) (l:List α) (h:0<(a::l).length):(a::l)[0]=a:=rfl
theorem pF {α:Type} (a:α) (l:List α) (n:Nat) (h:n+1<(a::l).length):(a::l)[n+1]=l[n]'(Nat.lt_of_succ_lt_succ h):=rfl
theorem Kk {s t:List UInt8} (h:(s==t)=false):((⟨s.toArray⟩:ByteArray)==⟨t.toArray⟩)=false/\¬ s=t/\¬ t=s := ⟨by rw [Cw];exact h,Bq.1 h,fun e=>Bq.1 h e.symm⟩
theorem Ct {w W:ZB} {C:List ZC} {T:TypeId} (hW:w.alloc (.cells C.toArray T)=W) (W':ZB) (hb:Below W W W'):∀ i u,C[i]?=some u->W'.cell? ⟨w,i,none⟩=some u:=by subst hW;have h1:=(hb.block w sM).trans (Au w _);exact fun i u hi=>(Ab h1 i).trans (by simpa using hi)
theorem Kl {s:List UInt8} (h:1<=s.length):((⟨s.toArray⟩:ByteArray)==⟨#[]⟩)=false:=by rw [show (#[]:Array UInt8)=([]:List UInt8).toArray from rfl,Cw,<- Bool.not_eq_true,Dz];rintro rfl;simp at h
theorem I6 {s:List UInt8} (h:1<=s.length):s.isEmpty=false:=by
 cases s with
 |nil=>simp at h
 |cons=>rfl
end
end Go.Proofs.YtpkjhpenpfcpfaaGreatDoor
