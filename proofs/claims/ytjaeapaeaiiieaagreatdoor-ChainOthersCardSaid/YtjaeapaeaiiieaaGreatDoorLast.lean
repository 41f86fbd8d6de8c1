/-
  The statement ChainOthersCardSaid: the given law ChainOthers of the program answers as its specification says, at every input that the statement lets in; no condition is added.
-/
import Derived.Test.YtjaeapaeaiiieaaGreatDoorP14
import Derived.Test.YtjaeapaeaiiieaaGreatDoorTie
import Derived.Test.YtjaeapaeaiiieaaGreatDoorCards
import Derived.ProofKit
import Derived.OpenShut
import Derived.LaidMore
import Derived.Lay
import Derived.SevenTiedAt
import Derived.Stop.Joined
import Derived.Carry
set_option linter.unusedSimpArgs false
set_option linter.unusedVariables false
set_option maxHeartbeats 40000000
set_option maxRecDepth 100000
namespace Go.Proofs.YtjaeapaeaiiieaaGreatDoor
section
open Go.ChangeAt Go.ChangeShapes Go.Proofs.Tryz Go.RowKit Go.WideShapes
theorem own:ownKnob prog.godebug=none:=by kernel_rfl
theorem laidOut:laidOutB prog=true:=by kernel_rfl
theorem open_u8 {H:Type} {enc:TypeId × Value→H} {w:World} {spare:Nat→Bool} {held:Bool} {k:Nat} {v:Value} {d:DataW H} {p:List MemPlace} (h:DataW.trod enc prog w 0 spare held k 5 [v]=some (d,p)):∃ n:Int,v=.int .u8 n∧p=[]∧0≤n∧n≤255:=by
 obtain⟨n,h1,h2,h3⟩:=DataW.trod_int underlying5 h
 rw [Lit.wf_int_iff] at h3
 exact⟨n,by simpa using h1,congrArg Prod.snd h2,h3.1,h3.2⟩
theorem lifted (os:Os) (started:os.Started) (H:Type) (enc:TypeId × Value→H) :
  ReturnsInHanded {} Tryz.checked os 3 .any (fun w args=>(Rows.chainOthersSpec.pre enc prog Tryz.f3 Rows.chainOthersRow.domain false w args∧laidMetH prog Rows.chainOthersRow.laid w)∧sizedMet enc prog Tryz.f3 (OpenSpec.ofChange Rows.chainOthersSpec) false w args)
   (Rows.chainOthersSpec.post enc prog Tryz.f3 false true false false):=by
 refine returnsInHanded_of_change_and (C:=Tryz.checked) (X:=fun w _=>laidMetH prog Rows.chainOthersRow.laid w) (fun _ _ _ hh h=>h.of_heap hh) own started (by kernel_rfl) func3
  (ChangeSpec.witness_shaped (enc:=enc) (C:=Tryz.checked) (os:=os) (X:=fun w _=>laidMetH prog Rows.chainOthersRow.laid w) false (World.laidAll prog os Rows.chainOthersRow.laid) #[.slice none 0 0,.slice none 0 0,.int .u8 0] 8 (World.laidAll_os _ _ _)
   (World.shaped_of_ZipB (by kernel_rfl) (by kernel_rfl)) (by kernel_rfl) (by kernel_rfl) (by kernel_rfl)
   (by rw [MakeChecks.laidMetH_plain _ _ _ (by kernel_rfl)];exact laidMet_laidAll _ (by kernel_rfl) (by kernel_rfl))) ?_
 intro W base args ds gs before hval0 hW hc _ hL _
 have hval:∀ (j:Nat) t v,Tryz.f3.params[j]?=some t→args[j]?=some v→Value.okWide prog W .any base t v:=hval0
 have hW':=hW
 obtain⟨p,q,hA0,hV,rfl,_,_⟩:=hW
 have hA:DataW.TrodAll enc prog W 0 (fun _=>true) true Tryz.f3.params.toList args.toList ds p:=hA0
 rw [Tryz.params3] at hA hval
 obtain⟨v0,v1,v2,d0,d1,d2,p0,p1,p2,rfl,rfl,rfl,h0,h1,h2⟩:=trodAll_three hA
 obtain⟨rfl,rfl⟩:=trodVars_none hV
 have h0k:=h0
 have h1k:=h1
 have h2k:=h2
 obtain⟨fuel0,hf0⟩:=h0
 obtain⟨fuel1,hf1⟩:=h1
 obtain⟨fuel2,hf2⟩:=h2
 obtain⟨a0,lt,ct,rfl⟩:=okWide_slice underlying22 (hval 0 22 v0 rfl rfl)
 obtain⟨a1,lb,cb,rfl⟩:=okWide_slice underlying23 (hval 1 23 v1 rfl rfl)
 obtain⟨z2,rfl⟩:=okWide_int underlying5 (hval 2 5 v2 rfl rfl)
 obtain⟨n2,e2,rfl,n20,n28⟩:=open_u8 hf2
 cases e2
 obtain⟨vk,keys,e0,hk,hkl⟩:=G3 hf0
 obtain⟨vl,l,e1,hraw,hn⟩:=open_vers hf1
 cases e0
 cases e1
 simp only [List.append_nil] at hW'
 obtain⟨m,rfl⟩:∃ m:Nat,z2=(m:Int):=⟨z2.toNat,by omega⟩
 have hlt:∀ x∈p0++p1,x.block<W.heap.size:=fun x hx=>by simpa using hW'.lt x hx
 refine (others_any _ _ keys l m (by omega) W (gc_of_laid hL) hk hraw hn hkl).mono ?_
 rintro e W' ⟨rfl,bel⟩
 have e1:(Rows.chainOthersSpec).fn H ([d0,d1,d2]++[])={ results:=[.lit (.bool true)],args:=[d0,d1,d2] }:=rfl
 refine⟨_,rfl,_,_,_,[],p0++p1,[],hW',?_,?_,?_,bel.frame _,fun h=>by cases h⟩
 ·rw [e1];exact trodAll_mk1 (shut_bool underlying4 _)
 ·rw [e1,← List.append_nil p1];exact (trodAll_mk3 (Below.trod laidOut (by kernel_rfl) (of_decide_eq_true (by kernel_rfl)) h0k bel (fun x hx=>hlt x (by simp [hx]))) (Below.trod laidOut (by kernel_rfl) (of_decide_eq_true (by kernel_rfl)) h1k bel (fun x hx=>hlt x (by simp [hx]))) (Below.trod laidOut (by kernel_rfl) (of_decide_eq_true (by kernel_rfl)) h2k bel (fun x hx=>by cases hx)))
 ·rw [e1];rfl
theorem others_holds:Rows.ChainOthersSaid :=
 OpenClaim.holds_of_wide 3 Tryz.f3 rfl rfl rfl rfl rfl rfl rfl ⟨rfl,rfl,rfl,rfl,rfl⟩ rfl rfl rfl rfl rfl Kd func3 others_facts
  (of_decide_eq_true (by as_aux_lemma=>kernel_rfl)) (by unfold Func.isWrapper;first|(rw [if_pos (by decide +kernel)];kernel_rfl)|(rw [if_neg (by decide +kernel)];exact⟨rfl,rfl⟩))
  (fun os started H enc _=>lifted os started H enc)
theorem others_card:Rows.ChainOthersCardSaid :=
 Claim7.holds_tied_plain_at .later [] [.data,.data,.data,.data,.sentinel,.sentinel,.pinned,.pinned] true Rows.chainOthersCard.stood.harness true others_holds (fun _ h=>by cases h) (by kernel_rfl) (fun _ h=>by cases h) chainOthers_row_tie rfl ⟨rfl,rfl⟩ (by kernel_rfl) rfl
  (fun f fn hf hfn=>by
   obtain rfl:f=3:=Option.some.inj (Kd.symm.trans hf) |>.symm
   obtain rfl:fn=Tryz.f3:=(Option.some.inj (func3.symm.trans hfn)).symm
   exact⟨by kernel_rfl,fun j t ht=>by
    rw [Tryz.params3] at ht
    have hm:t∈[22,23,5]:=by simpa using Array.mem_of_getElem? ht
    have hall:([22,23,5].all fun u=>!prog.wantsStandIn u)=true:=by kernel_rfl
    exact (show prog.wantsStandIn t=false by simpa using List.all_eq_true.1 hall t hm)⟩)
  (by kernel_rfl)
#print axioms others_card
end
end Go.Proofs.YtjaeapaeaiiieaaGreatDoor
