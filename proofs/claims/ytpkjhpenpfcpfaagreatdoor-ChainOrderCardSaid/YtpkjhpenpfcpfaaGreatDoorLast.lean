/-
  The statement ChainOrderCardSaid: the given law ChainOrder of the program answers as its specification says, at every input that the statement lets in; no condition is added.
-/
import Derived.Test.YtpkjhpenpfcpfaaGreatDoorP25
import Derived.Test.YtpkjhpenpfcpfaaGreatDoorP26
import Derived.Test.YtpkjhpenpfcpfaaGreatDoorTie
import Derived.Test.YtpkjhpenpfcpfaaGreatDoorCards
import Derived.OpenShut
import Derived.Lay
set_option linter.unusedSimpArgs false
set_option linter.unusedVariables false
set_option maxHeartbeats 40000000
set_option maxRecDepth 100000
namespace Go.Proofs.YtpkjhpenpfcpfaaGreatDoor
section
open Go.ChangeAt Go.ChangeShapes Go.Proofs.Tryz Go.RowKit Go.WideShapes CH
theorem own:ownKnob prog.godebug=none:=kR
theorem Ino:laidOutB prog=true:=kR
theorem Pbo (os:Os) (started:os.Started) (H:Type) (enc:TypeId × Value->H) : ReturnsInHanded {} Tryz.checked os 3 .any (fun w args=>(Rows.chainOrderSpec.pre enc prog Tryz.f3 Rows.chainOrderRow.domain false w args/\laidMetH prog Rows.chainOrderRow.laid w)/\sizedMet enc prog Tryz.f3 (OpenSpec.ofChange Rows.chainOrderSpec) false w args) (Rows.chainOrderSpec.post enc prog Tryz.f3 false true false false):=by
 refine returnsInHanded_of_change_and (C:=Tryz.checked) (X:=fun w _=>laidMetH prog Rows.chainOrderRow.laid w) (fun _ _ _ hh h=>h.of_heap hh) own started kR func3
  (ChangeSpec.witness_shaped (enc:=enc) (C:=Tryz.checked) (os:=os) (X:=fun w _=>laidMetH prog Rows.chainOrderRow.laid w) false (World.laidAll prog os Rows.chainOrderRow.laid) #[.slice none 0 0,.slice none 0 0] 8 (World.laidAll_os _ _ _)
   (World.shaped_of_ZipB kR kR) kR kR kR
   (by rw [MakeChecks.laidMetH_plain _ _ _ kR];exact laidMet_laidAll _ kR kR)) ?_
 intro W base args ds gs Aak hval0 hW hc _ hL _;have hval:∀ (j:Nat) t v,Tryz.f3.params[j]?=some t->args[j]?=some v->Value.okWide prog W .any base t v:=hval0;have hW':=hW;obtain⟨p,q,hA0,hV,rfl,_,_⟩:=hW;have hA:DataW.TrodAll enc prog W 0 (fun _=>true) true Tryz.f3.params.toList args.toList ds p:=hA0;rw [Tryz.params3] at hA hval;obtain⟨v0,v1,d0,d1,p0,p1,rfl,rfl,rfl,h0,h1⟩:=trodAll_two hA;obtain⟨rfl,rfl⟩:=trodVars_none hV;have h0k:=h0;have h1k:=h1;obtain⟨fuel0,hf0⟩:=h0;obtain⟨fuel1,hf1⟩:=h1;obtain⟨a0,lt,ct,rfl⟩:=okWide_slice underlying22 (hval 0 22 v0 rfl rfl);obtain⟨a1,lb,cb,rfl⟩:=okWide_slice underlying23 (hval 1 23 v1 rfl rfl);obtain⟨vk,keys,e0,hk,hkl⟩:=R8 hf0;obtain⟨vl,l,e1,hraw,hn⟩:=I33 hf1;cases e0;cases e1;simp only [Gy] at hW';have hlt:∀ x∈p0++p1,x.block<W.heap.size:=fun x hx=>by simpa using hW'.lt x hx
 refine (I31 _ _ keys l W (Htd hL) hk hraw hn hkl).mono ?_;rintro e W' ⟨rfl,bel⟩;have e1:(Rows.chainOrderSpec).fn H ([d0,d1]++[])={ results:=[.lit (.bool true)],args:=[d0,d1] }:=rfl;refine⟨_,rfl,_,_,_,[],p0++p1,[],hW',?_,?_,?_,bel.frame _,fun h=>by cases h⟩;·rw [e1];exact trodAll_mk1 (shut_bool underlying4 _)
 ·rw [e1];exact trodAll_mk2 (Below.trod Ino kR (Gn kR) h0k bel (fun x hx=>hlt x (by simp [hx]))) (Below.trod Ino kR (Gn kR) h1k bel (fun x hx=>hlt x (by simp [hx])))
 ·rw [e1];rfl
theorem Del:Rows.ChainOrderSaid := OpenClaim.holds_of_wide 3 Tryz.f3 rfl rfl rfl rfl rfl rfl rfl ⟨rfl,rfl,rfl,rfl,rfl⟩ rfl rfl rfl rfl rfl Ui func3 Den (Gn (by as_aux_lemma=>kernel_rfl)) (by unfold Func.isWrapper;first|(rw [if_pos (by decide +kernel)];kernel_rfl)|(rw [if_neg (by decide +kernel)];exact⟨rfl,rfl⟩)) (fun os started H enc _=>Pbo os started H enc)
theorem qN:Rows.ChainOrderCardSaid :=
 Claim7.holds_tied_plain_at .later [] [.data,.data,.data,.data,.sentinel,.sentinel,.pinned,.pinned] true Rows.chainOrderCard.stood.harness true Del (fun _ h=>by cases h) kR (fun _ h=>by cases h) chainOrder_row_tie rfl ⟨rfl,rfl⟩ kR rfl
  (fun f fn hf hfn=>by
   obtain rfl:f=3:=H6 (Ui.symm.trans hf) |>.symm
   obtain rfl:fn=Tryz.f3:=(H6 (func3.symm.trans hfn)).symm
   exact⟨kR,fun j t ht=>by
    rw [Tryz.params3] at ht
    have hm:t∈[22,23]:=by simpa using Ld ht
    have hall:([22,23].all fun u=>!prog.wantsStandIn u)=true:=kR
    exact (show prog.wantsStandIn t=false by simpa using Dh.1 hall t hm)⟩)
  kR
#print axioms qN
end
end Go.Proofs.YtpkjhpenpfcpfaaGreatDoor
