/-
  The statement ChainMakesCardSaid: the given law ChainMakes of the program answers as its specification says, at every input that the statement lets in; no condition is added.
-/
import Derived.Test.YtdgmgjeoikcgbaaGreatDoorP31
import Derived.Test.YtdgmgjeoikcgbaaGreatDoorP32
import Derived.Test.YtdgmgjeoikcgbaaGreatDoorTie
import Derived.Test.YtdgmgjeoikcgbaaGreatDoorCards
import Derived.OpenShut
import Derived.Lay
set_option linter.unusedSimpArgs false
set_option linter.unusedVariables false
set_option maxHeartbeats 40000000
set_option maxRecDepth 100000
namespace Go.Proofs.YtdgmgjeoikcgbaaGreatDoor
section
open Go.ChangeAt Go.ChangeShapes Go.Proofs.Tryz Go.RowKit Go.WideShapes CH
theorem own:ownKnob prog.godebug=none:=kR
theorem Bsn:laidOutB prog=true:=kR
section
open CH
variable {H:Type} {enc:TypeId × Value->H} {w:World} {spare:Nat->Bool} {held:Bool}
theorem Ye {t0 t1 t2 t3 t4 t5 t6 t7:TypeId} {args:Array Value} {ds:List (DataW H)} {ps:List MemPlace} (h:DataW.TrodAll enc prog w 0 spare held [t0,t1,t2,t3,t4,t5,t6,t7] args.toList ds ps) : ∃ v0 v1 v2 v3 v4 v5 v6 v7 d0 d1 d2 d3 d4 d5 d6 d7 p0 p1 p2 p3 p4 p5 p6 p7,args=#[v0,v1,v2,v3,v4,v5,v6,v7]/\ds=[d0,d1,d2,d3,d4,d5,d6,d7]/\ps=p0++(p1++(p2++(p3++(p4++(p5++(p6++p7)))))) /\ DataW.Trod enc prog w 0 spare held t0 v0 d0 p0/\DataW.Trod enc prog w 0 spare held t1 v1 d1 p1/\DataW.Trod enc prog w 0 spare held t2 v2 d2 p2/\DataW.Trod enc prog w 0 spare held t3 v3 d3 p3/\DataW.Trod enc prog w 0 spare held t4 v4 d4 p4/\DataW.Trod enc prog w 0 spare held t5 v5 d5 p5/\DataW.Trod enc prog w 0 spare held t6 v6 d6 p6/\DataW.Trod enc prog w 0 spare held t7 v7 d7 p7:=by obtain⟨v0,_,d0,_,p0,_,ha,rfl,rfl,h0,h⟩:=trodAll_cons h;obtain⟨v1,_,d1,_,p1,_,rfl,rfl,rfl,h1,h⟩:=trodAll_cons h;obtain⟨v2,_,d2,_,p2,_,rfl,rfl,rfl,h2,h⟩:=trodAll_cons h;obtain⟨v3,_,d3,_,p3,_,rfl,rfl,rfl,h3,h⟩:=trodAll_cons h;obtain⟨v4,_,d4,_,p4,_,rfl,rfl,rfl,h4,h⟩:=trodAll_cons h;obtain⟨v5,_,d5,_,p5,_,rfl,rfl,rfl,h5,h⟩:=trodAll_cons h;obtain⟨v6,_,d6,_,p6,_,rfl,rfl,rfl,h6,h⟩:=trodAll_cons h;obtain⟨v7,_,d7,_,p7,_,rfl,rfl,rfl,h7,h⟩:=trodAll_cons h;obtain⟨rfl,rfl,rfl⟩:=trodAll_nil h;exact⟨v0,v1,v2,v3,v4,v5,v6,v7,d0,d1,d2,d3,d4,d5,d6,d7,p0,p1,p2,p3,p4,p5,p6,p7,by cases args;simp_all,rfl,sM,h0,h1,h2,h3,h4,h5,h6,h7⟩
theorem Xs {k:Nat} {z:Int} {d:DataW H} {p:List MemPlace} (h:DataW.trod enc prog w 0 spare held k 3 [↑z]=some (d,p)):p=[]/\I64 z:=by obtain⟨n,h1,h2,h3⟩:=DataW.trod_int underlying3 h;rw [Lit.wf_int_iff] at h3;cases h1;exact⟨congrArg Prod.snd h2,h3⟩
theorem S9 {k:Nat} {s:ByteArray} {d:DataW H} {p:List MemPlace} (h:DataW.trod enc prog w 0 spare held k 9 [.string s]=some (d,p)):p=[]:=by obtain⟨s,h1,h2,h3⟩:=DataW.trod_string underlying9 h;exact congrArg Prod.snd h2
end
theorem Num (os:Os) (started:os.Started) (H:Type) (enc:TypeId × Value->H) : ReturnsInHanded {} Tryz.checked os 3 .any (fun w args=>(Rows.chainMakesAsReferenceSpec.pre enc prog Tryz.f3 Rows.chainMakesAsReferenceRow.domain false w args/\laidMetH prog Rows.chainMakesAsReferenceRow.laid w)/\sizedMet enc prog Tryz.f3 (OpenSpec.ofChange Rows.chainMakesAsReferenceSpec) false w args) (Rows.chainMakesAsReferenceSpec.post enc prog Tryz.f3 false true false false):=by
 refine returnsInHanded_of_change_and (C:=Tryz.checked) (X:=fun w _=>laidMetH prog Rows.chainMakesAsReferenceRow.laid w) (fun _ _ _ hh h=>h.of_heap hh) own started kR func3
  (ChangeSpec.witness_shaped (enc:=enc) (C:=Tryz.checked) (os:=os) (X:=fun w _=>laidMetH prog Rows.chainMakesAsReferenceRow.laid w) false (World.laidAll prog os Rows.chainMakesAsReferenceRow.laid) #[.int .i64 0,.int .i64 0,.int .i64 0,.string ⟨#[]⟩,.slice none 0 0,.string ⟨#[]⟩,.int .i64 0,.string ⟨#[]⟩] 8 (World.laidAll_os _ _ _)
   (World.shaped_of_ZipB kR kR) kR kR kR
   (by rw [MakeChecks.laidMetH_plain _ _ _ kR];exact laidMet_laidAll _ kR kR)) ?_
 intro W base args ds gs Aa5 hval0 hW hc _ hL _;have hval:∀ (j:Nat) t v,Tryz.f3.params[j]?=some t->args[j]?=some v->Value.okWide prog W .any base t v:=hval0;have hW':=hW;obtain⟨p,q,hA0,hV,rfl,_,_⟩:=hW;have hA:DataW.TrodAll enc prog W 0 (fun _=>true) true Tryz.f3.params.toList args.toList ds p:=hA0;rw [Tryz.params3] at hA hval;obtain⟨v0,v1,v2,v3,v4,v5,v6,v7,d0,d1,d2,d3,d4,d5,d6,d7,p0,p1,p2,p3,p4,p5,p6,p7,rfl,rfl,rfl,h0,h1,h2,h3,h4,h5,h6,h7⟩:=Ye hA;obtain⟨rfl,rfl⟩:=trodVars_none hV;have k0:=h0;have k1:=h1;have k2:=h2;have k3:=h3;have k4:=h4;have k5:=h5;have k6:=h6;have k7:=h7;obtain⟨_,hf0⟩:=h0;obtain⟨_,hf1⟩:=h1;obtain⟨_,hf2⟩:=h2;obtain⟨_,hf3⟩:=h3;obtain⟨_,hf4⟩:=h4;obtain⟨_,hf5⟩:=h5;obtain⟨_,hf6⟩:=h6;obtain⟨_,hf7⟩:=h7;obtain⟨au,rfl⟩:=okWide_int underlying3 (hval 0 3 v0 rfl rfl);obtain⟨nu,rfl⟩:=okWide_int underlying3 (hval 1 3 v1 rfl rfl);obtain⟨po,rfl⟩:=okWide_int underlying3 (hval 2 3 v2 rfl rfl);obtain⟨⟨⟨prev⟩⟩,rfl⟩:=okWide_string underlying9 (hval 3 9 v3 rfl rfl);obtain⟨a4,l4,c4,rfl⟩:=okWide_slice underlying22 (hval 4 22 v4 rfl rfl);obtain⟨⟨⟨secret⟩⟩,rfl⟩:=okWide_string underlying9 (hval 5 9 v5 rfl rfl);obtain⟨hg,rfl⟩:=okWide_int underlying3 (hval 6 3 v6 rfl rfl);obtain⟨⟨⟨key⟩⟩,rfl⟩:=okWide_string underlying9 (hval 7 9 v7 rfl rfl);obtain⟨rfl,hau⟩:=Xs hf0;obtain⟨rfl,hnu⟩:=Xs hf1;obtain⟨rfl,hpo⟩:=Xs hf2;obtain rfl:=S9 hf3;obtain rfl:=S9 hf5;obtain⟨rfl,_⟩:=Xs hf6;obtain rfl:=S9 hf7;obtain⟨va,acts,e4,hraw,hn⟩:=I36 hf4;cases e4;simp only [Hz,Dp] at hW';have hlt:∀ x∈p4,x.block<W.heap.size:=fun x hx=>by simpa using hW'.lt x hx
 refine (I41 au nu po hg prev secret key _ acts W (Hte hL) hau hnu hpo hraw hn).mono ?_;rintro e W' ⟨rfl,bel⟩;have e1:(Rows.chainMakesAsReferenceSpec).fn H ([d0,d1,d2,d3,d4,d5,d6,d7]++[])={ results:=[.lit (.bool true)],args:=[d0,d1,d2,d3,d4,d5,d6,d7] }:=rfl;refine⟨_,rfl,_,_,_,[],p4,[],hW',?_,?_,?_,bel.frame _,fun h=>by cases h⟩;·rw [e1];exact trodAll_mk1 (shut_bool underlying4 _)
 ·rw [e1];have BI:∀ {v:Value} {d:DataW H},DataW.Trod enc prog W 0 (fun _=>true) true 3 v d []->DataW.Trod enc prog W' 0 (fun b=>decide (b<W.heap.size)) true 3 v d []:=fun h=>Below.trod Bsn kR (Gw kR) h bel (fun x hx=>by cases hx);have BS:∀ {v:Value} {d:DataW H},DataW.Trod enc prog W 0 (fun _=>true) true 9 v d []->DataW.Trod enc prog W' 0 (fun b=>decide (b<W.heap.size)) true 9 v d []:=fun h=>Below.trod Bsn kR (Gw kR) h bel (fun x hx=>by cases hx);have B4:=Below.trod Bsn kR (Gw kR) k4 bel hlt;exact⟨[],p4,BI k0,⟨[],p4,BI k1,⟨[],p4,BI k2,⟨[],p4,BS k3,⟨p4,[],B4,⟨[],[],BS k5,⟨[],[],BI k6,trodAll_mk1 (BS k7),rfl⟩,rfl⟩,sM⟩,rfl⟩,rfl⟩,rfl⟩,rfl⟩
 ·rw [e1];rfl
theorem Dup:Rows.ChainMakesAsReferenceSaid := OpenClaim.holds_of_wide 3 Tryz.f3 rfl rfl rfl rfl rfl rfl rfl ⟨rfl,rfl,rfl,rfl,rfl⟩ rfl rfl rfl rfl rfl Ud func3 Eff (Gw (by as_aux_lemma=>kernel_rfl)) (by unfold Func.isWrapper;first|(rw [if_pos (by decide +kernel)];kernel_rfl)|(rw [if_neg (by decide +kernel)];exact⟨rfl,rfl⟩)) (fun os started H enc _=>Num os started H enc)
theorem Hf1:Rows.ChainMakesAsReferenceCardSaid :=
 Claim7.holds_tied_plain_at .later [] [.data,.data,.data,.data,.sentinel,.sentinel,.pinned,.pinned] true Rows.chainMakesAsReferenceCard.stood.harness true Dup (fun _ h=>by cases h) kR (fun _ h=>by cases h) chainMakesAsReference_row_tie rfl ⟨rfl,rfl⟩ kR rfl
  (fun f fn hf hfn=>by
   obtain rfl:f=3:=Ic (Ud.symm.trans hf) |>.symm
   obtain rfl:fn=Tryz.f3:=(Ic (func3.symm.trans hfn)).symm
   exact⟨kR,fun j t ht=>by
    rw [Tryz.params3] at ht
    have hm:t∈[3,3,3,9,22,9,3,9]:=by simpa using Le ht
    have hall:([3,3,3,9,22,9,3,9].all fun u=>!prog.wantsStandIn u)=true:=kR
    exact (show prog.wantsStandIn t=false by simpa using Dk.1 hall t hm)⟩)
  kR
#print axioms Hf1
end
end Go.Proofs.YtdgmgjeoikcgbaaGreatDoor
