/-
  The statement ChainSealsCardSaid: the given law ChainSeals of the program answers as its specification says, at every input that the statement lets in; no condition is added.
-/
import Derived.Test.YtjepldaciejieaaGreatDoorP13
import Derived.Test.YtjepldaciejieaaGreatDoorTie
import Derived.Test.YtjepldaciejieaaGreatDoorCards
import Derived.ProofKit
import Derived.OpenShut
import Derived.LaidMore
import Derived.Lay
import Derived.SevenTiedAt
import Derived.Stop.Joined
import Derived.Carry
set_option linter.unusedSimpArgs false
set_option linter.unusedVariables false
set_option maxHeartbeats 40000000
set_option maxRecDepth 100000
namespace Go.Proofs.YtjepldaciejieaaGreatDoor
section
open Go.ChangeAt Go.ChangeShapes Go.Proofs.Tryz Go.RowKit Go.WideShapes
theorem own:ownKnob prog.godebug=none:=by kernel_rfl
theorem laidOut:laidOutB prog=true:=by kernel_rfl
section
variable {H:Type} {enc:TypeId × Value→H} {w:World} {spare:Nat→Bool} {held:Bool}
theorem trodAll_seven {t0 t1 t2 t3 t4 t5 t6:TypeId} {args:Array Value} {ds:List (DataW H)} {ps:List MemPlace} (h:DataW.TrodAll enc prog w 0 spare held [t0,t1,t2,t3,t4,t5,t6] args.toList ds ps) :
  ∃ v0 v1 v2 v3 v4 v5 v6 d0 d1 d2 d3 d4 d5 d6 p0 p1 p2 p3 p4 p5 p6,args=#[v0,v1,v2,v3,v4,v5,v6]∧ds=[d0,d1,d2,d3,d4,d5,d6]∧ps=p0++(p1++(p2++(p3++(p4++(p5++p6))))) ∧
   DataW.Trod enc prog w 0 spare held t0 v0 d0 p0∧DataW.Trod enc prog w 0 spare held t1 v1 d1 p1∧DataW.Trod enc prog w 0 spare held t2 v2 d2 p2∧DataW.Trod enc prog w 0 spare held t3 v3 d3 p3∧DataW.Trod enc prog w 0 spare held t4 v4 d4 p4∧DataW.Trod enc prog w 0 spare held t5 v5 d5 p5∧DataW.Trod enc prog w 0 spare held t6 v6 d6 p6:=by
 obtain⟨v0,_,d0,_,p0,_,ha,rfl,rfl,h0,h⟩:=trodAll_cons h
 obtain⟨v1,_,d1,_,p1,_,rfl,rfl,rfl,h1,h⟩:=trodAll_cons h
 obtain⟨v2,_,d2,_,p2,_,rfl,rfl,rfl,h2,h⟩:=trodAll_cons h
 obtain⟨v3,_,d3,_,p3,_,rfl,rfl,rfl,h3,h⟩:=trodAll_cons h
 obtain⟨v4,_,d4,_,p4,_,rfl,rfl,rfl,h4,h⟩:=trodAll_cons h
 obtain⟨v5,_,d5,_,p5,_,rfl,rfl,rfl,h5,h⟩:=trodAll_cons h
 obtain⟨v6,_,d6,_,p6,_,rfl,rfl,rfl,h6,h⟩:=trodAll_cons h
 obtain⟨rfl,rfl,rfl⟩:=trodAll_nil h
 exact⟨v0,v1,v2,v3,v4,v5,v6,d0,d1,d2,d3,d4,d5,d6,p0,p1,p2,p3,p4,p5,p6,by cases args;simp_all,rfl,by simp,h0,h1,h2,h3,h4,h5,h6⟩
theorem open_int1 {k:Nat} {z:Int} {d:DataW H} {p:List MemPlace} (h:DataW.trod enc prog w 0 spare held k 3 [.int .i64 z]=some (d,p)):p=[]∧I64 z:=by
 obtain⟨n,h1,h2,h3⟩:=DataW.trod_int underlying3 h
 rw [Lit.wf_int_iff] at h3
 cases h1
 exact⟨congrArg Prod.snd h2,h3⟩
theorem open_str1 {k:Nat} {s:ByteArray} {d:DataW H} {p:List MemPlace} (h:DataW.trod enc prog w 0 spare held k 9 [.string s]=some (d,p)):p=[]:=by
 obtain⟨s,h1,h2,h3⟩:=DataW.trod_string underlying9 h
 exact congrArg Prod.snd h2
end
theorem lifted (os:Os) (started:os.Started) (H:Type) (enc:TypeId × Value→H) :
  ReturnsInHanded {} Tryz.checked os 3 .any (fun w args=>(Rows.chainSealsSpec.pre enc prog Tryz.f3 Rows.chainSealsRow.domain false w args∧laidMetH prog Rows.chainSealsRow.laid w)∧sizedMet enc prog Tryz.f3 (OpenSpec.ofChange Rows.chainSealsSpec) false w args)
   (Rows.chainSealsSpec.post enc prog Tryz.f3 false true false false):=by
 refine returnsInHanded_of_change_and (C:=Tryz.checked) (X:=fun w _=>laidMetH prog Rows.chainSealsRow.laid w) (fun _ _ _ hh h=>h.of_heap hh) own started (by kernel_rfl) func3
  (ChangeSpec.witness_shaped (enc:=enc) (C:=Tryz.checked) (os:=os) (X:=fun w _=>laidMetH prog Rows.chainSealsRow.laid w) false (World.laidAll prog os Rows.chainSealsRow.laid) #[.int .i64 0,.int .i64 0,.int .i64 0,.string ⟨#[]⟩,.slice none 0 0,.string ⟨#[]⟩,.int .i64 0] 8 (World.laidAll_os _ _ _)
   (World.shaped_of_ZipB (by kernel_rfl) (by kernel_rfl)) (by kernel_rfl) (by kernel_rfl) (by kernel_rfl)
   (by rw [MakeChecks.laidMetH_plain _ _ _ (by kernel_rfl)];exact laidMet_laidAll _ (by kernel_rfl) (by kernel_rfl))) ?_
 intro W base args ds gs before hval0 hW hc _ hL _
 have hval:∀ (j:Nat) t v,Tryz.f3.params[j]?=some t→args[j]?=some v→Value.okWide prog W .any base t v:=hval0
 have hW':=hW
 obtain⟨p,q,hA0,hV,rfl,_,_⟩:=hW
 have hA:DataW.TrodAll enc prog W 0 (fun _=>true) true Tryz.f3.params.toList args.toList ds p:=hA0
 rw [Tryz.params3] at hA hval
 obtain⟨v0,v1,v2,v3,v4,v5,v6,d0,d1,d2,d3,d4,d5,d6,p0,p1,p2,p3,p4,p5,p6,rfl,rfl,rfl,h0,h1,h2,h3,h4,h5,h6⟩:=trodAll_seven hA
 obtain⟨rfl,rfl⟩:=trodVars_none hV
 have k0:=h0
 have k1:=h1
 have k2:=h2
 have k3:=h3
 have k4:=h4
 have k5:=h5
 have k6:=h6
 obtain⟨_,hf0⟩:=h0
 obtain⟨_,hf1⟩:=h1
 obtain⟨_,hf2⟩:=h2
 obtain⟨_,hf3⟩:=h3
 obtain⟨_,hf4⟩:=h4
 obtain⟨_,hf5⟩:=h5
 obtain⟨_,hf6⟩:=h6
 obtain⟨au,rfl⟩:=okWide_int underlying3 (hval 0 3 v0 rfl rfl)
 obtain⟨nu,rfl⟩:=okWide_int underlying3 (hval 1 3 v1 rfl rfl)
 obtain⟨po,rfl⟩:=okWide_int underlying3 (hval 2 3 v2 rfl rfl)
 obtain⟨⟨⟨prev⟩⟩,rfl⟩:=okWide_string underlying9 (hval 3 9 v3 rfl rfl)
 obtain⟨a4,l4,c4,rfl⟩:=okWide_slice underlying22 (hval 4 22 v4 rfl rfl)
 obtain⟨⟨⟨secret⟩⟩,rfl⟩:=okWide_string underlying9 (hval 5 9 v5 rfl rfl)
 obtain⟨hg,rfl⟩:=okWide_int underlying3 (hval 6 3 v6 rfl rfl)
 obtain⟨rfl,hau⟩:=open_int1 hf0
 obtain⟨rfl,hnu⟩:=open_int1 hf1
 obtain⟨rfl,hpo⟩:=open_int1 hf2
 obtain rfl:=open_str1 hf3
 obtain rfl:=open_str1 hf5
 obtain⟨rfl,_⟩:=open_int1 hf6
 obtain⟨va,acts,e4,hraw,hn⟩:=open_acts hf4
 cases e4
 simp only [List.append_nil,List.nil_append] at hW'
 have hlt:∀ x∈p4,x.block<W.heap.size:=fun x hx=>by simpa using hW'.lt x hx
 refine (seals_any au nu po hg prev secret _ acts W (gc_of_laid hL) hau hnu hpo hraw hn).mono ?_
 rintro e W' ⟨rfl,bel⟩
 have e1:(Rows.chainSealsSpec).fn H ([d0,d1,d2,d3,d4,d5,d6]++[])={ results:=[.lit (.bool true)],args:=[d0,d1,d2,d3,d4,d5,d6] }:=rfl
 refine⟨_,rfl,_,_,_,[],p4,[],hW',?_,?_,?_,bel.frame _,fun h=>by cases h⟩
 ·rw [e1];exact trodAll_mk1 (shut_bool underlying4 _)
 ·rw [e1]
  have BI:∀ {v:Value} {d:DataW H},DataW.Trod enc prog W 0 (fun _=>true) true 3 v d []→DataW.Trod enc prog W' 0 (fun b=>decide (b<W.heap.size)) true 3 v d []:=fun h=>Below.trod laidOut (by kernel_rfl) (of_decide_eq_true (by kernel_rfl)) h bel (fun x hx=>by cases hx)
  have BS:∀ {v:Value} {d:DataW H},DataW.Trod enc prog W 0 (fun _=>true) true 9 v d []→DataW.Trod enc prog W' 0 (fun b=>decide (b<W.heap.size)) true 9 v d []:=fun h=>Below.trod laidOut (by kernel_rfl) (of_decide_eq_true (by kernel_rfl)) h bel (fun x hx=>by cases hx)
  have B4:=Below.trod laidOut (by kernel_rfl) (of_decide_eq_true (by kernel_rfl)) k4 bel hlt
  exact⟨[],p4,BI k0,⟨[],p4,BI k1,⟨[],p4,BI k2,⟨[],p4,BS k3,⟨p4,[],B4,⟨[],[],BS k5,trodAll_mk1 (BI k6),rfl⟩,by simp⟩,rfl⟩,rfl⟩,rfl⟩,rfl⟩
 ·rw [e1];rfl
theorem seals_holds:Rows.ChainSealsSaid :=
 OpenClaim.holds_of_wide 3 Tryz.f3 rfl rfl rfl rfl rfl rfl rfl ⟨rfl,rfl,rfl,rfl,rfl⟩ rfl rfl rfl rfl rfl seals_named func3 seals_facts
  (of_decide_eq_true (by as_aux_lemma=>kernel_rfl)) (by unfold Func.isWrapper;first|(rw [if_pos (by decide +kernel)];kernel_rfl)|(rw [if_neg (by decide +kernel)];exact⟨rfl,rfl⟩))
  (fun os started H enc _=>lifted os started H enc)
theorem seals_card:Rows.ChainSealsCardSaid :=
 Claim7.holds_tied_plain_at .later [] [.data,.data,.data,.data,.sentinel,.sentinel,.pinned,.pinned] true Rows.chainSealsCard.stood.harness true seals_holds (fun _ h=>by cases h) (by kernel_rfl) (fun _ h=>by cases h) chainSeals_row_tie rfl ⟨rfl,rfl⟩ (by kernel_rfl) rfl
  (fun f fn hf hfn=>by
   obtain rfl:f=3:=Option.some.inj (seals_named.symm.trans hf) |>.symm
   obtain rfl:fn=Tryz.f3:=(Option.some.inj (func3.symm.trans hfn)).symm
   exact⟨by kernel_rfl,fun j t ht=>by
    rw [Tryz.params3] at ht
    have hm:t∈[3,3,3,9,22,9,3]:=by simpa using Array.mem_of_getElem? ht
    have hall:([3,3,3,9,22,9,3].all fun u=>!prog.wantsStandIn u)=true:=by kernel_rfl
    exact (show prog.wantsStandIn t=false by simpa using List.all_eq_true.1 hall t hm)⟩)
  (by kernel_rfl)
#print axioms seals_card
end
end Go.Proofs.YtjepldaciejieaaGreatDoor
