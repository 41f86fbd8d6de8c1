/- The given law ChainMatchesReference of the program answers as its specification says, at every input that the statement lets in. -/
import Derived.Test.YtajmjabodcmonaaGreatDoorP24
import Derived.Test.YtajmjabodcmonaaGreatDoorP25
import Derived.Lib.LaidCase
import Derived.LaidMore
import Derived.Test.YtajmjabodcmonaaGreatDoorTie
import Derived.Test.YtajmjabodcmonaaGreatDoorCards
import Derived.OpenShut
import Derived.Lay
set_option linter.all false
set_option maxHeartbeats 40000000
set_option maxRecDepth 100000
open Go renaming World -> ZB
namespace Go.Proofs.YtajmjabodcmonaaGreatDoor
open Y
section
open Go.Lib Go.Proofs.Tryz Go.RowKit Go.Shelf Go.Sort CH
theorem Tb {P:Program} {W:ZB} {name:String} {k:IntKind} {zs:List Int} {g:Nat} {t e:TypeId} {n:Nat} (hg:P.globalNamed name=some g) (hty:(P.globals[g]?).map (·.type)=some t) (ht:P.underlying t=some (.array n e)) (he:P.underlying e=some (.int k)) (hce:P.cellsOf e=1) (hct:P.cellsOf t=n) (h:VarReads P W name (tabData k zs)):TabIs P W name k zs:=by obtain⟨g',t',cs,fuel,p,hg',ht',hvar,hd⟩:=h;obtain rfl:=Hf (hg.symm.trans hg');obtain rfl:=Hf (hty.symm.trans ht');unfold TabIs;rw [hvar,<- cells_of_tab ht he hce hct hd]
def FH:List Int:=[0,1,56,2,57,49,28,3,61,58,42,50,38,29,17,4,62,47,59,36,45,43,51,22,53,39,33,30,24,18,12,5,63,55,48,27,60,41,37,16,46,35,44,21,52,32,23,11,54,26,40,15,34,20,31,10,25,14,19,9,13,8,7,6]
def Psu:Ren:=⟨Tryz.lays274_ren.f,Tryz.lays274_ren.t,fun|13=>8|n=>n⟩
theorem Nsx:Lays.n274 prog Psu:={ lays274 with }
theorem I22 {W:ZB} (h:laidMetH prog Rows.chainMatchesReferenceRow.laid W):Gc W:=by
 rw [MakeChecks.laidMetH_plain _ _ _ kR] at h;have r1:VarReads prog W "math/bits.deBruijn64tab" (tabData .u8 FH):=Lib.laidMet.reads h (.tail _ (.head _));have r2:VarReads prog W "internal/strconv.uint64pow10" (tabData .u64 Lib.pow10Tab):=Lib.laidMet.reads h (.tail _ (.tail _ (.head _)));have r3:VarReads prog W "unicode/utf8.acceptRanges" acceptData:=Lib.laidMet.reads h (.tail _ (.tail _ (.tail _ (.head _))));have ec:Go.Pinned.caseRanges=caseData:=kR;have ef:Go.Pinned.utf8First=firstData:=kR;have r6:VarReads prog W "unicode.CaseRanges" caseData:=ec ▸ Lib.laidMet.reads h (.tail _ (.tail _ (.tail _ (.tail _ (.tail _ (.tail _ (.head _)))))));have r7:VarReads prog W "unicode/utf8.first" firstData:=ef ▸ Lib.laidMet.reads h (.tail _ (.tail _ (.tail _ (.tail _ (.tail _ (.tail _ (.tail _ (.head _))))))));have t1:TabIs prog W "math/bits.deBruijn64tab" .u8 FH:=Tb (g:=5) kR rfl rfl rfl kR kR r1;have t2:TabIs prog W "internal/strconv.uint64pow10" .u64 Lib.pow10Tab:=Tb (g:=0) kR rfl rfl rfl kR kR r2;have u8:Lib.Utf8Tabs 2 3 W:=utf8Tabs_of_reads { lays260 with } ⟨kR,kR,kR,kR,kR,kR,kR⟩ r7 r3;have cv:Lib.CaseVar 8 Lib.caseA W:=caseVar_of_reads Nsx underlying369 ⟨kR,kR,kR,kR,kR,kR⟩ r6;have h9:9<=W.heap.size:=by obtain⟨R,oR,cap,h1,_⟩:=cv;have:=Ez W _ h1;exact this
 exact⟨⟨h9,t1.cell kR 15 dC,t2,u8⟩,cv⟩
end
section
open Go.ChangeAt Go.ChangeShapes Go.Proofs.Tryz Go.RowKit Go.WideShapes CH
theorem own:ownKnob prog.godebug=none:=kR
theorem I51:laidOutB prog=true:=kR
theorem Red (os:Os) (started:os.Started) (H:Type) (enc:TypeId × Value->H) : ReturnsInHanded {} Tryz.checked os 3 .any (fun w args=>(Rows.chainMatchesReferenceSpec.pre enc prog Tryz.f3 Rows.chainMatchesReferenceRow.domain false w args/\laidMetH prog Rows.chainMatchesReferenceRow.laid w)/\sizedMet enc prog Tryz.f3 (OpenSpec.ofChange Rows.chainMatchesReferenceSpec) false w args) (Rows.chainMatchesReferenceSpec.post enc prog Tryz.f3 false true false false):=by
 refine returnsInHanded_of_change_and (C:=Tryz.checked) (X:=fun w _=>laidMetH prog Rows.chainMatchesReferenceRow.laid w) (fun _ _ _ hh h=>h.of_heap hh) own started kR func3
  (ChangeSpec.witness_shaped (enc:=enc) (C:=Tryz.checked) (os:=os) (X:=fun w _=>laidMetH prog Rows.chainMatchesReferenceRow.laid w) false (World.laidAll prog os Rows.chainMatchesReferenceRow.laid) #[.slice none 0 0,.slice none 0 0] 8 (World.laidAll_os _ _ _)
   (World.shaped_of_ZipB kR kR) kR kR kR
   (by rw [MakeChecks.laidMetH_plain _ _ _ kR];exact laidMet_laidAll _ kR kR)) ?_
 intro W base args ds gs Oo hval0 hW hc _ hL _;have hval:∀ (j:Nat) t v,Tryz.f3.params[j]?=some t->args[j]?=some v->Value.okWide prog W .any base t v:=hval0;have hW':=hW;obtain⟨p,q,hA0,hV,rfl,_,_⟩:=hW;have hA:DataW.TrodAll enc prog W 0 (fun _=>true) true Tryz.f3.params.toList args.toList ds p:=hA0;rw [Tryz.params3] at hA hval;obtain⟨v0,v1,d0,d1,p0,p1,rfl,rfl,rfl,h0,h1⟩:=trodAll_two hA;obtain⟨rfl,rfl⟩:=trodVars_none hV;have h0k:=h0;have h1k:=h1;obtain⟨fuel0,hf0⟩:=h0;obtain⟨fuel1,hf1⟩:=h1;obtain⟨a0,lt,ct,rfl⟩:=okWide_slice underlying22 (hval 0 22 v0 rfl rfl);obtain⟨a1,lb,cb,rfl⟩:=okWide_slice underlying23 (hval 1 23 v1 rfl rfl);obtain⟨vk,keys,e0,hk,hkl⟩:=Sd hf0;obtain⟨vl,l,e1,hraw,hn⟩:=Kpy hf1;cases e0;cases e1;simp only [Gg] at hW';have hlt:∀ x∈p0++p1,x.block<W.heap.size:=fun x hx=>by simpa using hW'.lt x hx
 refine CmZ (Len _ _ keys l W (I22 hL) hk hraw hn hkl) fun W' bel=>?_;have e1:(Rows.chainMatchesReferenceSpec).fn H ([d0,d1]++[])={ results:=[.lit (.bool true)],args:=[d0,d1] }:=rfl;refine⟨_,rfl,_,_,_,[],p0++p1,[],hW',?_,?_,?_,bel.frame _,fun h=>by cases h⟩;·rw [e1];exact trodAll_mk1 (shut_bool underlying4 _)
 ·rw [e1];exact trodAll_mk2 (Below.trod I51 kR (G5 kR) h0k bel (fun x hx=>hlt x (by simp [hx]))) (Below.trod I51 kR (G5 kR) h1k bel (fun x hx=>hlt x (by simp [hx])))
 ·rw [e1];rfl
theorem Geo:Rows.ChainMatchesReferenceSaid := OpenClaim.holds_of_wide 3 Tryz.f3 rfl rfl rfl rfl rfl rfl rfl ⟨rfl,rfl,rfl,rfl,rfl⟩ rfl rfl rfl rfl rfl Uy func3 Get (G5 (by as_aux_lemma=>kernel_rfl)) (by unfold Func.isWrapper;first|(rw [if_pos (by decide +kernel)];kernel_rfl)|(rw [if_neg (by decide +kernel)];exact⟨rfl,rfl⟩)) (fun os started H enc _=>Red os started H enc)
theorem Ite:Rows.ChainMatchesReferenceCardSaid :=
 Claim7.holds_tied_plain_at .later [] [.data,.data,.data,.data,.sentinel,.sentinel,.pinned,.pinned] true Rows.chainMatchesReferenceCard.stood.harness true Geo (fun _ h=>by cases h) kR (fun _ h=>by cases h) chainMatchesReference_row_tie rfl ⟨rfl,rfl⟩ kR rfl
  (fun f fn hf hfn=>by
   obtain rfl:f=3:=Hf (Uy.symm.trans hf) |>.symm
   obtain rfl:fn=Tryz.f3:=(Hf (func3.symm.trans hfn)).symm
   exact⟨kR,fun j t ht=>by
    rw [Tryz.params3] at ht
    have hm:t∈[22,23]:=by simpa using Md ht
    have hall:([22,23].all fun u=>!prog.wantsStandIn u)=true:=kR
    exact (show prog.wantsStandIn t=false by simpa using Df.1 hall t hm)⟩)
  kR
#print axioms Ite
end
end Go.Proofs.YtajmjabodcmonaaGreatDoor
