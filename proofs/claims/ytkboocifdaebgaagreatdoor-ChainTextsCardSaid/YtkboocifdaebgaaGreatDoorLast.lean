/- The statement ChainTextsCardSaid: the given law ChainTexts of the program answers as its specification says, at every input that the statement lets in; no condition is added. -/
import Derived.Test.YtkboocifdaebgaaGreatDoorP28
import Derived.Test.YtkboocifdaebgaaGreatDoorP29
import Derived.Lib.LaidCase
import Derived.LaidMore
import Derived.Test.YtkboocifdaebgaaGreatDoorTie
import Derived.Test.YtkboocifdaebgaaGreatDoorCards
import Derived.OpenShut
import Derived.Lay
set_option linter.all false
set_option maxHeartbeats 40000000
set_option maxRecDepth 100000
namespace Go.Proofs.YtkboocifdaebgaaGreatDoor
open Y
section
open Go.Lib Go.Proofs.Tryz Go.RowKit Go.Shelf Go.Sort CH
variable {W:World}
theorem Pu {P:Program} {name:String} {k:IntKind} {zs:List Int} {g:Nat} {t e:TypeId} {n:Nat} (hg:P.globalNamed name=some g) (hty:(P.globals[g]?).map (·.type)=some t) (ht:P.underlying t=some (.array n e)) (he:P.underlying e=some (.int k)) (hce:P.cellsOf e=1) (hct:P.cellsOf t=n) (h:VarReads P W name (tabData k zs)):TabIs P W name k zs:=by obtain⟨g',t',cs,fuel,p,hg',ht',hvar,hd⟩:=h;obtain rfl:=Gh (hg.symm.trans hg');obtain rfl:=Gh (hty.symm.trans ht');unfold TabIs;rw [hvar,<- cells_of_tab ht he hce hct hd]
def LW:List Int:=[0,1,56,2,57,49,28,3,61,58,42,50,38,29,17,4,62,47,59,36,45,43,51,22,53,39,33,30,24,18,12,5,63,55,48,27,60,41,37,16,46,35,44,21,52,32,23,11,54,26,40,15,34,20,31,10,25,14,19,9,13,8,7,6]
def Pmo:Ren:=⟨Tryz.lays274_ren.f,Tryz.lays274_ren.t,fun|13=>10|n=>n⟩
theorem Ncl:Lays.n274 prog Pmo:={ lays274 with }
def Lt2:Ren:=⟨Tryz.lays199_ren.f,Tryz.lays199_ren.t,fun|6=>1|n=>n⟩
theorem I54:Lays.n199 prog Lt2:={ lays199 with }
theorem Vd {P:Program} {name nm:String} {d:DataW Unit} {g:Nat} {t:TypeId} {ms:Array (String × TypeId)} (hg:P.globalNamed name=some g) (hty:(P.globals[g]?).map (·.type)=some t) (ht:P.underlying t=some (.interface ms)) (h:VarReads P W name (.iface nm d)) : ∃ ev,W.cell? ⟨g,0,none⟩=some ev/\(ev=.nilIface\/∃ te pe,ev=.iface te pe):=by obtain⟨g',t',⟨cs⟩,fuel,p,hg',ht',hvar,hd⟩:=h;obtain rfl:=Gh (hg.symm.trans hg');obtain rfl:=Gh (hty.symm.trans ht');obtain⟨_,u,v,e,_⟩:=iface_of_trod ht hd;dsimp only at e;subst e;exact⟨_,(World.var?_cell hg hvar 0).trans rfl,.inr ⟨u,v,rfl⟩⟩
theorem I17 (h:laidMetH prog Rows.chainTextsRow.laid W):Gp W:=by
 rw [MakeChecks.laidMetH_plain _ _ _ kR] at h;have r1:VarReads prog W "math/bits.deBruijn64tab" (tabData .u8 LW):=Lib.laidMet.reads h (.tail _ (.head _));have r2:VarReads prog W "internal/strconv.uint64pow10" (tabData .u64 Lib.pow10Tab):=Lib.laidMet.reads h (.tail _ (.tail _ (.head _)));have r3:VarReads prog W "unicode/utf8.acceptRanges" acceptData:=Lib.laidMet.reads h (.tail _ (.tail _ (.tail _ (.head _))));have ec:Go.Pinned.caseRanges=caseData:=kR;have ef:Go.Pinned.utf8First=firstData:=kR;have r6:VarReads prog W "unicode.CaseRanges" caseData:=ec ▸ Lib.laidMet.reads h (.tail _ (.tail _ (.tail _ (.tail _ (.tail _ (.tail _ (.tail _ (.tail _ (.head _)))))))));have r7:VarReads prog W "unicode/utf8.first" firstData:=ef ▸ Lib.laidMet.reads h (.tail _ (.tail _ (.tail _ (.tail _ (.tail _ (.tail _ (.tail _ (.tail _ (.tail _ (.head _))))))))));have t1:TabIs prog W "math/bits.deBruijn64tab" .u8 LW:=Pu (g:=9) kR rfl rfl rfl kR kR r1;have t2:TabIs prog W "internal/strconv.uint64pow10" .u64 Lib.pow10Tab:=Pu (g:=5) kR rfl rfl rfl kR kR r2;have u8:Lib.Utf8Tabs 6 7 W:=utf8Tabs_of_reads { lays260 with } ⟨kR,kR,kR,kR,kR,kR,kR⟩ r7 r3;have cv:Lib.CaseVar 10 Lib.caseA W:=caseVar_of_reads Ncl underlying403 ⟨kR,kR,kR,kR,kR,kR⟩ r6;have h9:10+1<=W.heap.size:=by obtain⟨R,oR,cap,h1,_⟩:=cv;have:=Bd W _ h1;exact this
 have r8:VarReads prog W "strings.asciiSpace" (tabData .u8 Lib.asciiSpaceTab):=Lib.laidMet.reads h (.tail _ (.tail _ (.tail _ (.tail _ (.tail _ (.tail _ (.tail _ (.head _))))))));have t8:TabIs prog W "strings.asciiSpace" .u8 Lib.asciiSpaceTab:=Pu (g:=0) kR rfl rfl rfl kR kR r8;have r4:=Lib.laidMet.reads h (n := "strconv.ErrRange") (d:=Rows.laid_strconv_ErrRange) (.tail _ (.tail _ (.tail _ (.tail _ (.head _)))));have r5:=Lib.laidMet.reads h (n := "strconv.ErrSyntax") (d:=Rows.laid_strconv_ErrSyntax) (.tail _ (.tail _ (.tail _ (.tail _ (.tail _ (.head _))))));have r9:VarReads prog W "unicode.White_Space" whiteData:=Lib.laidMet.reads h (.tail _ (.tail _ (.tail _ (.tail _ (.tail _ (.tail _ (.head _)))))));have w8:Lib.WhiteTab 1 W:=whiteTab_of_reads I54 ⟨kR,kR,kR,kR,kR,kR,kR,kR⟩ r9;exact⟨⟨⟨h9,t1.cell kR 15 dC,t2,u8⟩,cv⟩,Vd kR rfl underlying122 r5,Vd kR rfl underlying122 r4,t8,w8⟩
end
section
open Go.ChangeAt Go.ChangeShapes Go.Proofs.Tryz Go.RowKit Go.WideShapes CH
theorem own:ownKnob prog.godebug=none:=kR
theorem Er8:laidOutB prog=true:=kR
section
open CH
variable {H:Type} {enc:TypeId × Value->H} {w:World} {spare:Nat->Bool} {held:Bool}
theorem Kit {k:Nat} {s:ByteArray} {d:DataW H} {p:List MemPlace} (h:DataW.trod enc prog w 0 spare held k 9 [.string s]=some (d,p)):p=[]:=by obtain⟨s,h1,h2,h3⟩:=DataW.trod_string underlying9 h;exact congrArg Prod.snd h2
theorem Com {k:Nat} {cs:Array Value} {d:DataW H} {p:List MemPlace} (h:DataW.trod enc prog w 0 spare held k 27 (Value.agg cs).cells.toList=some (d,p)):∃ v s,cs=(At v s).toArray/\fQ w w v s/\oV v:=by obtain⟨v,s,h1,h2,h3⟩:=Mk6 h;exact⟨v,s,by rw [<- h1];rfl,h2,h3⟩
end
theorem Q1e (os:Os) (started:os.Started) (H:Type) (enc:TypeId × Value->H) : ReturnsInHanded {} Tryz.checked os 3 .any (fun w args=>(Rows.chainTextsSpec.pre enc prog Tryz.f3 Rows.chainTextsRow.domain false w args/\laidMetH prog Rows.chainTextsRow.laid w)/\sizedMet enc prog Tryz.f3 (OpenSpec.ofChange Rows.chainTextsSpec) false w args) (Rows.chainTextsSpec.post enc prog Tryz.f3 false true false false):=by
 refine returnsInHanded_of_change_and (C:=Tryz.checked) (X:=fun w _=>laidMetH prog Rows.chainTextsRow.laid w) (fun _ _ _ hh h=>h.of_heap hh) own started kR func3
  (ChangeSpec.witness_shaped (enc:=enc) (C:=Tryz.checked) (os:=os) (X:=fun w _=>laidMetH prog Rows.chainTextsRow.laid w) false (World.laidAll prog os Rows.chainTextsRow.laid) #[.agg #[.int .i64 0,.int .i64 0,.int .i64 0,.string ⟨#[]⟩,.slice none 0 0,.int .i64 0,.slice none 0 0,.slice none 0 0],.agg #[.int .i64 0,.int .i64 0,.int .i64 0,.string ⟨#[]⟩,.slice none 0 0,.int .i64 0,.slice none 0 0,.slice none 0 0],.string ⟨#[]⟩] 8 (World.laidAll_os _ _ _)
   (World.shaped_of_ZipB kR kR) kR kR kR
   (by rw [MakeChecks.laidMetH_plain _ _ _ kR];exact laidMet_laidAll _ kR kR)) ?_
 intro W base args ds gs Xk hval0 hW hc _ hL _;have hval:∀ (j:Nat) t v,Tryz.f3.params[j]?=some t->args[j]?=some v->Value.okWide prog W .any base t v:=hval0;have hW':=hW;obtain⟨p,q,hA0,hV,rfl,_,_⟩:=hW;have hA:DataW.TrodAll enc prog W 0 (fun _=>true) true Tryz.f3.params.toList args.toList ds p:=hA0;rw [Tryz.params3] at hA hval;obtain⟨v0,v1,v2,d0,d1,d2,p0,p1,p2,rfl,rfl,rfl,h0,h1,h2⟩:=trodAll_three hA;obtain⟨rfl,rfl⟩:=trodVars_none hV;have k0:=h0;have k1:=h1;have k2:=h2;obtain⟨_,hf0⟩:=h0;obtain⟨_,hf1⟩:=h1;obtain⟨_,hf2⟩:=h2;obtain⟨c0,rfl,_⟩:=okWide_struct underlying27 (hval 0 27 v0 rfl rfl);obtain⟨c1,rfl,_⟩:=okWide_struct underlying27 (hval 1 27 v1 rfl rfl);obtain⟨⟨⟨text⟩⟩,rfl⟩:=okWide_string underlying9 (hval 2 9 v2 rfl rfl);obtain⟨x,s,rfl,hx,nx⟩:=Com hf0;obtain⟨y,s',rfl,hy,ny⟩:=Com hf1;obtain rfl:=Kit hf2;simp only [Fj] at hW';have hlt:∀ z∈p0++p1,z.block<W.heap.size:=fun z hz=>by simpa using hW'.lt z (by simpa using hz)
 refine CmZ (Joe x y s s' text W (I17 hL) hx hy nx ny) fun W' bel=>?_;have e1:(Rows.chainTextsSpec).fn H ([d0,d1,d2]++[])={ results:=[.lit (.bool true)],args:=[d0,d1,d2] }:=rfl;refine⟨_,rfl,_,_,_,[],p0++(p1++[]),[],(by simpa using hW'),?_,?_,?_,bel.frame _,fun h=>by cases h⟩;·rw [e1];exact trodAll_mk1 (shut_bool underlying4 _)
 ·rw [e1];exact trodAll_mk3 (Below.trod Er8 kR (Il kR) k0 bel (fun x hx=>hlt x (by simp [hx]))) (Below.trod Er8 kR (Il kR) k1 bel (fun x hx=>hlt x (by simp [hx]))) (Below.trod Er8 kR (Il kR) k2 bel (fun x hx=>by cases hx))
 ·rw [e1];rfl
theorem For:Rows.ChainTextsSaid := OpenClaim.holds_of_wide 3 Tryz.f3 rfl rfl rfl rfl rfl rfl rfl ⟨rfl,rfl,rfl,rfl,rfl⟩ rfl rfl rfl rfl rfl Xp func3 Fpt (Il (by as_aux_lemma=>kernel_rfl)) (by unfold Func.isWrapper;first|(rw [if_pos nah];kernel_rfl)|(rw [if_neg nah];exact⟨rfl,rfl⟩)) (fun os started H enc _=>Q1e os started H enc)
theorem Hw1:Rows.ChainTextsCardSaid :=
 Claim7.holds_tied_plain_at .later [] [.data,.data,.data,.data,.sentinel,.sentinel,.listed,.data,.pinned,.pinned] true Rows.chainTextsCard.stood.harness true For (fun _ h=>by cases h) kR (fun _ h=>by cases h) chainTexts_row_tie rfl ⟨rfl,rfl⟩ kR rfl
  (fun f fn hf hfn=>by
   obtain rfl:f=3:=Gh (Xp.symm.trans hf) |>.symm
   obtain rfl:fn=Tryz.f3:=(Gh (func3.symm.trans hfn)).symm
   exact⟨kR,fun j t ht=>by
    rw [Tryz.params3] at ht
    have hm:t∈[27,27,9]:=by simpa using Lp ht
    have hall:([27,27,9].all fun u=>!prog.wantsStandIn u)=true:=kR
    exact (show prog.wantsStandIn t=false by simpa using Dj.1 hall t hm)⟩)
  kR
#print axioms Hw1
end
end Go.Proofs.YtkboocifdaebgaaGreatDoor
