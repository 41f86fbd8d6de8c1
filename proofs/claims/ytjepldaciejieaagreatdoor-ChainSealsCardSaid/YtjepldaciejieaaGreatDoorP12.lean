/-
  ChainSeals: the proof, part 13 of 15.
-/
import Derived.Test.YtjepldaciejieaaGreatDoorP11
import Derived.Test.YtjepldaciejieaaGreatDoorRows
import Derived.Lib.LaidCase
import Derived.Lib.LaidTab
import Derived.LaidMore
set_option linter.unusedSimpArgs false
set_option linter.unusedVariables false
set_option maxHeartbeats 40000000
set_option maxRecDepth 100000
namespace Go.Proofs.YtjepldaciejieaaGreatDoor
section
open Go.Lib Go.Proofs.Tryz Go.RowKit Go.Shelf Go.Sort
def VersAt (B:Nat) (w:World) (v:Value) (ls:List CH.Version):Prop :=
 ∃ a cap,v=.slice a ls.length cap∧ls.length≤cap∧cap≤9223372036854775807 ∧
  (ls≠[]→∃ b off,a=some ⟨b,off,none⟩∧b<B∧∀ j x,ls[j]?=some x→∃ s,(∀ i u,(Ac x s)[i]?=some u→w.cell? ⟨b,off+j*8+i,none⟩=some u)∧VerAt B w x s)
theorem VersAt.below {B B':Nat} {w w':World} {v:Value} {ls:List CH.Version} (h:VersAt B w v ls) (hb:Below B' w w') (hB:B≤B'):VersAt B w' v ls:=by
 obtain⟨a,cap,h1,h2,h3,h4⟩:=h
 refine⟨a,cap,h1,h2,h3,fun hne=>?_⟩
 obtain⟨b,off,e,hlt,hx⟩:=h4 hne
 refine⟨b,off,e,hlt,fun j x hj=>?_⟩
 obtain⟨s,c1,c2⟩:=hx j x hj
 exact⟨s,fun i u hi=>(hb.cell (p:=⟨b,off+j*8+i,none⟩) (nL hlt hB)).trans (c1 i u hi),c2.below hb hB⟩
theorem VersAt.mono {B B':Nat} {w:World} {v:Value} {ls:List CH.Version} (h:VersAt B w v ls) (hB:B≤B'):VersAt B' w v ls:=by
 obtain⟨a,cap,h1,h2,h3,h4⟩:=h
 refine⟨a,cap,h1,h2,h3,fun hne=>?_⟩
 obtain⟨b,off,e,hlt,hx⟩:=h4 hne
 refine⟨b,off,e,nL hlt hB,fun j x hj=>?_⟩
 obtain⟨s,c1,c2⟩:=hx j x hj
 exact⟨s,c1,c2.mono hB⟩
theorem VersRaw.below {B B':Nat} {w w':World} {v:Value} {ls:List CH.Version} (h:VersRaw B w v ls) (hb:Below B' w w') (hB:B≤B'):VersRaw B w' v ls:=by
 obtain⟨a,cap,h1,h2,h3,h4⟩:=h
 refine⟨a,cap,h1,h2,h3,fun hne=>?_⟩
 obtain⟨b,off,e,hlt,hx⟩:=h4 hne
 refine⟨b,off,e,hlt,fun j x hj=>?_⟩
 obtain⟨s,c1,c2⟩:=hx j x hj
 exact⟨s,fun i u hi=>(hb.cell (p:=⟨b,off+j*8+i,none⟩) (nL hlt hB)).trans (c1 i u hi),c2.below hb hB⟩
theorem VersRaw.mono {B B':Nat} {w:World} {v:Value} {ls:List CH.Version} (h:VersRaw B w v ls) (hB:B≤B'):VersRaw B' w v ls:=by
 obtain⟨a,cap,h1,h2,h3,h4⟩:=h
 refine⟨a,cap,h1,h2,h3,fun hne=>?_⟩
 obtain⟨b,off,e,hlt,hx⟩:=h4 hne
 refine⟨b,off,e,nL hlt hB,fun j x hj=>?_⟩
 obtain⟨s,c1,c2⟩:=hx j x hj
 exact⟨s,c1,c2.mono hB⟩
theorem seals_any (au nu po h:Int) (prev secret:List UInt8) (va:Value) (acts:List CH.Act) (w:World) (hG:Gc w) (hau:I64 au) (hnu:I64 nu) (hpo:I64 po) (hraw:D8 w.heap.size w va acts) (hn:∀ a∈acts,ActNums a) :
  Calls prog 3 #[.int .i64 au,.int .i64 nu,.int .i64 po,.string ⟨prev.toArray⟩,va,.string ⟨secret.toArray⟩,.int .i64 h] w (Ret w (.bool true)):=by
 have FW:=hid fun (W:World) (hb:Below w.heap.size w W)=>fewActs_any va acts W ((hraw.below hb nR).mono hb.size)
 by_cases hall:CH.fewActs acts 5=true∧prev.length≤60∧secret.length≤100∧h≤3
 ·obtain⟨h1,h2,h3,h4⟩:=hall
  refine seals_main au nu po h prev secret va acts w hG hau hnu hpo hraw (acts_small hraw hn fun a ha=>?_) h1 h2 h3 h4
  unfold CH.fewActs at h1
  rw [Bool.and_eq_true] at h1
  exact List.all_eq_true.1 h1.1 a ha
 ·obtain⟨b1,e1⟩:∃ b,CH.fewActs acts 5=b:=⟨_,rfl⟩
  obtain⟨b2,e2⟩:∃ b,decide ((60:Int)<(prev.length:Int))=b:=⟨_,rfl⟩
  obtain⟨b3,e3⟩:∃ b,decide ((100:Int)<(secret.length:Int))=b:=⟨_,rfl⟩
  obtain⟨b4,e4⟩:∃ b,decide ((3:Int)<h)=b:=⟨_,rfl⟩
  have hsel:(b1=false)∨(b1=true∧b2=true)∨(b1=true∧b2=false∧b3=true)∨(b1=true∧b2=false∧b3=false∧b4=true):=by
   cases b1 with
   | false=>exact .inl rfl
   | true =>
    cases b2 with
    | true=>exact .inr (.inl ⟨rfl,rfl⟩)
    | false =>
     cases b3 with
     | true=>exact .inr (.inr (.inl ⟨rfl,rfl,rfl⟩))
     | false =>
      cases b4 with
      | true=>exact .inr (.inr (.inr ⟨rfl,rfl,rfl,rfl⟩))
      | false =>
       have h2:=of_decide_eq_false e2
       have h3:=of_decide_eq_false e3
       have h4:=of_decide_eq_false e4
       exact absurd ⟨e1,by omega,by omega,by omega⟩ hall
  rw [e1] at FW
  obtain⟨aa,ca,rfl,_,_,_⟩:=hraw
  clear hall e1 hn
  generalize acts.length=N at *
  rcases hsel with rfl|⟨rfl,rfl⟩|⟨rfl,rfl,rfl⟩|⟨rfl,rfl,rfl,rfl⟩
  all_goals
   go_enter func3,ntmps3
   go_wp2_with fail
   refine (lawHead_any w hG).mono ?_
   rintro e w1 ⟨rfl,hb1⟩
   go_wp2_with fail
   refine (FW.out w1 hb1).mono ?_
   rintro e w2 ⟨rfl,hb2⟩
   have hB2:=hid (hb1.trans (hb2.mono hb1.size))
   go_wp2
   go_ret
   exact⟨rfl,hB2.out⟩
theorem tabIs_of_reads {P:Program} {W:World} {name:String} {k:IntKind} {zs:List Int} {g:Nat} {t e:TypeId} {n:Nat}
  (hg:P.globalNamed name=some g) (hty:(P.globals[g]?).map (·.type)=some t) (ht:P.underlying t=some (.array n e)) (he:P.underlying e=some (.int k)) (hce:P.cellsOf e=1) (hct:P.cellsOf t=n)
  (h:VarReads P W name (tabData k zs)):TabIs P W name k zs:=by
 obtain⟨g',t',cs,fuel,p,hg',ht',hvar,hd⟩:=h
 obtain rfl:=Option.some.inj (hg.symm.trans hg')
 obtain rfl:=Option.some.inj (hty.symm.trans ht')
 unfold TabIs
 rw [hvar,← cells_of_tab ht he hce hct hd]
def db64:List Int:=[0,1,56,2,57,49,28,3,61,58,42,50,38,29,17,4,62,47,59,36,45,43,51,22,53,39,33,30,24,18,12,5,63,55,48,27,60,41,37,16,46,35,44,21,52,32,23,11,54,26,40,15,34,20,31,10,25,14,19,9,13,8,7,6]
def caseRen:Ren:=⟨Tryz.lays274_ren.f,Tryz.lays274_ren.t,fun|13=>8|n=>n⟩
theorem caseLays:Lays.n274 prog caseRen:={ lays274 with }
theorem gc_of_laid {W:World} (h:laidMetH prog Rows.chainSealsRow.laid W):Gc W:=by
 rw [MakeChecks.laidMetH_plain _ _ _ (by kernel_rfl)] at h
 have r1:VarReads prog W "math/bits.deBruijn64tab" (tabData .u8 db64):=Lib.laidMet.reads h (.tail _ (.head _))
 have r2:VarReads prog W "internal/strconv.uint64pow10" (tabData .u64 Lib.pow10Tab):=Lib.laidMet.reads h (.tail _ (.tail _ (.head _)))
 have r3:VarReads prog W "unicode/utf8.acceptRanges" acceptData:=Lib.laidMet.reads h (.tail _ (.tail _ (.tail _ (.head _))))
 have ec:Go.Pinned.caseRanges=caseData:=by kernel_rfl
 have ef:Go.Pinned.utf8First=firstData:=by kernel_rfl
 have r6:VarReads prog W "unicode.CaseRanges" caseData:=ec ▸ Lib.laidMet.reads h (.tail _ (.tail _ (.tail _ (.tail _ (.tail _ (.tail _ (.head _)))))))
 have r7:VarReads prog W "unicode/utf8.first" firstData:=ef ▸ Lib.laidMet.reads h (.tail _ (.tail _ (.tail _ (.tail _ (.tail _ (.tail _ (.tail _ (.head _))))))))
 have t1:TabIs prog W "math/bits.deBruijn64tab" .u8 db64:=tabIs_of_reads (g:=5) (by kernel_rfl) rfl rfl rfl (by kernel_rfl) (by kernel_rfl) r1
 have t2:TabIs prog W "internal/strconv.uint64pow10" .u64 Lib.pow10Tab:=tabIs_of_reads (g:=0) (by kernel_rfl) rfl rfl rfl (by kernel_rfl) (by kernel_rfl) r2
 have u8:Lib.Utf8Tabs 2 3 W:=utf8Tabs_of_reads { lays260 with } ⟨by kernel_rfl,by kernel_rfl,by kernel_rfl,by kernel_rfl,by kernel_rfl,by kernel_rfl,by kernel_rfl⟩ r7 r3
 have cv:Lib.CaseVar 8 Lib.caseA W:=caseVar_of_reads caseLays underlying342 ⟨by kernel_rfl,by kernel_rfl,by kernel_rfl,by kernel_rfl,by kernel_rfl,by kernel_rfl⟩ r6
 have h9:9≤W.heap.size:=by
  obtain⟨R,oR,cap,h1,_⟩:=cv
  have:=World.block_lt_of_cell? W _ h1
  exact this
 exact⟨⟨h9,t1.cell (by kernel_rfl) 15 (by decide),t2,u8⟩,cv⟩
end
end Go.Proofs.YtjepldaciejieaaGreatDoor
