/-
  ChainOthers: the proof, part 14 of 16.
-/
import Derived.Test.YtjaeapaeaiiieaaGreatDoorP12
import Derived.Test.YtjaeapaeaiiieaaGreatDoorRows
import Derived.Lib.LaidCase
import Derived.Lib.LaidTab
import Derived.LaidMore
set_option linter.unusedSimpArgs false
set_option linter.unusedVariables false
set_option maxHeartbeats 40000000
set_option maxRecDepth 100000
namespace Go.Proofs.YtjaeapaeaiiieaaGreatDoor
section
open Go.Lib Go.Proofs.Tryz Go.RowKit Go.Shelf Go.Sort
theorem others_any (vk vl:Value) (keys:List (List UInt8)) (l:List CH.Version) (n:Nat) (hn8:n≤255) (w:World) (hG:Gc w) (hk:Strs w.heap.size w vk keys) (hraw:Eh w.heap.size w vl l) (hn:∀ a∈l,VerNums a) (hkl:∀ x∈keys,x.length≤9223372036854775807) :
  Calls prog 3 #[vk,vl,.int .u8 n] w (Ret w (.bool true)):=by
 have FW:=hid fun (W:World) (hb:Below w.heap.size w W)=>few_any vl l W ((hraw.below hb nR).mono hb.size)
 by_cases hfew:CH.few l 8=true
 ·by_cases hlen:1≤keys.length∧keys.length≤8
  ·refine others_main vk vl keys l n hn8 w hG hk hraw (vers_small hraw hn fun a ha=>?_) hfew hlen.2 hlen.1 hkl
   unfold CH.few at hfew
   rw [Bool.and_eq_true] at hfew
   exact List.all_eq_true.1 hfew.1 a ha
  ·rw [hfew] at FW
   obtain⟨ak,ck,rfl,_,_⟩:=hk.form
   obtain⟨al,cl,rfl,_,_,_⟩:=hraw
   by_cases h0:keys.length=0
   ·have q8:decide ((8:Int)<(keys.length:Int))=false:=by simp;omega
    have q0:((keys.length:Int)==0)=true:=by rw [h0];rfl
    clear hk hfew hlen h0
    generalize keys.length=NK at *
    generalize l.length=NL at *
    go_enter func3,ntmps3
    go_wp2_with fail
    refine (Ge w hG).mono ?_
    rintro e w1 ⟨rfl,hb1⟩
    go_wp2_with fail
    refine (FW.out w1 hb1).mono ?_
    rintro e w2 ⟨rfl,hb2⟩
    have hB2:=hid (hb1.trans (hb2.mono hb1.size))
    go_wp2
    go_ret
    exact⟨rfl,hB2.out⟩
   ·have q8:decide ((8:Int)<(keys.length:Int))=true:=decide_eq_true (by omega)
    clear hk hfew hlen h0
    generalize keys.length=NK at *
    generalize l.length=NL at *
    go_enter func3,ntmps3
    go_wp2_with fail
    refine (Ge w hG).mono ?_
    rintro e w1 ⟨rfl,hb1⟩
    go_wp2_with fail
    refine (FW.out w1 hb1).mono ?_
    rintro e w2 ⟨rfl,hb2⟩
    have hB2:=hid (hb1.trans (hb2.mono hb1.size))
    go_wp2
    go_ret
    exact⟨rfl,hB2.out⟩
 ·have hff:CH.few l 8=false:=by simpa using hfew
  rw [hff] at FW
  obtain⟨ak,ck,rfl,_,_⟩:=hk.form
  obtain⟨al,cl,rfl,_,_,_⟩:=hraw
  clear hk hfew hff
  generalize keys.length=NK at *
  generalize l.length=NL at *
  go_enter func3,ntmps3
  go_wp2_with fail
  refine (Ge w hG).mono ?_
  rintro e w1 ⟨rfl,hb1⟩
  go_wp2_with fail
  refine (FW.out w1 hb1).mono ?_
  rintro e w2 ⟨rfl,hb2⟩
  have hB2:=hid (hb1.trans (hb2.mono hb1.size))
  go_wp2
  go_ret
  exact⟨rfl,hB2.out⟩
theorem Ht {P:Program} {W:World} {name:String} {k:IntKind} {zs:List Int} {g:Nat} {t e:TypeId} {n:Nat}
  (hg:P.globalNamed name=some g) (hty:(P.globals[g]?).map (·.type)=some t) (ht:P.underlying t=some (.array n e)) (he:P.underlying e=some (.int k)) (hce:P.cellsOf e=1) (hct:P.cellsOf t=n)
  (h:VarReads P W name (tabData k zs)):TabIs P W name k zs:=by
 obtain⟨g',t',cs,fuel,p,hg',ht',hvar,hd⟩:=h
 obtain rfl:=Option.some.inj (hg.symm.trans hg')
 obtain rfl:=Option.some.inj (hty.symm.trans ht')
 unfold TabIs
 rw [hvar,← cells_of_tab ht he hce hct hd]
def db64:List Int:=[0,1,56,2,57,49,28,3,61,58,42,50,38,29,17,4,62,47,59,36,45,43,51,22,53,39,33,30,24,18,12,5,63,55,48,27,60,41,37,16,46,35,44,21,52,32,23,11,54,26,40,15,34,20,31,10,25,14,19,9,13,8,7,6]
def caseRen:Ren:=⟨Tryz.lays274_ren.f,Tryz.lays274_ren.t,fun|13=>8|n=>n⟩
theorem caseLays:Lays.n274 prog caseRen:={ lays274 with }
theorem gc_of_laid {W:World} (h:laidMetH prog Rows.chainOthersRow.laid W):Gc W:=by
 rw [MakeChecks.laidMetH_plain _ _ _ (by kernel_rfl)] at h
 have r1:VarReads prog W "math/bits.deBruijn64tab" (tabData .u8 db64):=Lib.laidMet.reads h (.tail _ (.head _))
 have r2:VarReads prog W "internal/strconv.uint64pow10" (tabData .u64 Lib.pow10Tab):=Lib.laidMet.reads h (.tail _ (.tail _ (.head _)))
 have r3:VarReads prog W "unicode/utf8.acceptRanges" acceptData:=Lib.laidMet.reads h (.tail _ (.tail _ (.tail _ (.head _))))
 have ec:Go.Pinned.caseRanges=caseData:=by kernel_rfl
 have ef:Go.Pinned.utf8First=firstData:=by kernel_rfl
 have r6:VarReads prog W "unicode.CaseRanges" caseData:=ec ▸ Lib.laidMet.reads h (.tail _ (.tail _ (.tail _ (.tail _ (.tail _ (.tail _ (.head _)))))))
 have r7:VarReads prog W "unicode/utf8.first" firstData:=ef ▸ Lib.laidMet.reads h (.tail _ (.tail _ (.tail _ (.tail _ (.tail _ (.tail _ (.tail _ (.head _))))))))
 have t1:TabIs prog W "math/bits.deBruijn64tab" .u8 db64:=Ht (g:=5) (by kernel_rfl) rfl rfl rfl (by kernel_rfl) (by kernel_rfl) r1
 have t2:TabIs prog W "internal/strconv.uint64pow10" .u64 Lib.pow10Tab:=Ht (g:=0) (by kernel_rfl) rfl rfl rfl (by kernel_rfl) (by kernel_rfl) r2
 have u8:Lib.Utf8Tabs 2 3 W:=utf8Tabs_of_reads { lays260 with } ⟨by kernel_rfl,by kernel_rfl,by kernel_rfl,by kernel_rfl,by kernel_rfl,by kernel_rfl,by kernel_rfl⟩ r7 r3
 have cv:Lib.CaseVar 8 Lib.caseA W:=caseVar_of_reads caseLays underlying353 ⟨by kernel_rfl,by kernel_rfl,by kernel_rfl,by kernel_rfl,by kernel_rfl,by kernel_rfl⟩ r6
 have h9:9≤W.heap.size:=by
  obtain⟨R,oR,cap,h1,_⟩:=cv
  have:=World.block_lt_of_cell? W _ h1
  exact this
 exact⟨⟨h9,t1.cell (by kernel_rfl) 15 (by decide),t2,u8⟩,cv⟩
end
end Go.Proofs.YtjaeapaeaiiieaaGreatDoor
