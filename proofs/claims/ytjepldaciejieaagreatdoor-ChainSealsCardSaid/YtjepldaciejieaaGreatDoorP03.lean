/-
  ChainSeals: the proof, part 4 of 15.
-/
import Derived.Test.YtjepldaciejieaaGreatDoorP02
import Derived.Deep.QuietTactic
import Derived.StillTail
import Derived.Lib.ItoaLen
import Derived.Test.YtjepldaciejieaaGreatDoorProg
import Derived.Shelf.Strings.CaseAny
import Derived.RangeFuncNested
import Derived.RangeFuncBound
import Derived.RangeFuncCalls
import Derived.RangeFuncLeaves
import Derived.RangeFuncBox
import Derived.Shelf.Abstract
import Derived.Shelf.RegionOpen
import Derived.OwnWalkIn
import Derived.TacticsInMore
import Derived.LoopNIn
import Derived.LoopIn
import Derived.OrdersHeld
import Derived.Deep.RegionHeld3
import Derived.Sort.QuietIn
import Derived.Stop.RegionWithIn
import Derived.RangeFuncWrites
import Derived.Maps.Keyed
import Derived.Carry
set_option linter.unusedSimpArgs false
set_option linter.unusedVariables false
set_option maxHeartbeats 40000000
set_option maxRecDepth 100000
namespace Go.Proofs.YtjepldaciejieaaGreatDoor
section
open Go.Lib Go.Proofs.Tryz Go.RowKit Go.Shelf Go.Sort
def tokV (t:CH.Tok):Value:=.agg #[.int .i64 t.kind,.int .i64 t.pos,.int .i64 t.n,.string ⟨t.text.toArray⟩]
def nextV:Except Nat (CH.Tok × Nat)→Value
 | .error e=>.tuple #[.agg #[.int .i64 0,.int .i64 0,.int .i64 0,.string ⟨#[]⟩],.int .i64 0,.int .i64 e]
 | .ok (t,j)=>.tuple #[tokV t,.int .i64 j,.int .i64 0]
theorem indexAny_eq:∀ l:List UInt8,Lib.indexAny l [34,10]=match l.findIdx? (fun c=>c==34||c==10) with|none=>-1|some n=>(n:Int):=by
 intro l
 induction l with
 | nil=>rfl
 | cons b l ih =>
  rw [Lib.indexAny,List.findIdx?_cons,ih]
  have e:[34,10].contains b=(b==34||b==10):=by rw [Bool.eq_iff_iff];simp
  rw [e]
  by_cases h:(b==34||b==10)=true
  ·simp [h]
  ·cases hf:l.findIdx? (fun c=>c==34||c==10) with
   | none=>simp [h]
   | some n =>
    have:¬ ((n:Int) = -1):=by omega
    simp [h,this]
theorem decFrom_eq:∀ (l:List UInt8) (acc:Nat),(∀ c∈l,CH.cls c=4)→Lib.decFrom acc l=some (l.foldl (fun n c=>n*10+(c.toNat - 48)) acc):=by
 intro l
 induction l with
 | nil=>intro acc _;rfl
 | cons c l ih =>
  intro acc h
  have hc:=CH.cls_four c (h c (by simp))
  rw [Lib.decFrom,Lib.digitVal,if_pos hc]
  exact ih _ fun x hx=>h x (by simp [hx])
theorem atoi_digits (l:List UInt8) (h:∀ c∈l,CH.cls c=4) (hne:l≠[]):Lib.atoi l=some (CH.dec l:Int):=by
 cases l with
 | nil=>exact absurd rfl hne
 | cons b r =>
  have hb:=CH.cls_four b (h b (by simp))
  have h1:(b==45)=false:=by rw [CH.beq_toNat];simp;omega
  have h2:(b==43)=false:=by rw [CH.beq_toNat];simp;omega
  rw [Lib.atoi,h1,h2]
  show (Lib.decNat (b::r)).map _=_
  unfold Lib.decNat
  rw [decFrom_eq _ 0 h]
  rfl
theorem results_cell_tmp2 {P:Program} {fn:Func} {p u v:Tmp} {ty:TypeId} (h:fn.results=#[.cell p ty,.tmp u,.tmp v]) (tmps:Array Value) (w:World) (a:Addr) (x:Value)
  (hp:tmps.getD p undef=.pointer (some a)) (hl:(loadVar ty a).run P w=.ok x w):(results fn tmps).run P w=.ok (.tuple #[x,tmps.getD u undef,tmps.getD v undef]) w:=by
 simp only [results,h]
 have hp':tmps[p]?.getD undef=.pointer (some a):=by simpa using hp
 simp [asAddr]
 rw [hp']
 simp [Result.andThen,hl]
theorem Ex {w:World} {g:Nat} (h:w.heap[g]?=some (.cells #[.int .i64 0,.int .i64 0,.int .i64 0,.string ⟨#[]⟩] 172 (0,0))) :
  w.there g 0 4∧w.cell? ⟨g,0,none⟩=some (.int .i64 0)∧w.cell? ⟨g,1,none⟩=some (.int .i64 0)∧w.cell? ⟨g,2,none⟩=some (.int .i64 0)∧w.cell? ⟨g,3,none⟩=some (.string ⟨#[]⟩) ∧
   w.frozen? ⟨g,0,none⟩=false∧w.frozen? ⟨g,1,none⟩=false∧w.frozen? ⟨g,2,none⟩=false∧w.frozen? ⟨g,3,none⟩=false:=by
 refine⟨fun j hj=>?_,cell_of h 0,cell_of h 1,cell_of h 2,cell_of h 3,Aj h 0,Aj h 1,Aj h 2,Aj h 3⟩
 rw [Nat.zero_add,cell_of h j,Aj h j]
 rcases j with _|_|_|_|j
 ·simp
 ·simp
 ·simp
 ·simp
 ·omega
theorem hasPrefix_eq (s:List UInt8) (k:Nat):Lib.hasPrefix (s.drop k) [61]=decide (s[k]?=some 61):=by
 unfold Lib.hasPrefix
 by_cases hk:k<s.length
 ·rw [List.drop_eq_getElem_cons hk,lZ hk]
  by_cases h:s[k]=61
  ·rw [h];simp
  ·simp [List.isPrefixOf,h];exact fun e=>h e.symm
 ·rw [List.drop_eq_nil_of_le (by omega),List.getElem?_eq_none (by omega)]
  simp
theorem tokInfo:(prog.info? 172).map (·.size)=some 4:=by kernel_rfl
theorem B9 {r:Value} {w w1:World} {b:Nat} {cells:List Value} {tmps:Array Value} (hlen:cells.length=4) (hth:w1.there b 0 4) (hp:tmps.getD 4 undef=.pointer (some ⟨b,0,none⟩)) (hb:Below w.heap.size w w1) (hbw:w.heap.size≤b)
  (hv:Hid (.tuple #[.agg cells.toArray,tmps.getD 5 undef,tmps.getD 6 undef]=r)) :
  bodyPost prog Tryz.f147 (Ret w r) .ret { tmps:=tmps,defers:=[] } (w1.setCells b 0 cells):=by
 refine bodyPost_ret (results_cell_tmp2 (p:=4) (u:=5) (v:=6) (ty:=172) rfl _ _ ⟨b,0,none⟩ _ hp (run_loadVar_mid _ b 0 172 cells _ (World.rangeAt_setCells_same w1 _ 0 _ (by rw [hlen];exact hth)) underlying172 rfl (by rw [hlen];exact tokInfo))) rfl ?_
 exact⟨congrArg Ending.returned hv.out,below_setCells hbw _ _ _ hb⟩
theorem lexNext_any (b i:Nat) (s:List UInt8) (w:World) (hs:s.length≤1000000) (hi:i<s.length) (hS:Scan b s w) :
  Calls prog 147 #[.pointer (some ⟨b,0,none⟩),.int .i64 i] w (Ret w (nextV (CH.next s i))):=by
 obtain⟨r,hr⟩:∃ r,Hid (nextV (CH.next s i)=r):=⟨_,hid rfl⟩
 rw [hr.out]
 have hBa:∀ o,Below w.heap.size w (w.alloc o):=fun o=>(Below.refl _ w).alloc nR _
 have A:=hid fun o=>at_any b i s (w.alloc o) hs (by omega) (hS.below (hBa o))
 go_enter func147,ntmps147
 go_wp2_with fail
 refine (A.out _).mono ?_
 rintro e w1 ⟨rfl,hb1⟩
 clear A
 have hblk:=hb1.block w.heap.size (by simp)
 rw [heap_alloc_last] at hblk
 have hb:Below w.heap.size w w1:=(hBa _).trans (hb1.mono (by simp))
 clear hb1 hBa
 have hS1:=hS.below hb
 have ht:=hS1.text
 have hblt:=hS1.lt
 have hbz:w.heap.size<w1.heap.size:=(aZ hblk)
 have keep:∀ w2,Below w1.heap.size w1 w2→w2.heap[w.heap.size]?=some (.cells #[.int .i64 0,.int .i64 0,.int .i64 0,.string ⟨#[]⟩] 172 (0,0)):=fun w2 h2=>(h2.block _ hbz).trans hblk
 obtain⟨c,hc⟩:∃ c,Hid (CH.clsAt s i=c):=⟨_,hid rfl⟩
 rw [hc.out]
 have hBa:∀ o,Below w1.heap.size w1 (w1.alloc o):=fun o=>(Below.refl _ w1).alloc nR _
 by_cases c3:c=3
 ·subst c3
  have A:=hid fun t=>while_any b i w1.heap.size 3 s [3,4,5] (w1.alloc (.cells #[.int .i64 3,.int .i64 4,.int .i64 5] t)) hs (by omega) (by decide) (hS1.below (hBa _)) (nums_alloc w1 [3,4,5] t)
  have g1:=CH.whil_ge s [3,4,5] i
  have g2:=CH.whil_le s [3,4,5] i (by omega)
  have hn:CH.next s i=if CH.whil s [3,4,5] i - i > 24 then .error 2 else .ok (⟨1,i,0,(s.drop i).take (CH.whil s [3,4,5] i - i)⟩,CH.whil s [3,4,5] i):=by
   unfold CH.next;rw [if_pos hc.out]
  have Hn:=hid hn
  clear hn hS hS1
  generalize CH.whil s [3,4,5] i=q at *
  go_wp2_with fail
  refine (A.out _).mono ?_
  rintro e w2 ⟨rfl,hb2⟩
  clear A
  have hb2':Below w1.heap.size w1 w2:=(hBa _).trans (hb2.mono (by simp))
  clear hb2 hBa
  have hbb:=hb.trans (hb2'.mono hb.size)
  obtain⟨hth,k0,k1,k2,k3,f0,f1,f2,f3⟩:=Ex (keep w2 hb2')
  have ht2:w2.cell? ⟨b,0,none⟩=some (.string ⟨s.toArray⟩):=(hb2'.cell (p:=⟨b,0,none⟩) hblt).trans ht
  clear keep
  by_cases h24:q - i > 24
  ·have d:decide ((24:Int)<(q:Int) - (i:Int))=true:=by simp;omega
   have hn:=Hn.out
   rw [if_pos h24] at hn
   clear Hn
   have Hn:=hid hn
   clear hn
   go_wp2
   refine B9 (r:=r) (cells:=[.int .i64 0,.int .i64 0,.int .i64 0,.string ⟨#[]⟩]) ?_ hth ?_ hbb nR (hid ?_) <;> try rfl
   rw [← hr.out,Hn.out]
   rfl
  ·have d:decide ((24:Int)<(q:Int) - (i:Int))=false:=by simp;omega
   have hn:=Hn.out
   rw [if_neg h24] at hn
   clear Hn
   have Hn:=hid hn
   clear hn
   go_wp2
   refine B9 (r:=r) (cells:=[.int .i64 1,.int .i64 i,.int .i64 0,.string ((ByteArray.mk s.toArray).extract i q)]) ?_ hth ?_ hbb nR (hid ?_) <;> try rfl
   rw [← hr.out,Hn.out]
   simp only [Cf]
   rfl
 by_cases c4:c=4
 ·subst c4
  have A:=hid fun t=>while_any b i w1.heap.size 1 s [4] (w1.alloc (.cells #[.int .i64 4] t)) hs (by omega) (by decide) (hS1.below (hBa _)) (nums_alloc w1 [4] t)
  have g1:=CH.whil_ge s [4] i
  have g2:=CH.whil_le s [4] i (by omega)
  have hmem:=hid (CH.whil_mem s [4] i)
  have g3:i<CH.whil s [4] i:=by
   rw [CH.whil_go s _ i hi (by rw [hc.out];rfl)];exact CH.whil_ge _ _ _
  have hn:CH.next s i=if CH.whil s [4] i - i > 13∨CH.clsAt s (CH.whil s [4] i)=3∨CH.clsAt s (CH.whil s [4] i)=5 then .error 4
    else .ok (⟨2,i,CH.dec ((s.drop i).take (CH.whil s [4] i - i)),(s.drop i).take (CH.whil s [4] i - i)⟩,CH.whil s [4] i):=by
   unfold CH.next;rw [if_neg (by rw [hc.out];decide),if_pos hc.out]
  have Hn:=hid hn
  clear hn
  generalize CH.whil s [4] i=q at *
  go_wp2_with fail
  refine (A.out _).mono ?_
  rintro e w2 ⟨rfl,hb2⟩
  clear A
  have hb2':Below w1.heap.size w1 w2:=(hBa _).trans (hb2.mono (by simp))
  clear hb2 hBa
  have hS2:=hS1.below hb2'
  clear hS hS1
  have A:=hid (at_any b q s w2 hs (by omega) hS2)
  go_wp2_with fail
  refine A.out.mono ?_
  rintro e w3 ⟨rfl,hb3⟩
  clear A
  have hb3':Below w1.heap.size w1 w3:=hb2'.trans (hb3.mono hb2'.size)
  have ht3:=(hS2.below hb3).text
  clear hb3 hb2' hS2
  have hbb:=hb.trans (hb3'.mono hb.size)
  obtain⟨hth,k0,k1,k2,k3,f0,f1,f2,f3⟩:=Ex (keep w3 hb3')
  obtain⟨x,hx⟩:∃ x,CH.clsAt s q=x:=⟨_,rfl⟩
  rw [hx] at Hn ⊢
  by_cases h13:q - i > 13
  ·have d:decide ((13:Int)<(q:Int) - (i:Int))=true:=by simp;omega
   rw [if_pos (.inl h13)] at Hn
   clear keep hx hmem
   go_wp2
   refine B9 (r:=r) (cells:=[.int .i64 0,.int .i64 0,.int .i64 0,.string ⟨#[]⟩]) ?_ hth ?_ hbb nR (hid ?_) <;> try rfl
   rw [← hr.out,Hn.out]
   rfl
  have d:decide ((13:Int)<(q:Int) - (i:Int))=false:=by simp;omega
  by_cases hx3:x=3
  ·have d3:((x:Int)==3)=true:=by simp;omega
   rw [if_pos (.inr (.inl hx3))] at Hn
   clear keep hx hmem
   go_wp2
   refine B9 (r:=r) (cells:=[.int .i64 0,.int .i64 0,.int .i64 0,.string ⟨#[]⟩]) ?_ hth ?_ hbb nR (hid ?_) <;> try rfl
   rw [← hr.out,Hn.out]
   rfl
  have d3:((x:Int)==3)=false:=by simp;omega
  by_cases hx5:x=5
  ·have d5:((x:Int)==5)=true:=by simp;omega
   rw [if_pos (.inr (.inr hx5))] at Hn
   clear keep hx hmem
   go_wp2
   refine B9 (r:=r) (cells:=[.int .i64 0,.int .i64 0,.int .i64 0,.string ⟨#[]⟩]) ?_ hth ?_ hbb nR (hid ?_) <;> try rfl
   rw [← hr.out,Hn.out]
   rfl
  have d5:((x:Int)==5)=false:=by simp;omega
  rw [if_neg (by omega)] at Hn
  have hll:((s.drop i).take (q - i)).length=q - i:=by rw [List.length_take,List.length_drop];omega
  have hne:(s.drop i).take (q - i)≠[]:=fun e=>by rw [e] at hll;simp at hll;omega
  have hdg:=atoi_digits _ (fun c hc'=>by have:=hmem.out c hc';simpa using this) hne
  have AT:=hid (Tryz.strconv_Atoi ⟨((s.drop i).take (q - i)).toArray⟩ (CH.dec ((s.drop i).take (q - i))) (by show ((s.drop i).take (q - i)).toArray.size≤18;simp only [List.size_toArray,hll];omega) hdg w3)
  generalize hdd:CH.dec ((s.drop i).take (q - i))=dd at *
  clear hmem hx hll hne hdg
  go_wp2_with fail
  simp only [Cf]
  refine AT.out.mono ?_
  rintro e w4 ⟨rfl,t4,hw4⟩
  clear AT
  have hb4:Below w3.heap.size w3 w4:=by rw [hw4];exact Lib.bytesWorld_below _ _ _
  clear hw4
  have hb4':Below w1.heap.size w1 w4:=hb3'.trans (hb4.mono hb3'.size)
  have ht4:w4.cell? ⟨b,0,none⟩=some (.string ⟨s.toArray⟩):=(hb4.cell (p:=⟨b,0,none⟩) (nL hblt hb3'.size)).trans ht3
  have hbb4:=hb.trans (hb4'.mono hb.size)
  clear hth k0 k1 k2 k3 f0 f1 f2 f3 hbb hb3' hb4 ht3
  obtain⟨hth,k0,k1,k2,k3,f0,f1,f2,f3⟩:=Ex (keep w4 hb4')
  clear keep
  go_wp2
  refine B9 (r:=r) (cells:=[.int .i64 2,.int .i64 i,.int .i64 dd,.string ((ByteArray.mk s.toArray).extract i q)]) ?_ hth ?_ hbb4 nR (hid ?_) <;> try rfl
  rw [← hr.out,Hn.out]
  simp only [Cf]
  rfl
 by_cases c6:c=6
 ·subst c6
  have hn:CH.next s i=match (s.drop (i+1)).findIdx? (fun c=>c==34||c==10) with
    | none=>.error 6
    | some n=>if (s.drop (i+1))[n]?=some 10 then .error 6 else if n > 400 then .error 2 else .ok (⟨3,i,0,(s.drop (i+1)).take n⟩,i+n+2):=by
   unfold CH.next;rw [if_neg (by rw [hc.out];decide),if_neg (by rw [hc.out];decide),if_pos hc.out]
   rfl
  have hrl:(s.drop (i+1)).length=s.length - (i+1):=List.length_drop
  have IA:=hid (indexAny_any (s.drop (i+1)) w1 (by omega))
  rw [indexAny_eq] at IA
  clear hS hS1 hBa
  go_wp2_with fail
  simp only [extract_drop]
  refine IA.out.mono ?_
  rintro e w2 ⟨rfl,hb2⟩
  clear IA
  have hbb:=hb.trans (hb2.mono hb.size)
  obtain⟨hth,k0,k1,k2,k3,f0,f1,f2,f3⟩:=Ex (keep w2 hb2)
  clear keep
  cases hf:(s.drop (i+1)).findIdx? (fun c=>c==34||c==10) with
  | none =>
   rw [hf] at hn
   have Hn:=hid hn
   clear hn hf
   go_wp2
   refine B9 (r:=r) (cells:=[.int .i64 0,.int .i64 0,.int .i64 0,.string ⟨#[]⟩]) ?_ hth ?_ hbb nR (hid ?_) <;> try rfl
   rw [← hr.out,Hn.out]
   rfl
  | some n =>
   obtain⟨hnl,_,_⟩:=List.findIdx?_eq_some_iff_getElem.1 hf
   replace hn:CH.next s i=if (s.drop (i+1))[n]?=some 10 then .error 6 else if n > 400 then .error 2 else .ok (⟨3,i,0,(s.drop (i+1)).take n⟩,i+n+2):=by rw [hn,hf]
   obtain⟨ch,hch⟩:∃ ch,(s.drop (i+1))[n]?=some ch:=⟨_,lZ hnl⟩
   rw [hch] at hn
   have hgk:=byte_at _ n hnl ch hch
   generalize hR:s.drop (i+1)=R at *
   dsimp only
   have d0:decide ((n:Int)<0)=false:=by simp
   by_cases h10:ch=10
   ·subst h10
    have Hn:=hid hn
    rw [if_pos rfl] at Hn
    clear hn hf hch hR
    go_wp2
    refine B9 (r:=r) (cells:=[.int .i64 0,.int .i64 0,.int .i64 0,.string ⟨#[]⟩]) ?_ hth ?_ hbb nR (hid ?_) <;> try rfl
    rw [← hr.out,Hn.out]
    rfl
   ·have d1:((ch.toNat:Int)==10)=false:=by
     have:=CH.beq_toNat ch 10
     rw [beq_eq_false_iff_ne.2 h10] at this
     simp at this ⊢
     omega
    have Hn:=hid hn
    rw [if_neg (fun e=>h10 (Option.some.inj e))] at Hn
    clear hn hf hch hR
    by_cases h400:n > 400
    ·have d4:decide ((400:Int)<(n:Int))=true:=by simp;omega
     rw [if_pos h400] at Hn
     go_wp2
     refine B9 (r:=r) (cells:=[.int .i64 0,.int .i64 0,.int .i64 0,.string ⟨#[]⟩]) ?_ hth ?_ hbb nR (hid ?_) <;> try rfl
     rw [← hr.out,Hn.out]
     rfl
    ·have d4:decide ((400:Int)<(n:Int))=false:=by simp;omega
     rw [if_neg h400] at Hn
     go_wp2
     refine B9 (r:=r) (cells:=[.int .i64 3,.int .i64 i,.int .i64 0,.string ((ByteArray.mk R.toArray).extract 0 n)]) ?_ hth ?_ hbb nR (hid ?_) <;> try rfl
     rw [← hr.out,Hn.out]
     simp only [Cf,List.drop_zero,Nat.sub_zero]
     rfl
 have hpre:Lib.hasPrefix (s.drop (i+1)) [61]=decide (s[i+1]?=some 61):=hasPrefix_eq s (i+1)
 by_cases c78:c=7∨c=8
 ·have hn:CH.next s i=if s[i+1]?=some 61 then .ok (⟨4,i,0,(s.drop i).take 2⟩,i+2) else if c=7 then .error 3 else .ok (⟨4,i,0,(s.drop i).take 1⟩,i+1):=by
   unfold CH.next;rw [hc.out,if_neg c3,if_neg c4,if_neg c6,if_pos c78]
  have HP:=hid (Tryz.strings_HasPrefix ⟨(s.drop (i+1)).toArray⟩ ⟨#[61]⟩ w1)
  have hpre':Lib.hasPrefix (ByteArray.mk (s.drop (i+1)).toArray).data.toList (ByteArray.mk #[61]).data.toList=decide (s[i+1]?=some 61):=hpre
  rw [hpre'] at HP
  obtain⟨hth,k0,k1,k2,k3,f0,f1,f2,f3⟩:=Ex (keep w1 (Below.refl _ _))
  clear hS hS1 hBa keep hpre hpre'
  by_cases h61:s[i+1]?=some 61
  ·have hl2:i+1<s.length:=(lS h61)
   rw [if_pos h61] at hn
   rw [decide_eq_true h61] at HP
   have Hn:=hid hn
   clear hn h61
   rcases c78 with rfl|rfl
   all_goals
    go_wp2_with fail
    simp only [extract_drop]
    refine HP.out.mono ?_
    rintro e w2 ⟨rfl,hw2⟩
    subst hw2
    clear HP
    go_wp2
    refine B9 (r:=r) (cells:=[.int .i64 4,.int .i64 i,.int .i64 0,.string ((ByteArray.mk s.toArray).extract i (i+2))]) ?_ hth ?_ hb nR (hid ?_) <;> try rfl
    rw [← hr.out,Hn.out]
    simp only [Cf,Nat.add_sub_cancel_left]
    rfl
  ·rw [if_neg h61] at hn
   rw [decide_eq_false h61] at HP
   have Hn:=hid hn
   clear hn h61
   rcases c78 with rfl|rfl
   ·rw [if_pos rfl] at Hn
    go_wp2_with fail
    simp only [extract_drop]
    refine HP.out.mono ?_
    rintro e w2 ⟨rfl,hw2⟩
    subst hw2
    clear HP
    go_wp2
    refine B9 (r:=r) (cells:=[.int .i64 0,.int .i64 0,.int .i64 0,.string ⟨#[]⟩]) ?_ hth ?_ hb nR (hid ?_) <;> try rfl
    rw [← hr.out,Hn.out]
    rfl
   ·rw [if_neg (by decide)] at Hn
    go_wp2_with fail
    simp only [extract_drop]
    refine HP.out.mono ?_
    rintro e w2 ⟨rfl,hw2⟩
    subst hw2
    clear HP
    go_wp2
    refine B9 (r:=r) (cells:=[.int .i64 4,.int .i64 i,.int .i64 0,.string ((ByteArray.mk s.toArray).extract i (i+1))]) ?_ hth ?_ hb nR (hid ?_) <;> try rfl
    rw [← hr.out,Hn.out]
    simp only [Cf,Nat.add_sub_cancel_left]
    rfl
 obtain⟨hth,k0,k1,k2,k3,f0,f1,f2,f3⟩:=Ex (keep w1 (Below.refl _ _))
 clear hS hS1 hBa keep hpre
 by_cases c9:c=9
 ·subst c9
  have hn:CH.next s i=.ok (⟨4,i,0,(s.drop i).take 1⟩,i+1):=by
   unfold CH.next;rw [hc.out,if_neg c3,if_neg c4,if_neg c6,if_neg c78,if_pos rfl]
  have Hn:=hid hn
  clear hn
  go_wp2
  refine B9 (r:=r) (cells:=[.int .i64 4,.int .i64 i,.int .i64 0,.string ((ByteArray.mk s.toArray).extract i (i+1))]) ?_ hth ?_ hb nR (hid ?_) <;> try rfl
  rw [← hr.out,Hn.out]
  simp only [Cf,Nat.add_sub_cancel_left]
  rfl
 have hn:CH.next s i=.error 3:=by
  unfold CH.next;rw [hc.out,if_neg c3,if_neg c4,if_neg c6,if_neg c78,if_neg c9]
 have Hn:=hid hn
 clear hn
 have d3:((c:Int)==3)=false:=by simp;omega
 have d4:((c:Int)==4)=false:=by simp;omega
 have d6:((c:Int)==6)=false:=by simp;omega
 have d7:((c:Int)==7)=false:=by simp;omega
 have d8:((c:Int)==8)=false:=by simp;omega
 have d9:((c:Int)==9)=false:=by simp;omega
 go_wp2
 refine B9 (r:=r) (cells:=[.int .i64 0,.int .i64 0,.int .i64 0,.string ⟨#[]⟩]) ?_ hth ?_ hb nR (hid ?_) <;> try rfl
 rw [← hr.out,Hn.out]
 rfl
theorem fold_set (l:List Value):∀ (k0:Nat) (A:Array Value) (j:Nat),((l.zipIdx k0).foldl (fun cs x=>cs.setIfInBounds (1+x.2) x.1) A)[j]?=if 1+k0≤j∧j<1+k0+l.length∧j<A.size then l[j - (1+k0)]? else A[j]?:=by
 induction l with
 | nil=>intro k0 A j;simp;omega
 | cons x l ih =>
  intro k0 A j
  rw [List.zipIdx_cons,List.foldl_cons,ih]
  simp only [Array.size_setIfInBounds,List.length_cons]
  by_cases h1:j=1+k0
  ·subst h1
   rw [if_neg (by omega)]
   by_cases h2:1+k0<A.size
   ·rw [if_pos (by omega)];simp [h2]
   ·rw [if_neg (by omega)];simp [h2]
  ·rw [Array.getElem?_setIfInBounds_ne (by simpa using fun e=>h1 e.symm)]
   by_cases h2:1+(k0+1)≤j∧j<1+(k0+1)+l.length∧j<A.size
   ·rw [if_pos h2,if_pos (by omega),show j - (1+k0)=(j - (1+(k0+1)))+1 from by omega,List.getElem?_cons_succ]
   ·rw [if_neg h2,if_neg (by omega)]
noncomputable def Dl (s:List UInt8):Array Value:=Array.foldl (fun cs x=>cs.setIfInBounds (1+x.snd) x.fst) (Tryz.zeroCells216.setIfInBounds 0 (Value.string ⟨s.toArray⟩)) Bv.zipIdx 0 256
theorem zero219_size:Tryz.zeroCells216.size=257:=by kernel_rfl
theorem Dt (s:List UInt8) (j:Nat):(Dl s)[j]?=if j=0 then some (.string ⟨s.toArray⟩) else if j<257 then Bv[j - 1]? else none:=by
 have hz:=En
 have h0:=zero219_size
 unfold Dl
 rw [show (256:Nat)=Bv.zipIdx.size from by simp [hz],← Array.foldl_toList,Array.toList_zipIdx,fold_set]
 simp only [Array.size_setIfInBounds,h0,Array.length_toList,hz,Nat.add_zero,Array.getElem?_toList]
 by_cases hj:j=0
 ·subst hj
  rw [if_neg (by omega),if_pos rfl]
  simp [h0]
 ·by_cases h2:j<257
  ·rw [if_pos (by omega),if_neg hj,if_pos h2]
  ·rw [if_neg (by omega),if_neg hj,if_neg h2]
   exact Array.getElem?_eq_none (by simp [h0];omega)
theorem scanCells_size (s:List UInt8):(Dl s).size=257:=by
 have h1:=Dt s 256
 have h2:=Dt s 257
 have hx:Bv[255]?=some (Bv[255]'(by rw [En];decide)):=Array.getElem?_eq_getElem _
 rw [if_neg (by decide),if_pos (by decide),show 256 - 1=255 from rfl,hx] at h1
 rw [if_neg (by decide),if_neg (by decide)] at h2
 have:=(aZ h1)
 have:=Array.getElem?_eq_none_iff.1 h2
 omega
theorem scanCells_one (s:List UInt8):∀ v∈Dl s,v.oneCell'=true:=by
 intro v hv
 obtain⟨j,hj⟩:=Array.getElem?_of_mem hv
 rw [Dt] at hj
 split at hj
 ·cases hj;rfl
 split at hj
 ·exact classCells_one v (Array.mem_of_getElem? hj)
 ·cases hj
theorem scan_alloc (s:List UInt8) (w:World):Scan w.heap.size s (w.alloc (.cells (Dl s) 216)):=by
 refine⟨by simp,?_,fun c=>?_⟩
 ·rw [World.cell?_alloc_mark,Dt,if_pos rfl]
 ·rw [World.cell?_alloc_mark,Dt,if_neg (by omega),if_pos (by have:=UInt8.toNat_lt c;omega),Nat.add_sub_cancel_left,classCells_at]
def B8 (t:CH.Tok):List Value:=[.int .i64 t.kind,.int .i64 t.pos,.int .i64 t.n,.string ⟨t.text.toArray⟩]
def Cp (base:Nat) (w:World) (v:Value) (ts:List CH.Tok):Prop:=w.ownsRow base 172 4 v ts.length (ts.flatMap B8)
theorem tokInfo3:(prog.info? 172).map (fun i=>(i.zero,i.size,i.bytes))=some (some (.agg #[.int .i64 0,.int .i64 0,.int .i64 0,.string ⟨#[]⟩]),4,40):=by kernel_rfl
theorem append_tok {w:World} {ops:Array Oper} {rest:List Oper} {o:Oper} {a:Act} {Q:Exit→Act→World→Prop} (hgd:o.guard=none) (s x:Operand)
  (ho:o.op=.call { callee:=.builtin .append,args:=#[s,x],argTypes:=#[168,168] })
  (base:Nat) (v:Value) (ts:List CH.Tok) (hs:a.eval s=v) (hown:Cp base w v ts) (g c:Nat) (t:CH.Tok) (hx:a.eval x=.slice (some ⟨g,0,none⟩) 1 c)
  (hcell:∀ j u,(B8 t)[j]?=some u→w.cell? ⟨g,j,none⟩=some u) (hlen:ts.length≤1099511627) (hbase:base≤w.heap.size)
  (h:∀ v' w',Cp base w' v' (ts++[t])→w.grownBy w' v.ownBlock→wpList prog ops Q rest (a.put o.dst v') w') :
  wpList prog ops Q (o::rest) a w:=by
 obtain⟨i,hi,hz0,hz1,hz2⟩:=info_parts tokInfo3
 refine wpList_append_own_at w hgd s x 168 ho base 172 i _ 4 40 underlying168 hi hz0 hz1 hz2 rfl (by decide) v ts.length _ hs hown ⟨g,0,none⟩ 1 c (B8 t) hx rfl ?_ ?_ ?_ ?_ hbase ?_
 ·intro j u hj
  rw [show (⟨g,0,none⟩:Addr).add j=⟨g,j,none⟩ from by simp [Addr.add];exact fun e=>e.symm]
  exact hcell j u hj
 ·intro u hu;simp [B8] at hu;rcases hu with rfl|rfl|rfl|rfl <;> rfl
 ·unfold maxLen;omega
 ·omega
 ·intro v' w' h1 h2 _ h4
  exact h v' w' (by unfold Cp;simpa using h1) h2
theorem Cp.form {base:Nat} {w:World} {v:Value} {ts:List CH.Tok} (h:Cp base w v ts):∃ a cap,v=.slice a ts.length cap∧ts.length≤cap∧cap≤9223372036854775807:=by
 obtain⟨hlen,⟨rfl,h0⟩|⟨g,cap,cur,rfl,hb,hg,hn,hc,hsz,htk⟩⟩:=h
 ·exact⟨none,0,by rw [h0],by omega,by omega⟩
 ·exact⟨_,cap,rfl,hn,by unfold maxLen at hc;omega⟩
theorem Cp.mono {base base':Nat} {w:World} {v:Value} {ts:List CH.Tok} (h:Cp base w v ts) (hb:base'≤base):Cp base' w v ts:=by
 obtain⟨hlen,⟨h0,h1⟩|⟨g,cap,cur,h1,hb',h2⟩⟩:=h
 ·exact⟨hlen,.inl ⟨h0,h1⟩⟩
 ·exact⟨hlen,.inr ⟨g,cap,cur,h1,nT hb hb',h2⟩⟩
theorem lexNext_err (s:List UInt8) (i e:Nat) (h:CH.next s i=.error e):1≤e:=by
 unfold CH.next at h
 split at h
 ·split at h
  ·cases h;decide
  ·cases h
 split at h
 ·split at h
  ·cases h;decide
  ·cases h
 split at h
 ·split at h
  ·cases h;decide
  ·split at h
   ·cases h;decide
   split at h
   ·cases h;decide
   ·cases h
 split at h
 ·split at h
  ·cases h
  ·split at h
   ·cases h;decide
   ·cases h
 split at h
 ·cases h
 ·cases h;decide
theorem ownsRow_block {base:Nat} {w:World} {e:TypeId} {size:Nat} {v:Value} {n:Nat} {xs:List Value} (h:w.ownsRow base e size v n xs):∀ j,v.ownBlock=some j→base≤j:=by
 intro j hj
 obtain⟨hlen,⟨rfl,h0⟩|⟨g,cap,cur,rfl,hb,hg,rest⟩⟩:=h
 ·cases hj
 ·simp only [Value.ownBlock,Option.some.injEq] at hj
  subst hj
  exact hb
theorem Scan.low {b B:Nat} {s:List UInt8} {w w':World} (h:Scan b s w) (hb:Below B w w') (hlt:b<B):Scan b s w' :=
 ⟨nL h.lt hb.size,(hb.cell (p:=⟨b,0,none⟩) hlt).trans h.text,fun c=>(hb.cell (p:=⟨b,1+c.toNat,none⟩) hlt).trans (h.cls c)⟩
def LexRet (w:World) (r:Except (Nat × Nat) (List CH.Tok)) (e:Ending) (w':World):Prop :=
 Below w.heap.size w w'∧match r with
  | .error x=>e=.returned (.tuple #[.slice none 0 0,.int .i64 x.1,.int .i64 x.2])
  | .ok ts=>∃ v,e=.returned (.tuple #[v,.int .i64 0,.int .i64 0])∧Cp w.heap.size w' v ts
theorem lex_any (s:List UInt8) (w:World) (hs2:s.length≤20000) :
  Calls prog 95 #[.string ⟨s.toArray⟩] w (LexRet w (CH.lex s)):=by
 obtain⟨r,hr⟩:∃ r,Hid (CH.lex s=r):=⟨_,hid rfl⟩
 rw [hr.out]
 have d:decide ((20000:Int)<(s.length:Int))=false:=by simp;omega
 have A:=hid (classes_any w)
 have hz:=scanCells_size s
 have hFs:(Array.foldl (fun cs x=>cs.setIfInBounds (1+x.snd) x.fst) (Tryz.zeroCells216.setIfInBounds 0 (Value.string ⟨s.toArray⟩)) Bv.zipIdx 0 256).size=257:=hz
 have hsc:∀ w1:World,(storeCells ⟨w1.heap.size,0,none⟩ (Array.foldl (fun cs x=>cs.setIfInBounds (1+x.snd) x.fst) (Tryz.zeroCells216.setIfInBounds 0 (Value.string ⟨s.toArray⟩)) Bv.zipIdx 0 256).toList).run prog (w1.alloc (.cells Tryz.zeroCells216 216))=.ok () (w1.alloc (.cells (Dl s) 216)):=fun w1 =>
  run_storeCells_new w1 216 Tryz.zeroCells216 (Dl s) (by rw [hz];kernel_rfl) (by rw [hz,zero219_size]) (Array.all_eq_true'.2 (scanCells_one s))
 have hscan:=fun w1=>scan_alloc s w1
 have z:=En
 generalize hSC:Dl s=SC at *
 generalize hCC:Bv=cc at *
 clear hSC hCC
 go_enter func95,ntmps95
 go_wp2_with fail
 refine A.out.mono ?_
 clear A
 rintro e w1 ⟨rfl,hb1⟩
 go_wp2_with fail
 generalize Array.foldl (fun cs x=>cs.setIfInBounds (1+x.snd) x.fst) (Tryz.zeroCells216.setIfInBounds 0 (Value.string ⟨s.toArray⟩)) cc.zipIdx 0 256=FF at *
 have hS:=hscan w1
 have hb2:=hb1.alloc hb1.size (.cells SC 216)
 have hsz:w1.heap.size<(w1.alloc (.cells SC 216)).heap.size:=by simp
 generalize w1.alloc (.cells SC 216)=W at *
 clear hscan hsc hFs hz z
 refine (gap_any w1.heap.size 0 s W (by omega) (Nat.zero_le _) hS).mono ?_
 rintro e w2 ⟨rfl,hb3⟩
 have hB2:Below w.heap.size w w2:=hb2.trans (hb3.mono hb2.size)
 have hS2:=hS.below hb3
 have hwB:=hb1.size
 have hg0:=CH.gap_le s 0 (Nat.zero_le _)
 obtain⟨k0,hk0⟩:∃ k,Hid (CH.gap s 0=k):=⟨_,hid rfl⟩
 rw [hk0.out] at hg0 ⊢
 have hl0:Hid (CH.lexF s (s.length+1) k0 []=r):=hid (by rw [← hr.out,← hk0.out];rfl)
 clear hS hb2 hb3 hsz hb1 hk0 hr
 generalize hBB:w1.heap.size=B at *
 clear hBB
 go_wp2_with fail
 go_loopw [6,7] (fun ov iv wr=>∃ (k f:Nat) (ts:List CH.Tok),k≤s.length∧iv=.int .i64 k∧Hid (CH.lexF s f k ts=r)∧s.length<f+k∧ts.length≤k∧Cp (B+1) wr ov ts∧Scan B s wr∧Below w.heap.size w wr) (fun _ iv _=>s.length - (RowKit.intOf iv).toNat)
 case atStart=>exact⟨k0,s.length+1,[],hg0,rfl,hl0,by omega,Nat.zero_le _,World.ownsRow_nil _ _ _ _,hS2,hB2⟩
 case round =>
  obtain⟨k,f,ts,hk,rfl,hl,hf,hts,hO,hSr,hBr⟩:=hrel
  obtain⟨av,cv,rfl,hcv1,hcv2⟩:=hO.form
  by_cases hlt:k<s.length
  ·have d1:decide ((k:Int)<(s.length:Int))=true:=by simp;omega
   obtain⟨f',rfl⟩:∃ f',f=f'+1:=⟨f - 1,by omega⟩
   have A:=hid (lexNext_any B k s wr (by omega) hlt hSr)
   cases hn:CH.next s k with
   | error e =>
    have he:=lexNext_err s k e hn
    rw [hn] at A
    have hl':r=.error (e,k):=by rw [← hl.out];unfold CH.lexF;rw [if_pos hlt,hn]
    clear hl hn
    have z0:((e:Int)==0)=false:=by simp;omega
    have z1:((e:Int) != 0)=true:=by simp;omega
    go_wp2_with fail
    refine A.out.mono ?_
    rintro e2 w3 ⟨rfl,hb3⟩
    clear A
    dsimp only [nextV]
    go_wp2
    refine bodyPost_ret (results_tmp3 rfl _ _ _) rfl ?_
    refine⟨(hBr.trans (hb3.mono hBr.size)).alloc (nT hBr.size hb3.size) _,?_⟩
    rw [hl'];rfl
   | ok x =>
    obtain⟨t,j⟩:=x
    obtain⟨hj1,hj2⟩:=CH.next_ok s k hlt t j hn
    rw [hn] at A
    go_wp2_with fail
    refine A.out.mono ?_
    rintro e2 w3 ⟨rfl,hb3⟩
    clear A
    dsimp only [nextV,tokV]
    by_cases h5:ts.length=5000
    ·have z0:((ts.length:Int)==5000)=true:=by simp;omega
     have hl':r=.error (2,k):=by
      rw [← hl.out]
      conv=>lhs;unfold CH.lexF;rw [if_pos hlt,hn]
      dsimp only
      rw [if_pos h5]
     clear hl hn hO hSr
     go_wp2
     refine bodyPost_ret (results_tmp3 rfl _ _ _) rfl ?_
     refine⟨(hBr.trans (hb3.mono hBr.size)).alloc (nT hBr.size hb3.size) _,?_⟩
     rw [hl'];rfl
    ·have z0:((ts.length:Int)==5000)=false:=by simp;omega
     have hl':CH.lexF s f' (CH.gap s j) (ts++[t])=r:=by
      rw [← hl.out]
      conv=>rhs;unfold CH.lexF;rw [if_pos hlt,hn]
      dsimp only
      rw [if_neg h5]
     clear hl hn
     have hb3':Below w.heap.size w w3:=hBr.trans (hb3.mono hBr.size)
     have hS3:=hSr.below hb3
     have hO3:Cp (B+1) w3 (.slice av ts.length cv) ts:=ownsRow_below hO hb3
     have hB3:=hS3.lt
     clear hO hSr hb3
     have hA:Below w3.heap.size w3 ((w3.alloc (.cells (B8 t).toArray 172)).alloc (.cells (B8 t).toArray 172)):=((Below.refl _ w3).alloc nR _).alloc (by simp) _
     have hO4:Cp (B+1) ((w3.alloc (.cells (B8 t).toArray 172)).alloc (.cells (B8 t).toArray 172)) (.slice av ts.length cv) ts:=World.ownsRow.alloc (World.ownsRow.alloc hO3 _) _
     have hcell:∀ j u,(B8 t)[j]?=some u→((w3.alloc (.cells (B8 t).toArray 172)).alloc (.cells (B8 t).toArray 172)).cell? ⟨w3.heap.size+1,j,none⟩=some u:=fun j u hj=>by
      have:=World.cell?_alloc_mark (w3.alloc (.cells (B8 t).toArray 172)) (B8 t).toArray 172 (0,0) j
      simpa using this.trans (by simpa using hj)
     have hsA:B+1≤((w3.alloc (.cells (B8 t).toArray 172)).alloc (.cells (B8 t).toArray 172)).heap.size:=by simp;omega
     have hblk:=ownsRow_block hO4
     go_wp2_with (refine append_tok rfl _ _ rfl (B+1) _ ts rfl hO4 (w3.heap.size+1) 1 t rfl hcell (by omega) hsA ?_;intro v5 w5 hO5 hg5;have hb5:=hid ((Below.refl (B+1) _).grown hg5 hsA hblk);clear hg5)
     have hb5':=hb5.out
     have hS5:Scan B s w5:=(hS3.below hA).low hb5' (Nat.lt_succ_self _)
     have hb6:Below w.heap.size w w5:=(hb3'.trans (hA.mono hb3'.size)).trans (hb5'.mono (by omega))
     refine (gap_any B j s w5 (by omega) hj2 hS5).mono ?_
     rintro e3 w6 ⟨rfl,hb7⟩
     have hO6:Cp (B+1) w6 v5 (ts++[t]):=ownsRow_below hO5 hb7
     have hS6:=hS5.below hb7
     have hb8:=hb6.trans (hb7.mono hb6.size)
     have hg1:=CH.gap_ge s j hj2
     have hg2:=CH.gap_le s j hj2
     have HL:=hid hl'
     clear hb5 hb5' hS5 hb6 hb7 hO5 hO4 hO3 hS3 hA hcell hsA hblk hb3' hl'
     generalize hG:CH.gap s j=G at *
     go_wp2
     go_roundw
     case rel=>exact⟨G,f',ts++[t],hg2,rfl,HL,by omega,by simp;omega,hO6,hS6,hb8⟩
     case measure=>simp [RowKit.intOf];omega
  ·have d1:decide ((k:Int)<(s.length:Int))=false:=by simp;omega
   have hl':r=.ok ts:=by
    rw [← hl.out]
    cases f with
    | zero=>rfl
    | succ f'=>unfold CH.lexF;rw [if_neg hlt]
   clear hl
   go_wp2
   refine bodyPost_ret (results_tmp3 rfl _ _ _) rfl ?_
   refine⟨hBr,?_⟩
   rw [hl']
   exact⟨_,rfl,hO.mono (by omega)⟩
theorem Cp.cellAt {base:Nat} {w:World} {a:Option Addr} {n cap:Nat} {t:CH.Tok} (h:Cp base w (.slice a n cap) [t]) :
  ∃ g,a=some ⟨g,0,none⟩∧w.cell? ⟨g,0,none⟩=some (.int .i64 t.kind)∧w.cell? ⟨g,3,none⟩=some (.string ⟨t.text.toArray⟩):=by
 have h':=h
 obtain⟨hlen,⟨e,h0⟩|⟨g,cap',cur,e,hb,hg,hn,hc,hsz,htk⟩⟩:=h
 ·simp at h0
 ·injection e with e1 e2 e3
  subst e1;subst e2;subst e3
  refine⟨g,rfl,?_,?_⟩
  ·exact World.ownsRow.cellAt h' 0 (by simp)
  ·exact World.ownsRow.cellAt h' 3 (by simp)
theorem Cm (a b:List UInt8):((⟨a.toArray⟩:ByteArray)==⟨b.toArray⟩)=(a==b):=by
 show (a.toArray==b.toArray)=(a==b)
 simp
theorem lexF_err (s:List UInt8):∀ (f i:Nat) (out:List CH.Tok) (x:Nat × Nat),CH.lexF s f i out=.error x→1≤x.1:=by
 intro f
 induction f with
 | zero=>intro i out x h;cases h
 | succ f ih =>
  intro i out x h
  unfold CH.lexF at h
  split at h
  ·split at h
   ·rename_i e he
    cases h
    exact lexNext_err s i e he
   ·split at h
    ·cases h;exact (by decide:1≤2)
    ·exact ih _ _ _ h
  ·cases h
theorem lex_err (s:List UInt8) (x:Nat × Nat) (h:CH.lex s=.error x):1≤x.1:=lexF_err s _ _ _ _ h
theorem chainIdent_any (s:List UInt8) (w:World) (hs:s.length≤20000) :
  Calls prog 42 #[.string ⟨s.toArray⟩] w (Ret w (.bool (CH.ident s))):=by
 obtain⟨r,hr⟩:∃ r,CH.ident s=r:=⟨_,rfl⟩
 rw [hr]
 unfold CH.ident at hr
 rw [decide_eq_true hs,Bool.true_and] at hr
 replace hr:=hid hr
 have A:=hid (lex_any s w hs)
 go_enter func42,ntmps42
 go_wp2_with fail
 refine A.out.mono ?_
 clear A
 rintro e w1 ⟨hb,hm⟩
 cases hl:CH.lex s with
 | error x =>
  have hr':r=false:=by rw [← hr.out,hl]
  clear hr
  rw [hl] at hm
  dsimp only at hm
  subst hm
  have hx:=lex_err s x hl
  have z0:((x.1:Int)==0)=false:=by simp;omega
  clear hl
  go_wp2
  go_ret
  exact⟨by rw [hr'];rfl,hb⟩
 | ok ts =>
  rw [hl] at hm
  obtain⟨v,rfl,hO⟩:=hm
  obtain⟨av,cv,rfl,hc1,hc2⟩:=hO.form
  replace hr:=hid ((congrArg (fun x=>match x with|.ok [t]=>t.kind==1&&t.text==s|_=>false) hl).symm.trans hr.out)
  clear hl
  rcases ts with _|⟨t,_|⟨t2,ts⟩⟩
  ·have hr':r=false:=hr.out.symm
   clear hr hO
   go_wp2
   go_ret
   exact⟨by rw [hr'];rfl,hb⟩
  ·obtain⟨g,rfl,k0,k3⟩:=hO.cellAt
   have hsb:=Cm t.text s
   by_cases hk:t.kind=1
   ·have z1:((t.kind:Int)==1)=true:=by simp;omega
    have hr':r=(t.text==s):=by rw [← hr.out];show (t.kind==1&&t.text==s)=_;rw [beq_iff_eq.2 hk];rfl
    clear hr
    go_wp2
    go_ret
    exact⟨by rw [hr',← hsb];rfl,hb⟩
   ·have z1:((t.kind:Int)==1)=false:=by simp;omega
    have hr':r=false:=by rw [← hr.out];show (t.kind==1&&t.text==s)=_;rw [beq_eq_false_iff_ne.2 hk];rfl
    clear hr
    go_wp2
    go_ret
    exact⟨by rw [hr'];rfl,hb⟩
  ·have z1:(((t::t2::ts).length:Int)==1)=false:=by simp;omega
   generalize hn:(t::t2::ts).length=n at *
   have hr':r=false:=hr.out.symm
   clear hO hr
   go_wp2
   go_ret
   exact⟨by rw [hr'];rfl,hb⟩
theorem listIdent_any (s:List UInt8) (w:World) (hs:s.length≤20000) :
  Calls prog 123 #[.string ⟨s.toArray⟩] w (Ret w (.bool (CH.ident s))):=by
 obtain⟨r,hr⟩:∃ r,CH.ident s=r:=⟨_,rfl⟩
 rw [hr]
 unfold CH.ident at hr
 rw [decide_eq_true hs,Bool.true_and] at hr
 replace hr:=hid hr
 have A:=hid (lex_any s w hs)
 go_enter func123,ntmps123
 go_wp2_with fail
 refine A.out.mono ?_
 clear A
 rintro e w1 ⟨hb,hm⟩
 cases hl:CH.lex s with
 | error x =>
  have hr':r=false:=by rw [← hr.out,hl]
  clear hr
  rw [hl] at hm
  dsimp only at hm
  subst hm
  have hx:=lex_err s x hl
  have z0:((x.1:Int)==0)=false:=by simp;omega
  clear hl
  go_wp2
  go_ret
  exact⟨by rw [hr'];rfl,hb⟩
 | ok ts =>
  rw [hl] at hm
  obtain⟨v,rfl,hO⟩:=hm
  obtain⟨av,cv,rfl,hc1,hc2⟩:=hO.form
  replace hr:=hid ((congrArg (fun x=>match x with|.ok [t]=>t.kind==1&&t.text==s|_=>false) hl).symm.trans hr.out)
  clear hl
  rcases ts with _|⟨t,_|⟨t2,ts⟩⟩
  ·have hr':r=false:=hr.out.symm
   clear hr hO
   go_wp2
   go_ret
   exact⟨by rw [hr'];rfl,hb⟩
  ·obtain⟨g,rfl,k0,k3⟩:=hO.cellAt
   have hsb:=Cm t.text s
   by_cases hk:t.kind=1
   ·have z1:((t.kind:Int)==1)=true:=by simp;omega
    have hr':r=(t.text==s):=by rw [← hr.out];show (t.kind==1&&t.text==s)=_;rw [beq_iff_eq.2 hk];rfl
    clear hr
    go_wp2
    go_ret
    exact⟨by rw [hr',← hsb];rfl,hb⟩
   ·have z1:((t.kind:Int)==1)=false:=by simp;omega
    have hr':r=false:=by rw [← hr.out];show (t.kind==1&&t.text==s)=_;rw [beq_eq_false_iff_ne.2 hk];rfl
    clear hr
    go_wp2
    go_ret
    exact⟨by rw [hr'];rfl,hb⟩
  ·have z1:(((t::t2::ts).length:Int)==1)=false:=by simp;omega
   generalize hn:(t::t2::ts).length=n at *
   have hr':r=false:=hr.out.symm
   clear hO hr
   go_wp2
   go_ret
   exact⟨by rw [hr'];rfl,hb⟩
theorem formulaIdent_any (s:List UInt8) (w:World) (hs:s.length≤20000) :
  Calls prog 178 #[.string ⟨s.toArray⟩] w (Ret w (.bool (CH.ident s))):=by
 obtain⟨r,hr⟩:∃ r,CH.ident s=r:=⟨_,rfl⟩
 rw [hr]
 unfold CH.ident at hr
 rw [decide_eq_true hs,Bool.true_and] at hr
 replace hr:=hid hr
 have A:=hid (lex_any s w hs)
 go_enter func178,ntmps178
 go_wp2_with fail
 refine A.out.mono ?_
 clear A
 rintro e w1 ⟨hb,hm⟩
 cases hl:CH.lex s with
 | error x =>
  have hr':r=false:=by rw [← hr.out,hl]
  clear hr
  rw [hl] at hm
  dsimp only at hm
  subst hm
  have hx:=lex_err s x hl
  have z0:((x.1:Int)==0)=false:=by simp;omega
  clear hl
  go_wp2
  go_ret
  exact⟨by rw [hr'];rfl,hb⟩
 | ok ts =>
  rw [hl] at hm
  obtain⟨v,rfl,hO⟩:=hm
  obtain⟨av,cv,rfl,hc1,hc2⟩:=hO.form
  replace hr:=hid ((congrArg (fun x=>match x with|.ok [t]=>t.kind==1&&t.text==s|_=>false) hl).symm.trans hr.out)
  clear hl
  rcases ts with _|⟨t,_|⟨t2,ts⟩⟩
  ·have hr':r=false:=hr.out.symm
   clear hr hO
   go_wp2
   go_ret
   exact⟨by rw [hr'];rfl,hb⟩
  ·obtain⟨g,rfl,k0,k3⟩:=hO.cellAt
   have hsb:=Cm t.text s
   by_cases hk:t.kind=1
   ·have z1:((t.kind:Int)==1)=true:=by simp;omega
    have hr':r=(t.text==s):=by rw [← hr.out];show (t.kind==1&&t.text==s)=_;rw [beq_iff_eq.2 hk];rfl
    clear hr
    go_wp2
    go_ret
    exact⟨by rw [hr',← hsb];rfl,hb⟩
   ·have z1:((t.kind:Int)==1)=false:=by simp;omega
    have hr':r=false:=by rw [← hr.out];show (t.kind==1&&t.text==s)=_;rw [beq_eq_false_iff_ne.2 hk];rfl
    clear hr
    go_wp2
    go_ret
    exact⟨by rw [hr'];rfl,hb⟩
  ·have z1:(((t::t2::ts).length:Int)==1)=false:=by simp;omega
   generalize hn:(t::t2::ts).length=n at *
   have hr':r=false:=hr.out.symm
   clear hO hr
   go_wp2
   go_ret
   exact⟨by rw [hr'];rfl,hb⟩
def keyBytes:List ByteArray:=[⟨([111,114]:List UInt8).toArray⟩,⟨([97,110,100]:List UInt8).toArray⟩,⟨([110,111,116]:List UInt8).toArray⟩,⟨([116,114,117,101]:List UInt8).toArray⟩,⟨([102,97,108,115,101]:List UInt8).toArray⟩]
theorem containsS_key (s:List UInt8):Lib.containsS (keyBytes.take 5) ⟨s.toArray⟩=CH.isKey s:=by
 rw [Bool.eq_iff_iff,Lib.containsS_iff]
 simp [keyBytes,CH.isKey]
theorem formulaKey_any (s:List UInt8) (w:World):Calls prog 131 #[.string ⟨s.toArray⟩] w (Ret w (.bool (CH.isKey s))):=by
 have A:=fun t=>Tryz.slices_Contains_string w.heap.size 0 5 5 keyBytes ⟨s.toArray⟩ (w.alloc (.cells #[.string ⟨([111,114]:List UInt8).toArray⟩,.string ⟨([97,110,100]:List UInt8).toArray⟩,.string ⟨([110,111,116]:List UInt8).toArray⟩,.string ⟨([116,114,117,101]:List UInt8).toArray⟩,.string ⟨([102,97,108,115,101]:List UInt8).toArray⟩] t)) (by decide) (by decide) (fun j hj=>by
  rw [Nat.zero_add,World.cell?_alloc_mark]
  have:j<5:=hj
  rcases (by omega:j=0∨j=1∨j=2∨j=3∨j=4) with rfl|rfl|rfl|rfl|rfl <;> rfl)
 rw [containsS_key] at A
 have A:=hid A
 go_enter func131,ntmps131
 go_wp2_with fail
 refine (A.out _).mono ?_
 rintro e w1 ⟨rfl,hw1⟩
 rw [hw1]
 clear A hw1 w1
 go_wp2
 go_ret
 exact⟨rfl,(Below.refl _ w).alloc nR _⟩
theorem nodeFormed_any (op cmp n:Int) (name:List UInt8) (ak:Option Addr) (nk ck:Nat) (w:World) (hn:name.length≤20000) :
  Calls prog 130 #[.agg #[.int .i64 op,.string ⟨name.toArray⟩,.int .i64 cmp,.int .i64 n,.slice ak nk ck]] w (Ret w (.bool (CH.nodeOk op name cmp n nk))):=by
 obtain⟨r,hr⟩:∃ r,CH.nodeOk op name cmp n nk=r:=⟨_,rfl⟩
 rw [hr]
 unfold CH.nodeOk at hr
 have hB0:=fun o=>(Below.refl _ w).alloc nR o
 have hW:=fun o=>heap_alloc_last w o
 by_cases h3:op=3
 ·subst h3
  rw [if_pos rfl] at hr
  have I:=fun w'=>formulaIdent_any name w' hn
  have Y:=fun w'=>formulaKey_any name w'
  obtain⟨bi,ei⟩:∃ b,CH.ident name=b:=⟨_,rfl⟩
  obtain⟨by_,ey⟩:∃ b,CH.isKey name=b:=⟨_,rfl⟩
  rw [ei] at I hr
  rw [ey] at Y hr
  replace I:=hid I
  replace Y:=hid Y
  clear ei ey
  by_cases h0:nk=0
  ·have d0:((nk:Int)==0)=true:=by simp;omega
   by_cases h1:1≤cmp
   ·have d1:decide (1≤cmp)=true:=by simpa using h1
    by_cases h6:cmp≤6
    ·have d6:decide (cmp≤6)=true:=by simpa using h6
     have hr1:r=(bi&&!by_):=by rw [← hr,d1,d6,beq_iff_eq.2 h0];rfl
     clear hr
     subst hr1
     go_enter func130,ntmps130
     go_wp2_with fail
     refine (I.out _).mono ?_
     rintro e w1 ⟨rfl,hb1⟩
     have hB1:Below w.heap.size w w1:=(hB0 _).trans (hb1.mono (by simp))
     have hblk:=(hb1.block w.heap.size (by simp)).trans (hW _)
     have k1:w1.cell? ⟨w.heap.size,1,none⟩=some (.string ⟨name.toArray⟩):=cell_of hblk 1
     clear I hb1 hW hB0
     cases bi with
     | false =>
      clear Y
      go_wp2
      go_ret
      exact⟨rfl,hB1⟩
     | true =>
      go_wp2_with fail
      refine (Y.out _).mono ?_
      rintro e w2 ⟨rfl,hb2⟩
      clear Y
      go_wp2
      go_ret
      exact⟨rfl,hB1.trans (hb2.mono hB1.size)⟩
    ·have d6:decide (cmp≤6)=false:=by simpa using h6
     have hr1:r=false:=by rw [← hr,d6];simp
     clear hr I Y
     subst hr1
     go_enter func130,ntmps130
     go_wp2
     go_ret
     exact⟨rfl,hB0 _⟩
   ·have d1:decide (1≤cmp)=false:=by simpa using h1
    have hr1:r=false:=by rw [← hr,d1];simp
    clear hr I Y
    subst hr1
    go_enter func130,ntmps130
    go_wp2
    go_ret
    exact⟨rfl,hB0 _⟩
  ·have d0:((nk:Int)==0)=false:=by simp;omega
   have hr1:r=false:=by rw [← hr,beq_eq_false_iff_ne.2 h0];rfl
   clear hr I Y
   subst hr1
   go_enter func130,ntmps130
   go_wp2
   go_ret
   exact⟨rfl,hB0 _⟩
 rw [if_neg h3] at hr
 have z3:(op==3)=false:=by simpa using h3
 have te:=Ck name
 by_cases hz:(name != []||cmp != 0||n != 0)=true
 ·rw [if_pos hz] at hr
  subst hr
  cases hx:(name != []) with
  | true =>
   rw [hx] at te
   replace te:List.isEmpty name=false:=te
   go_enter func130,ntmps130
   go_wp2
   go_ret
   exact⟨rfl,hB0 _⟩
  | false =>
   rw [hx] at te hz
   replace te:List.isEmpty name=true:=te
   cases hy:(cmp != 0) with
   | true =>
    go_enter func130,ntmps130
    go_wp2
    go_ret
    exact⟨rfl,hB0 _⟩
   | false =>
    rw [hy] at hz
    replace hz:(n != 0)=true:=hz
    go_enter func130,ntmps130
    go_wp2
    go_ret
    exact⟨rfl,hB0 _⟩
 ·rw [if_neg hz] at hr
  have hz':(name != []||cmp != 0||n != 0)=false:=by simpa using hz
  simp only [Bool.or_eq_false_iff] at hz'
  obtain⟨⟨hx,hy⟩,hnn⟩:=hz'
  rw [hx] at te
  replace te:List.isEmpty name=true:=te
  clear hz
  by_cases o1:op=1
  ·subst o1
   have hr1:r=((nk:Int)==0):=by rw [← hr,if_pos (.inl rfl),Bool.eq_iff_iff];simp
   clear hr
   subst hr1
   go_enter func130,ntmps130
   go_wp2
   go_ret
   exact⟨rfl,hB0 _⟩
  by_cases o2:op=2
  ·subst o2
   have hr1:r=((nk:Int)==0):=by rw [← hr,if_pos (.inr rfl),Bool.eq_iff_iff];simp
   clear hr
   subst hr1
   go_enter func130,ntmps130
   go_wp2
   go_ret
   exact⟨rfl,hB0 _⟩
  rw [if_neg (by omega)] at hr
  by_cases o4:op=4
  ·subst o4
   have hr1:r=((nk:Int)==1):=by rw [← hr,if_pos rfl,Bool.eq_iff_iff];simp;omega
   clear hr
   subst hr1
   go_enter func130,ntmps130
   go_wp2
   go_ret
   exact⟨rfl,hB0 _⟩
  rw [if_neg o4] at hr
  have y1:(op==1)=false:=by simpa using o1
  have y2:(op==2)=false:=by simpa using o2
  have y4:(op==4)=false:=by simpa using o4
  have hd:decide (2≤nk)=decide ((2:Int)≤(nk:Int)):=decide_eq_decide.2 (by omega)
  rw [hd] at hr
  clear hd
  cases y5:(op==5) with
  | true =>
   rw [y5] at hr
   subst hr
   go_enter func130,ntmps130
   go_wp2
   go_ret
   exact⟨rfl,hB0 _⟩
  | false =>
   rw [y5] at hr
   cases y6:(op==6) with
   | true =>
    rw [y6] at hr
    subst hr
    go_enter func130,ntmps130
    go_wp2
    go_ret
    exact⟨rfl,hB0 _⟩
   | false =>
    rw [y6] at hr
    subst hr
    go_enter func130,ntmps130
    go_wp2
    go_ret
    exact⟨rfl,hB0 _⟩
def symCells:Array Value:=#[.string ⟨#[]⟩,.string ⟨([61]:List UInt8).toArray⟩,.string ⟨([33,61]:List UInt8).toArray⟩,.string ⟨([60]:List UInt8).toArray⟩,.string ⟨([60,61]:List UInt8).toArray⟩,.string ⟨([62]:List UInt8).toArray⟩,.string ⟨([62,61]:List UInt8).toArray⟩]
theorem symbols_any (w:World):Calls prog 181 #[] w (Ret w (.agg symCells)):=by
 go_enter func181,ntmps181
 go_wp2
 refine bodyPost_ret (C9 (p:=0) (ty:=199) rfl _ _ ⟨w.heap.size,0,none⟩ _ rfl (run_loadVar_mid _ w.heap.size 0 199 symCells.toList _ (fun j v hv=>?_) underlying199 rfl (by kernel_rfl))) rfl ?_
 ·rw [Nat.zero_add,World.cell?_alloc_mark]
  have hv':symCells[j]?=some v:=by simpa using hv
  exact hv'
 ·exact⟨rfl,(Below.refl _ w).alloc nR _⟩
theorem equalNil_any (ak:Option Addr) (nk ck:Nat) (w:World) (hck:nk≤9223372036854775807) :
  Calls prog 172 #[.slice ak nk ck,.slice none 0 0,.func (.func 122) #[] #[]] w (Ret w (.bool (nk==0))):=by
 by_cases h:nk=0
 ·subst h
  go_enter func172,ntmps172
  go_wp2
  go_loopw [17] (fun iv wr=>iv=.int .i64 0∧wr=w) (fun _ _=>0)
  case atStart=>exact⟨rfl,rfl⟩
  case round =>
   obtain⟨rfl,rfl⟩:=hrel
   go_wp2
   go_ret
   exact⟨rfl,Below.refl _ _⟩
 ·have hb:((nk:Int) != 0)=true:=by simp;omega
  have e:(nk==0)=false:=by simpa using h
  rw [e]
  go_enter func172,ntmps172
  go_wp2
  go_ret
  exact⟨rfl,Below.refl _ _⟩
theorem formulaSameZero_any (op cmp n:Int) (name:List UInt8) (ak:Option Addr) (nk ck:Nat) (w:World) (hck:nk≤9223372036854775807) :
  Calls prog 122 #[.agg #[.int .i64 op,.string ⟨name.toArray⟩,.int .i64 cmp,.int .i64 n,.slice ak nk ck],.agg #[.int .i64 0,.string ⟨#[]⟩,.int .i64 0,.int .i64 0,.slice none 0 0]] w (Ret w (.bool (op==0&&name==[]&&cmp==0&&n==0&&nk==0))):=by
 have E:=fun W=>equalNil_any ak nk ck W hck
 have te:=Ck name
 obtain⟨b1,h1⟩:∃ b,(op==0)=b:=⟨_,rfl⟩
 obtain⟨b2,h2⟩:∃ b,(name==[])=b:=⟨_,rfl⟩
 obtain⟨b3,h3⟩:∃ b,(cmp==0)=b:=⟨_,rfl⟩
 obtain⟨b4,h4⟩:∃ b,(n==0)=b:=⟨_,rfl⟩
 obtain⟨b5,h5⟩:∃ b,(nk==0)=b:=⟨_,rfl⟩
 have t2:List.isEmpty name=b2:=by rw [← h2];cases name <;> rfl
 rw [h1,h2,h3,h4,h5]
 rw [h5] at E
 replace E:=hid E
 clear h5 h2 te
 have hB0:=fun o o2=>((Below.refl _ w).alloc nR o).alloc (by simp) o2
 cases b1 with
 | false =>
  clear E
  go_enter func122,ntmps122
  go_wp2
  go_ret
  exact⟨rfl,hB0 _ _⟩
 | true =>
  cases b2 with
  | false =>
   clear E
   go_enter func122,ntmps122
   go_wp2
   go_ret
   exact⟨rfl,hB0 _ _⟩
  | true =>
   cases b3 with
   | false =>
    clear E
    go_enter func122,ntmps122
    go_wp2
    go_ret
    exact⟨rfl,hB0 _ _⟩
   | true =>
    cases b4 with
    | false =>
     clear E
     go_enter func122,ntmps122
     go_wp2
     go_ret
     exact⟨rfl,hB0 _ _⟩
    | true =>
     go_enter func122,ntmps122
     go_wp2_with fail
     refine (E.out _).mono ?_
     rintro e w1 ⟨rfl,hb1⟩
     clear E
     go_wp2
     go_ret
     exact⟨rfl,(hB0 _ _).trans (hb1.mono (by simp;omega))⟩
end
section
open Go.Lib Go.Proofs.Tryz Go.RowKit
theorem bits_or32 (ch:UInt8):bits BinOp.or IntKind.u8 (ch.toNat:Int) 32=(((ch ||| 32).toNat:Nat):Int):=by
 have:∀ n:Fin 256,bits BinOp.or IntKind.u8 ((UInt8.ofNat n.val).toNat:Int) 32=(((UInt8.ofNat n.val ||| 32).toNat:Nat):Int):=by decide +kernel
 have h:=this ⟨ch.toNat,UInt8.toNat_lt ch⟩
 simpa using h
theorem msName_any (s:List UInt8) (w:World) (hs:s.length≤4611686018427387904) :
  Calls prog 135 #[.string ⟨s.toArray⟩] w (fun e w'=>e=.returned (.bool (CH.isNameM s))∧Below w.heap.size w w'):=by
 go_enter func135,ntmps135
 go_wp2_with fail
 go_loopw [9] (fun iv wr=>∃ k:Nat,k≤s.length∧iv=.int .i64 k∧Hid (CH.upTo CH.letterM CH.tailM s k=true)∧Below w.heap.size w wr) (fun iv _=>s.length - (RowKit.intOf iv).toNat)
 case atStart=>exact⟨0,Nat.zero_le _,rfl,hid (CH.upTo_zero _ _ _),Below.refl _ _⟩
 case round =>
  obtain⟨k,hk,rfl,hu,hb⟩:=hrel
  by_cases hlt:k<s.length
  ·obtain⟨ch,hch⟩:∃ ch,s[k]?=some ch:=⟨_,lZ hlt⟩
   have hgk:=byte_at s k hlt ch hch
   have Hch:=hid hch
   clear hch
   have hcb:=UInt8.toNat_lt ch
   have good:∀ b:Bool,(if k=0 then CH.letterM ch else CH.tailM ch)=b→(b=true→CH.upTo CH.letterM CH.tailM s (k+1)=true)∧(b=false→CH.isNameM s=false):=fun b hb =>
    ⟨fun h=>by rw [CH.upTo_succ _ _ _ _ _ Hch.out,hu.out,hb,h];rfl,fun h=>by rw [CH.isNameM_eq,CH.upTo_false _ _ _ _ _ Hch.out (hb.trans h)];rfl⟩
   have G:=hid good
   clear good
   go_wp2_with fail
   rw [bits_or32]
   obtain⟨b1,h1⟩:∃ b,decide ((97:Int)≤(((ch ||| 32).toNat:Nat):Int))=b:=⟨_,rfl⟩
   obtain⟨b2,h2⟩:∃ b,decide ((((ch ||| 32).toNat:Nat):Int)≤(122:Int))=b:=⟨_,rfl⟩
   obtain⟨b3,h3⟩:∃ b,decide ((48:Int)≤((ch.toNat:Nat):Int))=b:=⟨_,rfl⟩
   obtain⟨b4,h4⟩:∃ b,decide (((ch.toNat:Nat):Int)≤(57:Int))=b:=⟨_,rfl⟩
   obtain⟨b5,h5⟩:∃ b,(((ch.toNat:Nat):Int)==(95:Int))=b:=⟨_,rfl⟩
   obtain⟨b6,h6⟩:∃ b,(((k:Nat):Int)==(0:Int))=b:=⟨_,rfl⟩
   have hval:(if k=0 then CH.letterM ch else CH.tailM ch)=(if b6=true then b1&&b2 else b1&&b2||(b3&&b4||b5)):=by
    have e6:(b6=true)=(k=0):=by rw [← h6];simp
    have e5:(ch==95)=b5:=by rw [CH.beq_toNat,← h5,Bool.eq_iff_iff];simp;omega
    have e1:decide (97≤(ch ||| 32).toNat)=b1:=by rw [← h1];exact decide_eq_decide.2 (by omega)
    have e2:decide ((ch ||| 32).toNat≤122)=b2:=by rw [← h2];exact decide_eq_decide.2 (by omega)
    have e3:decide (48≤ch.toNat)=b3:=by rw [← h3];exact decide_eq_decide.2 (by omega)
    have e4:decide (ch.toNat≤57)=b4:=by rw [← h4];exact decide_eq_decide.2 (by omega)
    simp only [CH.tailM,CH.letterM,e1,e2,e3,e4,e5,e6]
   have hv:=G.out _ hval
   clear hval G
   have HV:=hid hv
   clear hv
   generalize (ch ||| 32).toNat=m at *
   rcases (by cases b1 <;> cases b2 <;> simp:(b1=false)∨(b1=true∧b2=false)∨(b1=true∧b2=true)) with rfl|⟨rfl,rfl⟩|⟨rfl,rfl⟩
   all_goals rcases (by cases b3 <;> cases b4 <;> cases b5 <;> simp:(b3=false∧b5=false)∨(b3=false∧b5=true)∨(b3=true∧b4=true)∨(b3=true∧b4=false∧b5=false)∨(b3=true∧b4=false∧b5=true)) with⟨rfl,rfl⟩|⟨rfl,rfl⟩|⟨rfl,rfl⟩|⟨rfl,rfl,rfl⟩|⟨rfl,rfl,rfl⟩
   all_goals
    go_quiet (fail)
    cases b6
    all_goals
     go_wp2
     first
      |(go_roundw
        case rel=>exact⟨k+1,by omega,by go_num,hid (HV.out.1 rfl),below_drewN hb _⟩
        case measure=>simp [RowKit.intOf];omega)
      |(go_ret
        exact⟨by rw [HV.out.2 rfl];rfl,below_drewN hb _⟩)
  ·have e:k=s.length:=by omega
   subst e
   have hres:CH.isNameM s=(s != []&&decide (s.length≤24)):=by rw [CH.isNameM_eq,hu.out];rfl
   have Hr:=hid hres
   clear hres
   cases s with
   | nil =>
    go_wp2
    go_ret
    exact⟨by rw [Hr.out];rfl,hb⟩
   | cons c l =>
    have z1:((⟨(c::l).toArray⟩:ByteArray) != ⟨#[]⟩)=true:=rfl
    go_wp2
    go_ret
    refine⟨?_,hb⟩
    rw [Hr.out]
    simp
    rw [show (c::l != [])=true from rfl,Bool.true_and]
    exact decide_eq_decide.2 (by omega)
end
end Go.Proofs.YtjepldaciejieaaGreatDoor
namespace Go.Proofs.YtjepldaciejieaaGreatDoor
section
open Go.Lib Go.Proofs.Tryz Go.RowKit Go.Shelf Go.Sort
section
variable {P:Program} {ops:Array Oper} {md:Region.Mode} {C:World→Prop}
def headAny (P:Program) (md:Region.Mode) (ops:Array Oper) (C:World→Prop) (n:Nat) (L:Array Bool→Act→Prop):Nat→Array Bool→Act→Prop
 | 0,listed,a=>L listed a
 | f+1,listed,a=>Region.ready md ops listed≠[]∧∀ i∈Region.ready md ops listed,i<n∧qOp P ops C i (headAny P md ops C n L f (listed.setIfInBounds i true)) a
theorem any_of_headAny {n g:Nat} {L:Array Bool→Act→Prop} {Q:Exit→Act→World→Prop} (hL:∀ listed a w,C w→L listed a→wpAny P md ops Q g listed a w) :
  ∀ (f:Nat) (listed:Array Bool) (a:Act) (w:World),C w→headAny P md ops C n L f listed a→wpAny P md ops Q (f+g) listed a w
 | 0,listed,a,w,hw,h=>by rw [Nat.zero_add];exact hL _ _ _ hw h
 | f+1,listed,a,w,hw,h=>by
  rw [Nat.add_right_comm]
  exact⟨fun h0=>(h.1 h0).elim,fun i hi=>wpOp_of_qOp hw (fun a' w' hw' h'=>any_of_headAny hL f _ a' w' hw' h') (h.2 i hi).2⟩
theorem headAny_first {n i:Nat} {oi:Oper} {v:Value} {L:Array Bool→Act→Prop} (hi:ops[i]?=some oi) (hsel:Region.noSelect ops=true)
  (hs:Region.sinkB md ops n=true) (hc:Region.chainB md ops n=true) (hn:n<ops.size) (hin:i<n) (hdone:∀ listed a,L listed a→∀ j∈Region.ready md ops listed,n≤j) :
  ∀ (f:Nat) (listed:Array Bool) (a:Act),HeadInv md ops n listed →
   (∀ j oj,ops[j]?=some oj→j≠i→listed.getD j true=false→(∀ e∈oj.after,Region.binds md e=true→e.on≠i)→oi.apart ops oj=true) →
   i∈Region.ready md ops listed→YieldsIn P ops C oi v a→headAny P md ops C n L f (listed.setIfInBounds i true) (a.put oi.dst v)→headAny P md ops C n L (f+1) listed a:=by
 intro f
 induction f with
 | zero =>
  intro listed a inv _ hr hy H
  refine⟨List.ne_nil_of_mem hr,fun j hj=>?_⟩
  have hjn:j<n:=Nat.lt_of_not_le fun h=>tail_waits hs hc hn inv _ i rfl hin (mem_ready.1 hr).1 j h hj
  refine⟨hjn,?_⟩
  by_cases hji:j=i
  ·subst hji;exact hy.qOp hi H
  ·exact absurd (hdone _ _ H j (ready_mono hj hji)) (by omega)
 | succ f ih =>
  intro listed a inv hfree hr hy H
  have hun:=(mem_ready.1 hr).1
  refine⟨List.ne_nil_of_mem hr,fun j hj=>?_⟩
  have hjn:j<n:=Nat.lt_of_not_le fun h=>tail_waits hs hc hn inv _ i rfl hin hun j h hj
  refine⟨hjn,?_⟩
  by_cases hji:j=i
  ·subst hji;exact hy.qOp hi H
  ·obtain⟨hjun,oj,hoj,hall⟩:=mem_ready.1 hj
   have hnot:∀ e∈oj.after,Region.binds md e=true→e.on≠i:=fun e he hb heq=>by
    have h1:=hall e he hb
    rw [heq,getD_both hun] at h1
    cases h1
   have h2:=qOp_put hoj (hfree j oj hoj hji hjun hnot) (fun cs b=>Region.noSelect_spec hsel i oi cs b hi) (fun cs b=>Region.noSelect_spec hsel j oj cs b hoj) hy (H.2 j (ready_mono hj hji)).2
   refine qOp_mono (fun a' h3=>ih (listed.setIfInBounds j true) a' (inv.set hj hjn) ?_ (ready_mono hr (Ne.symm hji)) h3.1 ?_) h2
   ·intro k ok hk hki hunk hno
    refine hfree k ok hk hki ?_ hno
    by_cases hjk:j=k
    ·subst hjk;exact hjun
    ·rwa [getD_set_ne true hjk] at hunk
   ·rw [Array.setIfInBounds_comm _ _ hji]
    exact h3.2
theorem headAny_lex {n g:Nat} {Lq:Act→Prop} (hsel:Region.noSelect ops=true) (hs:Region.sinkB md ops n=true) (hc:Region.chainB md ops n=true) (hn:n<ops.size) :
  ∀ (l:List Oper) (k:Nat) (listed:Array Bool) (a:Act),(∀ j,j<l.length→l[j]?=ops[k+j]?)→k+l.length=n→HeadInv md ops n listed →
  Region.lexHead md ops g l.length k listed=true→wpQuiet P ops C Lq l a→headAny P md ops C n (fun listed' a'=>Region.seqB md ops g n listed'=true∧Lq a') l.length listed a
 | [],k,listed,a,_,hk,_,hB,h=>by
  obtain rfl:k=n:=by simpa using hk
  exact⟨by simpa [Region.lexHead] using hB,h⟩
 | o::l,k,listed,a,hl,hk,inv,hB,h=>by
  have h0:ops[k]?=some o:=by simpa using (hl 0 (by simp)).symm
  simp only [List.length_cons] at hk
  simp only [List.length_cons,Region.lexHead,Bool.and_eq_true] at hB
  have hr:k∈Region.ready md ops listed:=by simpa using hB.1.1
  obtain⟨v,hy,hK⟩:=yieldsIn_of_qOp (C:=C) (K:=wpQuiet P ops C Lq l) h0 (by unfold qOp;simp only [h0];exact h)
  refine headAny_first h0 hsel hs hc hn (by omega) (fun _ _ hL=>seqB_ready hL.1) l.length listed a inv (Region.free_spec h0 hB.1.2) hr hy ?_
  exact headAny_lex hsel hs hc hn l (k+1) _ _ (fun j hj=>by have:=hl (j+1) (by simp;omega);simpa [Nat.add_assoc,Nat.add_comm 1 j] using this) (by omega) (inv.set hr (by omega)) hB.2 hK
theorem wp_region_below_tail {id:Nat} {Q:Exit→Act→World→Prop} {a:Act} {w:World} {l:List Oper} (n:Nat) (hm:P.follows .mixedOrders=true) (hB:Region.lexTailB .any l.toArray n=true)
  (h:wpQuiet P l.toArray (fun w'=>∃ p:Regrown,w'=grow (redrawn w p.d) p.os) (fun a'=>∀ w',(∃ p:Regrown,w'=grow (redrawn w p.d) p.os)→wpList P l.toArray Q (l.drop n) a' w') (l.take n) a):(Code.region id l.toArray true).wp P Q a w:=by
 simp only [Region.lexTailB,Bool.and_eq_true,decide_eq_true_eq] at hB
 obtain⟨⟨⟨⟨hsel,hn⟩,hs⟩,hc⟩,hlex⟩:=hB
 have hn':n<l.length:=by simpa using hn
 have htl:(l.take n).length=n:=by simp;omega
 have hdl:(l.drop n).length=l.toArray.size - n:=by simp
 have inv0:HeadInv .any l.toArray n (Array.replicate l.toArray.size false) :=
  ⟨by simp,fun j oj _ hl=>(by rw [getD_replicate_false] at hl;cases hl),fun t _ ht=>getD_in (by simpa using ht) (getD_replicate_false _ _)⟩
 have H:=headAny_lex (md:=.any) (g:=l.toArray.size - n) hsel hs hc hn (l.take n) 0 _ a (fun j hj=>by
  have hj':j<n:=by rw [htl] at hj;exact hj
  simp [hj']) (by simpa using htl) inv0 (by rw [htl];exact hlex) h
 refine wp_region_any hm ?_
 have:=any_of_headAny (Q:=Q) (g:=l.toArray.size - n) (fun listed a' w' hw' hL=>by
  have:=wpAny_of_seq (md:=.any) (Q':=Q) (l.drop n) n listed a' w' (fun j=>by simp [List.getElem?_drop]) (by rw [hdl];exact hL.1) (hL.2 w' hw')
  rwa [hdl] at this) _ _ _ _ ⟨⟨w.drawn+1,#[]⟩,by rw [grow_empty]⟩ H
 rw [htl,show n+(l.toArray.size - n)=l.toArray.size by omega] at this
 exact this
def unlisted (listed:Array Bool):Nat:=(listed.toList.filter (!·)).length
theorem unlisted_set {listed:Array Bool} {i:Nat} (h:listed.getD i true=false):unlisted (listed.setIfInBounds i true)+1=unlisted listed:=by
 obtain⟨l⟩:=listed
 have hl:l[i]?=some false:=by
  cases e:l[i]? with
  | none=>simp [e] at h
  | some b=>simp [e] at h;rw [h]
 simp only [unlisted,List.setIfInBounds_toArray]
 clear h
 induction l generalizing i with
 | nil=>simp at hl
 | cons b l ih =>
  cases i with
  | zero =>
   have hb:b=false:=by simpa using hl
   subst hb
   simp
  | succ i =>
   have:=ih (by simpa using hl)
   cases b <;> simp [this]
theorem ready_nil {listed:Array Bool} (h:unlisted listed=0):Region.ready md ops listed=[]:=by
 cases hr:Region.ready md ops listed with
 | nil=>rfl
 | cons i l =>
  have hi:i∈Region.ready md ops listed:=by rw [hr];simp
  have:=unlisted_set (mem_ready.1 hi).1
  omega
end
end
section
open Go.Lib Go.Proofs.Tryz Go.RowKit Go.Shelf Go.Sort
def Aq (m:CH.Measure) (vk:Value):List Value :=
 [.string ⟨m.id.toArray⟩,.string ⟨m.authority.toArray⟩,.int .i64 m.kind,.string ⟨m.target.toArray⟩,.int .i64 m.when_.op,.string ⟨m.when_.name.toArray⟩,.int .i64 m.when_.cmp,.int .i64 m.when_.n,vk,.int .i64 m.start,.int .i64 m.until_,.int .i64 m.wind]
theorem dated_any (m:CH.Measure) (ak:Option Addr) (nk ck:Nat) (w:World) :
  Calls prog 86 #[.agg (Aq m (.slice ak nk ck)).toArray] w (Ret w (.bool (CH.measureDated m))):=by
 obtain⟨r,hr⟩:∃ r,CH.measureDated m=r:=⟨_,rfl⟩
 rw [hr]
 unfold CH.measureDated at hr
 dsimp only [Aq]
 generalize m.when_=f at *
 generalize m.id=id at *
 generalize m.authority=au at *
 generalize m.target=tg at *
 generalize m.kind=kd at *
 generalize m.start=st at *
 generalize m.until_=un at *
 generalize m.wind=wi at *
 dsimp only at hr
 obtain⟨wm,hwm⟩:∃ x:Int,(if kd=1 then (400:Int) else 0)=x:=⟨_,rfl⟩
 rw [hwm] at hr
 obtain⟨b1,h1⟩:∃ b,(un==-1)=b:=⟨_,rfl⟩
 obtain⟨b2,h2⟩:∃ b,decide (st<un)=b:=⟨_,rfl⟩
 obtain⟨b3,h3⟩:∃ b,decide (un≤100000)=b:=⟨_,rfl⟩
 obtain⟨b4,h4⟩:∃ b,decide (0≤st)=b:=⟨_,rfl⟩
 obtain⟨b5,h5⟩:∃ b,decide (st≤100000)=b:=⟨_,rfl⟩
 obtain⟨b6,h6⟩:∃ b,decide (0≤wi)=b:=⟨_,rfl⟩
 have hr':((b4&&(b5&&((b1||b2&&b3)&&(b6&&decide (wi≤wm))))):Bool)=r:=by
  rw [← hr,← h1,← h2,← h3,← h4,← h5,← h6]
 clear hr
 replace hr':=hid hr'
 go_enter func86,ntmps86
 by_cases hk:kd=1
 ·have z1:(kd==1)=true:=by simpa using hk
  rw [if_pos hk] at hwm
  subst hwm
  rcases (by cases b1 <;> cases b2 <;> cases b3 <;> simp:(b1=true)∨(b1=false∧b2=false)∨(b1=false∧b2=true∧b3=false)∨(b1=false∧b2=true∧b3=true)) with rfl|⟨rfl,rfl⟩|⟨rfl,rfl,rfl⟩|⟨rfl,rfl,rfl⟩
  all_goals rcases (by cases b4 <;> cases b5 <;> cases b6 <;> simp:(b4=false)∨(b4=true∧b5=false)∨(b4=true∧b5=true∧b6=false)∨(b4=true∧b5=true∧b6=true)) with rfl|⟨rfl,rfl⟩|⟨rfl,rfl,rfl⟩|⟨rfl,rfl,rfl⟩
  all_goals
   go_wp2
   go_ret
   exact⟨by rw [← hr'.out];rfl,(Below.refl _ w).alloc nR _⟩
 ·have z1:(kd==1)=false:=by simpa using hk
  rw [if_neg hk] at hwm
  subst hwm
  rcases (by cases b1 <;> cases b2 <;> cases b3 <;> simp:(b1=true)∨(b1=false∧b2=false)∨(b1=false∧b2=true∧b3=false)∨(b1=false∧b2=true∧b3=true)) with rfl|⟨rfl,rfl⟩|⟨rfl,rfl,rfl⟩|⟨rfl,rfl,rfl⟩
  all_goals rcases (by cases b4 <;> cases b5 <;> cases b6 <;> simp:(b4=false)∨(b4=true∧b5=false)∨(b4=true∧b5=true∧b6=false)∨(b4=true∧b5=true∧b6=true)) with rfl|⟨rfl,rfl⟩|⟨rfl,rfl,rfl⟩|⟨rfl,rfl,rfl⟩
  all_goals
   go_wp2
   go_ret
   exact⟨by rw [← hr'.out];rfl,(Below.refl _ w).alloc nR _⟩
theorem named_any (m:CH.Measure) (ak:Option Addr) (nk ck:Nat) (w:World) (h1:m.id.length≤100000) (h2:m.authority.length≤100000) (h3:m.target.length≤100000) :
  Calls prog 85 #[.agg (Aq m (.slice ak nk ck)).toArray] w (Ret w (.bool (CH.measureNamed m))):=by
 obtain⟨r,hr⟩:∃ r,CH.measureNamed m=r:=⟨_,rfl⟩
 rw [hr]
 unfold CH.measureNamed at hr
 have hB0:=fun o=>(Below.refl _ w).alloc nR o
 have hW:=fun o=>heap_alloc_last w o
 have I1:=fun w'=>msName_any m.id w' (by omega)
 have I2:=fun w'=>msName_any m.authority w' (by omega)
 have I3:=fun w'=>msName_any m.target w' (by omega)
 have te:=Ck m.target
 have t1:=Cm m.target m.id
 have t2:=Cm m.target m.authority
 obtain⟨b1,e1⟩:∃ b,CH.isNameM m.id=b:=⟨_,rfl⟩
 obtain⟨b2,e2⟩:∃ b,CH.isNameM m.authority=b:=⟨_,rfl⟩
 obtain⟨b3,e3⟩:∃ b,CH.isNameM m.target=b:=⟨_,rfl⟩
 obtain⟨q0,f0⟩:∃ b,(m.target==[])=b:=⟨_,rfl⟩
 obtain⟨q1,f1⟩:∃ b,(m.target==m.id)=b:=⟨_,rfl⟩
 obtain⟨q2,f2⟩:∃ b,(m.target==m.authority)=b:=⟨_,rfl⟩
 rw [e1] at I1
 rw [e2] at I2
 rw [e3] at I3
 replace te:List.isEmpty m.target=q0:=by rw [te,← f0];cases m.target <;> rfl
 rw [f1] at t1
 rw [f2] at t2
 replace hr:(if m.kind=1 then b1&&b2&&q0 else if m.kind=2 then b1&&b2&&(b3&&!q1) else if m.kind=3 then b1&&b2&&(b3&&!q2) else false)=r:=by
  rw [← hr,e1,e2,e3,f0,bne,f1,bne,f2]
 clear e1 e2 e3 f0 h1 h2 h3
 replace I1:=hid I1
 replace I2:=hid I2
 replace I3:=hid I3
 dsimp only [Aq]
 generalize m.when_=f at *
 generalize m.id=id at *
 generalize m.authority=au at *
 generalize m.target=tg at *
 generalize m.kind=kd at *
 generalize m.start=st at *
 generalize m.until_=un at *
 generalize m.wind=wi at *
 by_cases h1:kd=1
 ·subst h1
  cases b1 with
  | false =>
   simp at hr
   subst hr
   go_enter func85,ntmps85
   go_wp2_with fail
   refine (I1.out _).mono ?_
   rintro e w1 ⟨rfl,hb1⟩
   have hB1:Below w.heap.size w w1:=(hB0 _).trans (hb1.mono (by simp))
   have hblk:=(hb1.block w.heap.size (by simp)).trans (hW _)
   have hlt1:w.heap.size<w1.heap.size:=(aZ hblk)
   clear I1 hb1 hW hB0
   have k0:w1.cell? ⟨w.heap.size,0,none⟩=some (.string ⟨List.toArray id⟩):=cell_of hblk 0
   have k1:w1.cell? ⟨w.heap.size,1,none⟩=some (.string ⟨List.toArray au⟩):=cell_of hblk 1
   have k2:w1.cell? ⟨w.heap.size,2,none⟩=some (.int .i64 1):=cell_of hblk 2
   have k3:w1.cell? ⟨w.heap.size,3,none⟩=some (.string ⟨List.toArray tg⟩):=cell_of hblk 3
   clear I2 I3
   go_wp2
   go_ret
   exact⟨rfl,hB1⟩
  | true =>
   go_enter func85,ntmps85
   go_wp2_with fail
   refine (I1.out _).mono ?_
   rintro e w1 ⟨rfl,hb1⟩
   have hB1:Below w.heap.size w w1:=(hB0 _).trans (hb1.mono (by simp))
   have hblk:=(hb1.block w.heap.size (by simp)).trans (hW _)
   have hlt1:w.heap.size<w1.heap.size:=(aZ hblk)
   clear I1 hb1 hW hB0
   have k0:w1.cell? ⟨w.heap.size,0,none⟩=some (.string ⟨List.toArray id⟩):=cell_of hblk 0
   have k1:w1.cell? ⟨w.heap.size,1,none⟩=some (.string ⟨List.toArray au⟩):=cell_of hblk 1
   have k2:w1.cell? ⟨w.heap.size,2,none⟩=some (.int .i64 1):=cell_of hblk 2
   have k3:w1.cell? ⟨w.heap.size,3,none⟩=some (.string ⟨List.toArray tg⟩):=cell_of hblk 3
   go_wp2_with fail
   refine (I2.out _).mono ?_
   rintro e w2 ⟨rfl,hbw2⟩
   have hBw2:Below w.heap.size w w2:=hB1.trans (hbw2.mono hB1.size)
   replace hblk:=(hbw2.block w.heap.size hlt1).trans hblk
   have hltw2:w.heap.size<w2.heap.size:=(aZ hblk)
   clear hbw2 I2 k0 k1 k2 k3
   have k0:w2.cell? ⟨w.heap.size,0,none⟩=some (.string ⟨List.toArray id⟩):=cell_of hblk 0
   have k1:w2.cell? ⟨w.heap.size,1,none⟩=some (.string ⟨List.toArray au⟩):=cell_of hblk 1
   have k2:w2.cell? ⟨w.heap.size,2,none⟩=some (.int .i64 1):=cell_of hblk 2
   have k3:w2.cell? ⟨w.heap.size,3,none⟩=some (.string ⟨List.toArray tg⟩):=cell_of hblk 3
   cases b2 with
   | false =>
    simp at hr
    subst hr
    clear I3
    go_wp2
    go_ret
    exact⟨rfl,hBw2⟩
   | true =>
    replace hr:q0=r:=by simpa using hr
    subst hr
    clear I3
    go_wp2
    go_ret
    exact⟨rfl,hBw2⟩
 by_cases h2:kd=2
 ·subst h2
  cases b1 with
  | false =>
   simp at hr
   subst hr
   go_enter func85,ntmps85
   go_wp2_with fail
   refine (I1.out _).mono ?_
   rintro e w1 ⟨rfl,hb1⟩
   have hB1:Below w.heap.size w w1:=(hB0 _).trans (hb1.mono (by simp))
   have hblk:=(hb1.block w.heap.size (by simp)).trans (hW _)
   have hlt1:w.heap.size<w1.heap.size:=(aZ hblk)
   clear I1 hb1 hW hB0
   have k0:w1.cell? ⟨w.heap.size,0,none⟩=some (.string ⟨List.toArray id⟩):=cell_of hblk 0
   have k1:w1.cell? ⟨w.heap.size,1,none⟩=some (.string ⟨List.toArray au⟩):=cell_of hblk 1
   have k2:w1.cell? ⟨w.heap.size,2,none⟩=some (.int .i64 2):=cell_of hblk 2
   have k3:w1.cell? ⟨w.heap.size,3,none⟩=some (.string ⟨List.toArray tg⟩):=cell_of hblk 3
   clear I2 I3
   go_wp2
   go_ret
   exact⟨rfl,hB1⟩
  | true =>
   go_enter func85,ntmps85
   go_wp2_with fail
   refine (I1.out _).mono ?_
   rintro e w1 ⟨rfl,hb1⟩
   have hB1:Below w.heap.size w w1:=(hB0 _).trans (hb1.mono (by simp))
   have hblk:=(hb1.block w.heap.size (by simp)).trans (hW _)
   have hlt1:w.heap.size<w1.heap.size:=(aZ hblk)
   clear I1 hb1 hW hB0
   have k0:w1.cell? ⟨w.heap.size,0,none⟩=some (.string ⟨List.toArray id⟩):=cell_of hblk 0
   have k1:w1.cell? ⟨w.heap.size,1,none⟩=some (.string ⟨List.toArray au⟩):=cell_of hblk 1
   have k2:w1.cell? ⟨w.heap.size,2,none⟩=some (.int .i64 2):=cell_of hblk 2
   have k3:w1.cell? ⟨w.heap.size,3,none⟩=some (.string ⟨List.toArray tg⟩):=cell_of hblk 3
   go_wp2_with fail
   refine (I2.out _).mono ?_
   rintro e w2 ⟨rfl,hbw2⟩
   have hBw2:Below w.heap.size w w2:=hB1.trans (hbw2.mono hB1.size)
   replace hblk:=(hbw2.block w.heap.size hlt1).trans hblk
   have hltw2:w.heap.size<w2.heap.size:=(aZ hblk)
   clear hbw2 I2 k0 k1 k2 k3
   have k0:w2.cell? ⟨w.heap.size,0,none⟩=some (.string ⟨List.toArray id⟩):=cell_of hblk 0
   have k1:w2.cell? ⟨w.heap.size,1,none⟩=some (.string ⟨List.toArray au⟩):=cell_of hblk 1
   have k2:w2.cell? ⟨w.heap.size,2,none⟩=some (.int .i64 2):=cell_of hblk 2
   have k3:w2.cell? ⟨w.heap.size,3,none⟩=some (.string ⟨List.toArray tg⟩):=cell_of hblk 3
   cases b2 with
   | false =>
    simp at hr
    subst hr
    clear I3
    go_wp2
    go_ret
    exact⟨rfl,hBw2⟩
   | true =>
    go_wp2_with fail
    refine (I3.out _).mono ?_
    rintro e w3 ⟨rfl,hbw3⟩
    have hBw3:Below w.heap.size w w3:=hBw2.trans (hbw3.mono hBw2.size)
    replace hblk:=(hbw3.block w.heap.size hltw2).trans hblk
    have hltw3:w.heap.size<w3.heap.size:=(aZ hblk)
    clear hbw3 I3 k0 k1 k2 k3
    have k0:w3.cell? ⟨w.heap.size,0,none⟩=some (.string ⟨List.toArray id⟩):=cell_of hblk 0
    have k1:w3.cell? ⟨w.heap.size,1,none⟩=some (.string ⟨List.toArray au⟩):=cell_of hblk 1
    have k2:w3.cell? ⟨w.heap.size,2,none⟩=some (.int .i64 2):=cell_of hblk 2
    have k3:w3.cell? ⟨w.heap.size,3,none⟩=some (.string ⟨List.toArray tg⟩):=cell_of hblk 3
    cases b3 with
    | false =>
     simp at hr
     subst hr
     go_wp2
     go_ret
     exact⟨rfl,hBw3⟩
    | true =>
     replace hr:(!q1)=r:=by simpa using hr
     subst hr
     cases q1 with
     | true =>
      go_wp2
      go_ret
      exact⟨rfl,hBw3⟩
     | false =>
      go_wp2
      go_ret
      exact⟨rfl,hBw3⟩
 by_cases h3:kd=3
 ·subst h3
  cases b1 with
  | false =>
   simp at hr
   subst hr
   go_enter func85,ntmps85
   go_wp2_with fail
   refine (I1.out _).mono ?_
   rintro e w1 ⟨rfl,hb1⟩
   have hB1:Below w.heap.size w w1:=(hB0 _).trans (hb1.mono (by simp))
   have hblk:=(hb1.block w.heap.size (by simp)).trans (hW _)
   have hlt1:w.heap.size<w1.heap.size:=(aZ hblk)
   clear I1 hb1 hW hB0
   have k0:w1.cell? ⟨w.heap.size,0,none⟩=some (.string ⟨List.toArray id⟩):=cell_of hblk 0
   have k1:w1.cell? ⟨w.heap.size,1,none⟩=some (.string ⟨List.toArray au⟩):=cell_of hblk 1
   have k2:w1.cell? ⟨w.heap.size,2,none⟩=some (.int .i64 3):=cell_of hblk 2
   have k3:w1.cell? ⟨w.heap.size,3,none⟩=some (.string ⟨List.toArray tg⟩):=cell_of hblk 3
   clear I2 I3
   go_wp2
   go_ret
   exact⟨rfl,hB1⟩
  | true =>
   go_enter func85,ntmps85
   go_wp2_with fail
   refine (I1.out _).mono ?_
   rintro e w1 ⟨rfl,hb1⟩
   have hB1:Below w.heap.size w w1:=(hB0 _).trans (hb1.mono (by simp))
   have hblk:=(hb1.block w.heap.size (by simp)).trans (hW _)
   have hlt1:w.heap.size<w1.heap.size:=(aZ hblk)
   clear I1 hb1 hW hB0
   have k0:w1.cell? ⟨w.heap.size,0,none⟩=some (.string ⟨List.toArray id⟩):=cell_of hblk 0
   have k1:w1.cell? ⟨w.heap.size,1,none⟩=some (.string ⟨List.toArray au⟩):=cell_of hblk 1
   have k2:w1.cell? ⟨w.heap.size,2,none⟩=some (.int .i64 3):=cell_of hblk 2
   have k3:w1.cell? ⟨w.heap.size,3,none⟩=some (.string ⟨List.toArray tg⟩):=cell_of hblk 3
   go_wp2_with fail
   refine (I2.out _).mono ?_
   rintro e w2 ⟨rfl,hbw2⟩
   have hBw2:Below w.heap.size w w2:=hB1.trans (hbw2.mono hB1.size)
   replace hblk:=(hbw2.block w.heap.size hlt1).trans hblk
   have hltw2:w.heap.size<w2.heap.size:=(aZ hblk)
   clear hbw2 I2 k0 k1 k2 k3
   have k0:w2.cell? ⟨w.heap.size,0,none⟩=some (.string ⟨List.toArray id⟩):=cell_of hblk 0
   have k1:w2.cell? ⟨w.heap.size,1,none⟩=some (.string ⟨List.toArray au⟩):=cell_of hblk 1
   have k2:w2.cell? ⟨w.heap.size,2,none⟩=some (.int .i64 3):=cell_of hblk 2
   have k3:w2.cell? ⟨w.heap.size,3,none⟩=some (.string ⟨List.toArray tg⟩):=cell_of hblk 3
   cases b2 with
   | false =>
    simp at hr
    subst hr
    clear I3
    go_wp2
    go_ret
    exact⟨rfl,hBw2⟩
   | true =>
    go_wp2_with fail
    refine (I3.out _).mono ?_
    rintro e w3 ⟨rfl,hbw3⟩
    have hBw3:Below w.heap.size w w3:=hBw2.trans (hbw3.mono hBw2.size)
    replace hblk:=(hbw3.block w.heap.size hltw2).trans hblk
    have hltw3:w.heap.size<w3.heap.size:=(aZ hblk)
    clear hbw3 I3 k0 k1 k2 k3
    have k0:w3.cell? ⟨w.heap.size,0,none⟩=some (.string ⟨List.toArray id⟩):=cell_of hblk 0
    have k1:w3.cell? ⟨w.heap.size,1,none⟩=some (.string ⟨List.toArray au⟩):=cell_of hblk 1
    have k2:w3.cell? ⟨w.heap.size,2,none⟩=some (.int .i64 3):=cell_of hblk 2
    have k3:w3.cell? ⟨w.heap.size,3,none⟩=some (.string ⟨List.toArray tg⟩):=cell_of hblk 3
    cases b3 with
    | false =>
     simp at hr
     subst hr
     go_wp2
     go_ret
     exact⟨rfl,hBw3⟩
    | true =>
     replace hr:(!q2)=r:=by simpa using hr
     subst hr
     cases q2 with
     | true =>
      go_wp2
      go_ret
      exact⟨rfl,hBw3⟩
     | false =>
      go_wp2
      go_ret
      exact⟨rfl,hBw3⟩
 rw [if_neg h1,if_neg h2,if_neg h3] at hr
 have z1:(kd==1)=false:=by simpa using h1
 have z2:(kd==2)=false:=by simpa using h2
 have z3:(kd==3)=false:=by simpa using h3
 subst hr
 cases b1 with
 | false =>
  go_enter func85,ntmps85
  go_wp2_with fail
  refine (I1.out _).mono ?_
  rintro e w1 ⟨rfl,hb1⟩
  have hB1:Below w.heap.size w w1:=(hB0 _).trans (hb1.mono (by simp))
  have hblk:=(hb1.block w.heap.size (by simp)).trans (hW _)
  have hlt1:w.heap.size<w1.heap.size:=(aZ hblk)
  clear I1 hb1 hW hB0
  have k0:w1.cell? ⟨w.heap.size,0,none⟩=some (.string ⟨List.toArray id⟩):=cell_of hblk 0
  have k1:w1.cell? ⟨w.heap.size,1,none⟩=some (.string ⟨List.toArray au⟩):=cell_of hblk 1
  have k2:w1.cell? ⟨w.heap.size,2,none⟩=some (.int .i64 kd):=cell_of hblk 2
  have k3:w1.cell? ⟨w.heap.size,3,none⟩=some (.string ⟨List.toArray tg⟩):=cell_of hblk 3
  clear I2 I3
  go_wp2
  go_ret
  exact⟨rfl,hB1⟩
 | true =>
  go_enter func85,ntmps85
  go_wp2_with fail
  refine (I1.out _).mono ?_
  rintro e w1 ⟨rfl,hb1⟩
  have hB1:Below w.heap.size w w1:=(hB0 _).trans (hb1.mono (by simp))
  have hblk:=(hb1.block w.heap.size (by simp)).trans (hW _)
  have hlt1:w.heap.size<w1.heap.size:=(aZ hblk)
  clear I1 hb1 hW hB0
  have k0:w1.cell? ⟨w.heap.size,0,none⟩=some (.string ⟨List.toArray id⟩):=cell_of hblk 0
  have k1:w1.cell? ⟨w.heap.size,1,none⟩=some (.string ⟨List.toArray au⟩):=cell_of hblk 1
  have k2:w1.cell? ⟨w.heap.size,2,none⟩=some (.int .i64 kd):=cell_of hblk 2
  have k3:w1.cell? ⟨w.heap.size,3,none⟩=some (.string ⟨List.toArray tg⟩):=cell_of hblk 3
  go_wp2_with fail
  refine (I2.out _).mono ?_
  rintro e w2 ⟨rfl,hbw2⟩
  have hBw2:Below w.heap.size w w2:=hB1.trans (hbw2.mono hB1.size)
  replace hblk:=(hbw2.block w.heap.size hlt1).trans hblk
  have hltw2:w.heap.size<w2.heap.size:=(aZ hblk)
  clear hbw2 I2 k0 k1 k2 k3
  have k0:w2.cell? ⟨w.heap.size,0,none⟩=some (.string ⟨List.toArray id⟩):=cell_of hblk 0
  have k1:w2.cell? ⟨w.heap.size,1,none⟩=some (.string ⟨List.toArray au⟩):=cell_of hblk 1
  have k2:w2.cell? ⟨w.heap.size,2,none⟩=some (.int .i64 kd):=cell_of hblk 2
  have k3:w2.cell? ⟨w.heap.size,3,none⟩=some (.string ⟨List.toArray tg⟩):=cell_of hblk 3
  cases b2 with
  | false =>
   clear I3
   go_wp2
   go_ret
   exact⟨rfl,hBw2⟩
  | true =>
   clear I3
   go_wp2
   go_ret
   exact⟨rfl,hBw2⟩
def Bu (m:CH.Measure):List (List UInt8):=[m.id,m.authority,m.target,Lib.itoa m.kind,Lib.itoa m.start,Lib.itoa m.until_,Lib.itoa m.wind]
theorem fields_any (m:CH.Measure) (ak:Option Addr) (nk ck:Nat) (w:World) (hG:Gl w) (hk:-9223372036854775808≤m.kind∧m.kind≤9223372036854775807) (hs:-9223372036854775808≤m.start∧m.start≤9223372036854775807)
  (hu:-9223372036854775808≤m.until_∧m.until_≤9223372036854775807) (hw:-9223372036854775808≤m.wind∧m.wind≤9223372036854775807) :
  Calls prog 121 #[.agg (Aq m (.slice ak nk ck)).toArray] w (Ret w (.agg ((Bu m).map strV).toArray)):=by
 have I:=fun (n:Int) (h:-9223372036854775808≤n∧n≤9223372036854775807) (W:World) (hG':Gl W)=>Ce n W h.1 h.2 hG'
 have I1:=hid (I _ hk)
 have I2:=hid (I _ hs)
 have I3:=hid (I _ hu)
 have I4:=hid (I _ hw)
 clear I
 dsimp only [Aq,Bu,List.map]
 generalize m.when_=f at *
 generalize m.id=id at *
 generalize m.authority=au at *
 generalize m.target=tg at *
 generalize m.kind=kd at *
 generalize m.start=st at *
 generalize m.until_=un at *
 generalize m.wind=wi at *
 obtain⟨O,hO⟩:∃ o:Obj,o=.cells #[.string ⟨id.toArray⟩,.string ⟨au.toArray⟩,.int .i64 kd,.string ⟨tg.toArray⟩,.int .i64 f.op,.string ⟨f.name.toArray⟩,.int .i64 f.cmp,.int .i64 f.n,.slice ak nk ck,.int .i64 st,.int .i64 un,.int .i64 wi] 59:=⟨_,rfl⟩
 obtain⟨Z,hZ⟩:∃ o:Obj,o=.cells #[.string ⟨#[]⟩,.string ⟨#[]⟩,.string ⟨#[]⟩,.string ⟨#[]⟩,.string ⟨#[]⟩,.string ⟨#[]⟩,.string ⟨#[]⟩] 199:=⟨_,rfl⟩
 have hBX:Below w.heap.size w ((w.alloc O).alloc Z):=((Below.refl _ w).alloc nR _).alloc (by simp) _
 have hX0:((w.alloc O).alloc Z).heap[w.heap.size]?=some O:=by simp only [World.alloc,Array.getElem?_push,Array.size_push];rw [if_neg (by omega),if_pos trivial]
 have hX1:((w.alloc O).alloc Z).heap[w.heap.size+1]?=some Z:=by simp only [World.alloc,Array.getElem?_push,Array.size_push];rw [if_pos trivial]
 go_enter func121,ntmps121
 go_wp2_with fail
 rw [← hO,← hZ]
 generalize (w.alloc O).alloc Z=X at *
 subst hO hZ
 have hGX:=hG.below hBX
 have g0:∀ (d:Nat) (os:Array Obj),(grow (redrawn X d) os).cell? ⟨w.heap.size,0,none⟩=some (.string ⟨id.toArray⟩):=cell_regrown (cell_of hX0 0)
 have g1:∀ (d:Nat) (os:Array Obj),(grow (redrawn X d) os).cell? ⟨w.heap.size,1,none⟩=some (.string ⟨au.toArray⟩):=cell_regrown (cell_of hX0 1)
 have g2:∀ (d:Nat) (os:Array Obj),(grow (redrawn X d) os).cell? ⟨w.heap.size,2,none⟩=some (.int .i64 kd):=cell_regrown (cell_of hX0 2)
 have g3:∀ (d:Nat) (os:Array Obj),(grow (redrawn X d) os).cell? ⟨w.heap.size,3,none⟩=some (.string ⟨tg.toArray⟩):=cell_regrown (cell_of hX0 3)
 have g9:∀ (d:Nat) (os:Array Obj),(grow (redrawn X d) os).cell? ⟨w.heap.size,9,none⟩=some (.int .i64 st):=cell_regrown (cell_of hX0 9)
 have g10:∀ (d:Nat) (os:Array Obj),(grow (redrawn X d) os).cell? ⟨w.heap.size,10,none⟩=some (.int .i64 un):=cell_regrown (cell_of hX0 10)
 have g11:∀ (d:Nat) (os:Array Obj),(grow (redrawn X d) os).cell? ⟨w.heap.size,11,none⟩=some (.int .i64 wi):=cell_regrown (cell_of hX0 11)
 have hX0:=hid hX0
 have hX1:=hid hX1
 refine wp_region_below_tail 19 (by kernel_rfl) (by kernel_rfl) ?_
 simp only [List.take_succ_cons,List.take_zero,List.drop_succ_cons,List.drop_zero]
 repeat (quiet_step (first|exact Calls.regrown_of (I1.out _ (hGX.below (below_regrown _ _ _)))|exact Calls.regrown_of (I2.out _ (hGX.below (below_regrown _ _ _)))|exact Calls.regrown_of (I3.out _ (hGX.below (below_regrown _ _ _)))|exact Calls.regrown_of (I4.out _ (hGX.below (below_regrown _ _ _)))))
 refine wpQuiet_nil ?_
 intro wq hbq
 replace hbq:=Ae hbq
 have hq1:=(hbq.block (w.heap.size+1) (aZ hX1.out)).trans hX1.out
 have hB3:Below w.heap.size w wq:=hBX.trans (hbq.mono hBX.size)
 clear g0 g1 g2 g3 g9 g10 g11 I1 I2 I3 I4 hX0 hX1 hBX hGX hG
 have z:=fun i=>cell_of hq1 i
 have fz:=fun i=>Aj hq1 i
 go_wp2_with fail
 have y0:=Ai wq (w.heap.size+1) 0 (.string ⟨id.toArray⟩) _ _ _ hq1
 have y1:=Ai _ (w.heap.size+1) 1 (.string ⟨au.toArray⟩) _ _ _ y0
 have y2:=Ai _ (w.heap.size+1) 2 (.string ⟨tg.toArray⟩) _ _ _ y1
 have y3:=Ai _ (w.heap.size+1) 3 (.string ⟨(Lib.itoa kd).toArray⟩) _ _ _ y2
 have y4:=Ai _ (w.heap.size+1) 4 (.string ⟨(Lib.itoa st).toArray⟩) _ _ _ y3
 have y5:=Ai _ (w.heap.size+1) 5 (.string ⟨(Lib.itoa un).toArray⟩) _ _ _ y4
 have y6:=Ai _ (w.heap.size+1) 6 (.string ⟨(Lib.itoa wi).toArray⟩) _ _ _ y5
 clear y0 y1 y2 y3 y4 y5
 refine bodyPost_ret (C9 (p:=2) (ty:=199) rfl _ _ ⟨w.heap.size+1,0,none⟩ _ rfl (run_loadVar_mid _ (w.heap.size+1) 0 199 [strV id,strV au,strV tg,strV (Lib.itoa kd),strV (Lib.itoa st),strV (Lib.itoa un),strV (Lib.itoa wi)] _ (fun j v hv=>?_) underlying199 rfl (by kernel_rfl))) rfl ?_
 ·rw [Nat.zero_add,cell_of y6]
  simpa using hv
 ·refine⟨rfl,?_⟩
  have hs:∀ (W:World) (i:Nat) (v:Value),Below w.heap.size w W→Below w.heap.size w (W.setCell ⟨w.heap.size+1,i,none⟩ v):=fun W i v h=>h.setCell (p:=⟨w.heap.size+1,i,none⟩) (by simp) v
  exact hs _ _ _ (hs _ _ _ (hs _ _ _ (hs _ _ _ (hs _ _ _ (hs _ _ _ (hs _ _ _ hB3))))))
def Ci:CH.Measure:=⟨[],[],0,[],.mk 0 [] 0 0 [],0,0,0⟩
theorem measureZero_eq (m:CH.Measure):CH.measureZero m=((Bu m==Bu Ci)&&(m.when_.op==0&&m.when_.name==[]&&m.when_.cmp==0&&m.when_.n==0&&m.when_.kids.length==0)):=by
 have h0:Lib.itoa 0=[48]:=by unfold Lib.itoa;rw [if_neg (by decide)];unfold Lib.decDigits;rfl
 unfold CH.measureZero
 simp only [Bu,Ci,h0]
theorem part_str (xs:Array Value) (i:Nat) (v:Value) (h:xs[i]?=some v) (w:World):(part 9 xs i).run prog w=.ok v w:=by
 have h9:(isAgg 9).run prog w=.ok false w:=by
  simp [isAgg,run_underlying underlying9]
 simp [part,h9,h]
theorem eqStrs (d:Nat) (w:World) (xs ys:Array Value):∀ (a b:List (List UInt8)) (off:Nat),a.length=b.length→(∀ j l,a[j]?=some l→xs[off+j]?=some (strV l))→(∀ j l,b[j]?=some l→ys[off+j]?=some (strV l)) →
  (forIn (List.range' off a.length) ((none,()):Option Bool × PUnit) (fun i _=>do
    if !(← Op.equalIn (d+1) 9 (← part 9 xs (i*1)) (← part 9 ys (i*1))) then return ForInStep.done (some false,())
    return ForInStep.yield (none,())):Sem _).run prog w=.ok (if a==b then (none,()) else (some false,())) w:=by
 intro a
 induction a with
 | nil=>intro b off hl _ _;cases b with
  | nil=>simp
  | cons _ _=>simp at hl
 | cons x a ih =>
  intro b off hl hx hy
  cases b with
  | nil=>simp at hl
  | cons y b =>
   have h1:=part_str xs off _ (hx 0 x rfl) w
   have h2:=part_str ys off _ (hy 0 y rfl) w
   have ih':=ih b (off+1) (by simpa using hl) (fun j l hj=>by have:=hx (j+1) l (by simpa using hj);rwa [show off+1+j=off+(j+1) from by omega]) (fun j l hj=>by have:=hy (j+1) l (by simpa using hj);rwa [show off+1+j=off+(j+1) from by omega])
   simp only [List.length_cons,List.range'_succ,List.forIn_cons,Sem.run_bind,Nat.mul_one,h1,h2,Result.andThen_ok,run_equalIn_string w d 9 _ _ underlying9]
   rw [show (⟨x.toArray⟩:ByteArray).toList=x from by rw [Lib.toList_data],show (⟨y.toArray⟩:ByteArray).toList=y from by rw [Lib.toList_data]]
   simp only [Nat.mul_one] at ih'
   cases hxy:(x==y) with
   | true =>
    have e:(x::a==y::b)=(a==b):=by rw [List.cons_beq_cons,hxy];rfl
    rw [e]
    simp only [Bool.not_true,Bool.false_eq_true,if_false,Sem.run_pure,Result.andThen_ok]
    exact ih'
   | false =>
    have e:(x::a==y::b)=false:=by rw [List.cons_beq_cons,hxy];rfl
    rw [e]
    simp
theorem run_eql7 (a b:List (List UInt8)) (ha:a.length=7) (hb:b.length=7) (w:World):(binOp .eql 199 (.agg (a.map strV).toArray) (.agg (b.map strV).toArray)).run prog w=.ok (.bool (a==b)) w:=by
 rw [run_eql_struct]
 have hsz:∀ w,(sizeOf 9).run prog w=.ok 1 w:=fun w=>by kernel_rfl
 have key:(Op.equalIn (9998+1+1) 199 (.agg (a.map strV).toArray) (.agg (b.map strV).toArray)).run prog w=.ok (a==b) w:=by
  rw [Op.equalIn]
  have h:=eqStrs 9998 w (a.map strV).toArray (b.map strV).toArray a b 0 (by omega) (fun j l hj=>by simp [hj]) (fun j l hj=>by simp [hj])
  rw [ha] at h
  simp only [Sem.run_bind,run_underlying underlying199,Result.andThen_ok,hsz,Std.Legacy.Range.forIn_eq_forIn_range',Std.Legacy.Range.size]
  simp only [Nat.sub_zero,Nat.add_sub_cancel,Nat.div_one]
  rw [h]
  cases (a==b) <;> rfl
 have e:(10000:Nat)=9998+1+1:=rfl
 rw [e,key]
 rfl
def Ap:Array Value:=#[.string ⟨#[]⟩,.string ⟨#[]⟩,.int .i64 0,.string ⟨#[]⟩,.int .i64 0,.string ⟨#[]⟩,.int .i64 0,.int .i64 0,.slice none 0 0,.int .i64 0,.int .i64 0,.int .i64 0]
structure MeasureNums (m:CH.Measure):Prop where
 k:-9223372036854775808≤m.kind∧m.kind≤9223372036854775807
 s:-9223372036854775808≤m.start∧m.start≤9223372036854775807
 u:-9223372036854775808≤m.until_∧m.until_≤9223372036854775807
 w:-9223372036854775808≤m.wind∧m.wind≤9223372036854775807
theorem measureSameZero_any (m:CH.Measure) (ak:Option Addr) (nk ck:Nat) (w:World) (hG:Gl w) (hm:MeasureNums m) (hnk:m.when_.kids.length=nk) (hck:nk≤9223372036854775807) :
  Calls prog 77 #[.agg (Aq m (.slice ak nk ck)).toArray,.agg Ap] w (Ret w (.bool (CH.measureZero m))):=by
 obtain⟨R,hR⟩:∃ R,Hid (CH.measureZero m=R):=⟨_,hid rfl⟩
 rw [hR.out]
 have hRe:Hid (((Bu m==Bu Ci)&&(m.when_.op==0&&m.when_.name==[]&&m.when_.cmp==0&&m.when_.n==0&&nk==0))=R):=hid (by rw [← hnk,← measureZero_eq];exact hR.out)
 have F1:=fun W hG'=>fields_any m ak nk ck W hG' hm.k hm.s hm.u hm.w
 have F2:=fun W hG'=>fields_any Ci none 0 0 W hG' (by decide) (by decide) (by decide) (by decide)
 have Q:=fun W=>formulaSameZero_any m.when_.op m.when_.cmp m.when_.n m.when_.name ak nk ck W hck
 have EQ:=fun W=>run_eql7 (Bu m) (Bu Ci) rfl rfl W
 obtain⟨b1,h1⟩:∃ b,(Bu m==Bu Ci)=b:=⟨_,rfl⟩
 rw [h1] at EQ hRe
 obtain⟨b2,h2⟩:∃ b,(m.when_.op==0&&m.when_.name==[]&&m.when_.cmp==0&&m.when_.n==0&&nk==0)=b:=⟨_,rfl⟩
 rw [h2] at Q hRe
 clear h1 h2 hnk hR
 obtain rfl:=hRe.out
 clear hRe
 generalize hA:((Bu m).map strV).toArray=A at *
 generalize hZ:((Bu Ci).map strV).toArray=Z at *
 clear hA hZ
 replace F1:=hid F1
 replace F2:=hid F2
 replace Q:=hid Q
 dsimp only [Aq,Ci,CH.Formula.op,CH.Formula.name,CH.Formula.cmp,CH.Formula.n] at F2
 dsimp only [Aq,Ap] at F1 ⊢
 generalize m.when_=f at *
 generalize m.id=id at *
 generalize m.authority=au at *
 generalize m.target=tg at *
 generalize m.kind=kd at *
 generalize m.start=st at *
 generalize m.until_=un at *
 generalize m.wind=wi at *
 clear hm
 obtain⟨O,hO⟩:∃ o:Obj,o=.cells #[.string ⟨id.toArray⟩,.string ⟨au.toArray⟩,.int .i64 kd,.string ⟨tg.toArray⟩,.int .i64 f.op,.string ⟨f.name.toArray⟩,.int .i64 f.cmp,.int .i64 f.n,.slice ak nk ck,.int .i64 st,.int .i64 un,.int .i64 wi] 59:=⟨_,rfl⟩
 obtain⟨Zo,hZo⟩:∃ o:Obj,o=.cells #[.string ⟨#[]⟩,.string ⟨#[]⟩,.int .i64 0,.string ⟨#[]⟩,.int .i64 0,.string ⟨#[]⟩,.int .i64 0,.int .i64 0,.slice none 0 0,.int .i64 0,.int .i64 0,.int .i64 0] 59:=⟨_,rfl⟩
 have hBX:Below w.heap.size w ((w.alloc O).alloc Zo):=((Below.refl _ w).alloc nR _).alloc (by simp) _
 have hX0:((w.alloc O).alloc Zo).heap[w.heap.size]?=some O:=by simp only [World.alloc,Array.getElem?_push,Array.size_push];rw [if_neg (by omega),if_pos trivial]
 have hX1:((w.alloc O).alloc Zo).heap[w.heap.size+1]?=some Zo:=by simp only [World.alloc,Array.getElem?_push,Array.size_push];rw [if_pos trivial]
 go_enter func77,ntmps77
 go_wp2_with fail
 rw [← hO,← hZo]
 generalize (w.alloc O).alloc Zo=X at *
 subst hO hZo
 have hGX:=hG.below hBX
 have g0:∀ (i:Nat) (d:Nat) (os:Array Obj),(grow (redrawn X d) os).cell? ⟨w.heap.size,i,none⟩=X.cell? ⟨w.heap.size,i,none⟩:=fun i d os=>(below_regrown X d os).cell (p:=⟨w.heap.size,i,none⟩) (aZ hX0)
 have g1:∀ (i:Nat) (d:Nat) (os:Array Obj),(grow (redrawn X d) os).cell? ⟨w.heap.size+1,i,none⟩=X.cell? ⟨w.heap.size+1,i,none⟩:=fun i d os=>(below_regrown X d os).cell (p:=⟨w.heap.size+1,i,none⟩) (aZ hX1)
 have c0:=fun i=>cell_of hX0 i
 have c1:=fun i=>cell_of hX1 i
 have hX0:=hid hX0
 have hX1:=hid hX1
 cases b1 with
 | false =>
  clear Q
  refine wp_region_quiet_below (by kernel_rfl) (by kernel_rfl) ?_
  repeat (quiet_step (first|(with_reducible exact Calls.regrown_of (F1.out _ (hGX.below (below_regrown _ _ _))))|(with_reducible exact Calls.regrown_of (F2.out _ (hGX.below (below_regrown _ _ _))))))
  refine wpQuiet_nil ?_
  intro wq hbq
  replace hbq:=Ae hbq
  clear F1 F2 g0 g1 c0 c1
  go_wp2
  go_ret
  exact⟨rfl,hBX.trans (hbq.mono hBX.size)⟩
 | true =>
  refine wp_region_quiet_below (by kernel_rfl) (by kernel_rfl) ?_
  repeat (quiet_step (first|(with_reducible exact Calls.regrown_of (F1.out _ (hGX.below (below_regrown _ _ _))))|(with_reducible exact Calls.regrown_of (F2.out _ (hGX.below (below_regrown _ _ _))))|(with_reducible exact Calls.regrown_of (Q.out _))))
  refine wpQuiet_nil ?_
  intro wq hbq
  replace hbq:=Ae hbq
  clear F1 F2 g0 g1 c0 c1 Q
  go_wp2
  go_ret
  exact⟨rfl,hBX.trans (hbq.mono hBX.size)⟩
def nodeGood (f:CH.Formula) (nk:Nat):Bool:=CH.nodeOk f.op f.name f.cmp f.n nk&&!(f.op==3&&(decide (f.n<0)||decide (f.n > 1000000)||CH.isKey f.name))
def errN (b:Bool):Int:=if b then 0 else 1
abbrev errOf (b:Bool):Value:=.int .i64 (errN b)
theorem errN_true:(errN true != 0)=false:=rfl
theorem errN_false:(errN false != 0)=true:=rfl
theorem okf_good (f:CH.Formula):f.ok=(nodeGood f f.kids.length&&CH.okAll f.kids):=okf_eq f
theorem badNode_any (f:CH.Formula) (ak:Option Addr) (nk ck:Nat) (w:World) (hn:f.name.length≤20000) :
  Calls prog 129 #[.agg (Af f (.slice ak nk ck))] w (Ret w (errOf (nodeGood f nk))):=by
 have F:=fun w'=>nodeFormed_any f.op f.cmp f.n f.name ak nk ck w' hn
 have Y:=fun w'=>formulaKey_any f.name w'
 obtain⟨r,hr⟩:∃ r,Hid (nodeGood f nk=r):=⟨_,hid rfl⟩
 rw [hr.out]
 have hB0:=fun o=>(Below.refl _ w).alloc nR o
 have hW:=fun o=>heap_alloc_last w o
 dsimp only [Af]
 unfold nodeGood at hr
 generalize f.op=op at *
 generalize f.name=name at *
 generalize f.cmp=cmp at *
 generalize f.n=n at *
 cases ho:CH.nodeOk op name cmp n nk with
 | false =>
  rw [ho] at F
  have F:=hid F
  have hr1:r=false:=by rw [← hr.out,ho];rfl
  clear hr Y
  subst hr1
  go_enter func129,ntmps129
  go_wp2_with fail
  refine (F.out _).mono ?_
  rintro e w1 ⟨rfl,hb1⟩
  clear F
  go_wp2
  go_ret
  exact⟨rfl,(hB0 _).trans (hb1.mono (by simp))⟩
 | true =>
  rw [ho] at F
  have F:=hid F
  have hr1:Hid (r=!(op==3&&(decide (n<0)||decide (n > 1000000)||CH.isKey name))):=hid (by rw [← hr.out,ho];rfl)
  clear hr
  go_enter func129,ntmps129
  go_wp2_with fail
  refine (F.out _).mono ?_
  rintro e w1 ⟨rfl,hb1⟩
  have hB1:Below w.heap.size w w1:=(hB0 _).trans (hb1.mono (by simp))
  have hblk:=(hb1.block w.heap.size (by simp)).trans (hW _)
  have k0:w1.cell? ⟨w.heap.size,0,none⟩=some (.int .i64 op):=cell_of hblk 0
  have k1:w1.cell? ⟨w.heap.size,1,none⟩=some (.string ⟨name.toArray⟩):=cell_of hblk 1
  have k3:w1.cell? ⟨w.heap.size,3,none⟩=some (.int .i64 n):=cell_of hblk 3
  clear F hb1 hblk hW hB0
  cases z3:(op==3) with
  | false =>
   have hr2:r=true:=by rw [hr1.out,z3];rfl
   clear hr1 Y
   subst hr2
   go_wp2
   go_ret
   exact⟨rfl,hB1⟩
  | true =>
   cases d1:decide (n<0) with
   | true =>
    have hr2:r=false:=by rw [hr1.out,z3,d1];rfl
    clear hr1 Y
    subst hr2
    go_wp2
    go_ret
    exact⟨rfl,hB1⟩
   | false =>
    cases d2:decide (1000000<n) with
    | true =>
     have hr2:r=false:=by rw [hr1.out,z3,d1];show (!(true&&(false||decide (1000000<n)||_)))=false;rw [d2];rfl
     clear hr1 Y
     subst hr2
     go_wp2
     go_ret
     exact⟨rfl,hB1⟩
    | false =>
     have hr2:r=!(CH.isKey name):=by rw [hr1.out,z3,d1];show (!(true&&(false||decide (1000000<n)||_)))=_;rw [d2];rfl
     clear hr1
     obtain⟨by_,ey⟩:∃ b,CH.isKey name=b:=⟨_,rfl⟩
     rw [ey] at Y hr2
     have Y:=hid Y
     subst hr2
     clear ey
     go_wp2_with fail
     refine (Y.out _).mono ?_
     rintro e w2 ⟨rfl,hb2⟩
     clear Y
     cases by_
     ·go_wp2
      go_ret
      exact⟨rfl,hB1.trans (hb2.mono hB1.size)⟩
     ·go_wp2
      go_ret
      exact⟨rfl,hB1.trans (hb2.mono hB1.size)⟩
mutual
def Ca:CH.Formula→Prop
 | .mk _ name _ _ kids=>name.length≤20000∧Ch kids
def Ch:List CH.Formula→Prop
 | []=>True
 | f::l=>Ca f∧Ch l
end
theorem Ca.name {f:CH.Formula} (h:Ca f):f.name.length≤20000:=by
 cases f with|mk op name cmp n kids=>unfold Ca at h;exact h.1
theorem Ca.kids {f:CH.Formula} (h:Ca f):Ch f.kids:=by
 cases f with|mk op name cmp n kids=>unfold Ca at h;exact h.2
theorem Ch.mem {l:List CH.Formula} (h:Ch l) {f:CH.Formula} (hf:f∈l):Ca f:=by
 induction l with
 | nil=>cases hf
 | cons g l ih =>
  unfold Ch at h
  rcases List.mem_cons.1 hf with rfl|hf
  ·exact h.1
  ·exact ih h.2 hf
theorem okAll_append (l m:List CH.Formula):CH.okAll (l++m)=(CH.okAll l&&CH.okAll m):=by
 induction l with
 | nil=>simp [CH.okAll]
 | cons f l ih=>simp [CH.okAll,ih,Bool.and_assoc]
theorem okAll_take {l:List CH.Formula} (k:Nat) (h:CH.okAll (l.take k)=false):CH.okAll l=false:=by
 rw [← List.take_append_drop k l,okAll_append,h];rfl
theorem first_enters (args:Array Value) (w:World):(callFunc 129 args).run prog w=.ok (.enter 129 args) w:=enters_of func129 (by kernel_rfl) rfl args w
theorem first_any (k:Nat):∀ (f:CH.Formula) (vk:Value) (w:World),f.depth≤k→Am w.heap.size w f vk→Ca f →
  Calls prog 133 #[.agg (Af f vk),.func (.func 129) #[] #[]] w (Ret w (errOf f.ok)):=by
 induction k with
 | zero=>intro f vk w hk;exact absurd hk (by rw [Dh];omega)
 | succ k ih =>
  intro f vk w hk hK hS
  obtain⟨ak,ck,rfl,hc1,hc2,hrow⟩:=hK.form
  have hdepth:=Dh f
  have N0:=fun w'=>badNode_any f ak f.kids.length ck w' hS.name
  obtain⟨r,hr⟩:∃ r,Hid (f.ok=r):=⟨_,hid rfl⟩
  rw [hr.out]
  have hr':Hid ((nodeGood f f.kids.length&&CH.okAll f.kids)=r):=hid (by rw [← okf_good];exact hr.out)
  clear hr
  have hrow:=hid hrow
  have hSk:=hid hS.kids
  obtain⟨g,hg⟩:∃ g,nodeGood f f.kids.length=g:=⟨_,rfl⟩
  rw [hg] at N0 hr'
  have N0:=hid N0
  have hB0:=fun o=>(Below.refl _ w).alloc nR o
  have hW:=fun o=>heap_alloc_last w o
  generalize hKN:f.kids.length=KN at *
  dsimp only [Af] at N0 ⊢
  clear hg hK hS
  have FE:=first_enters
  go_enter func133,ntmps133
  go_wp2_with fail
  refine (N0.out _).mono ?_
  rintro e w1 ⟨rfl,hb1⟩
  have hB1:Below w.heap.size w w1:=(hB0 _).trans (hb1.mono (by simp))
  have hblk:=(hb1.block w.heap.size (by simp)).trans (hW _)
  have k4:w1.cell? ⟨w.heap.size,4,none⟩=some (.slice ak KN ck):=cell_of hblk 4
  clear N0 hb1 hblk hW hB0
  have hB1':=hid hB1
  clear hB1
  go_wp2_with fail
  go_loopw [5,14] (fun ev iv wr=>∃ j:Nat,j≤KN∧iv=.int .i64 j∧ev=.int .i64 (errN (g&&CH.okAll (f.kids.take j)))∧Hid (Below w.heap.size w wr)) (fun _ iv _=>KN - (RowKit.intOf iv).toNat)
  case atStart=>exact⟨0,Nat.zero_le _,rfl,by simp [CH.okAll],hB1'⟩
  case round =>
   obtain⟨j,hj,rfl,rfl,hb⟩:=hrel
   obtain⟨b,hbj⟩:∃ b,(g&&CH.okAll (f.kids.take j))=b:=⟨_,rfl⟩
   rw [hbj]
   have hz1:=errN_true
   have hz2:=errN_false
   by_cases hlt:j<KN
   ·obtain⟨x,hx⟩:∃ x,f.kids[j]?=some x:=⟨_,lZ (by omega)⟩
    obtain⟨bb,off,rfl,hblt,hcs⟩:=hrow.out (fun e=>by rw [e] at hKN;simp at hKN;omega)
    obtain⟨vx,c0,c1,c2,c3,c4,hkx⟩:=RowAt.get _ _ _ _ _ hcs hx
    have hc:=fun o=>hb.out.cell (p:=⟨bb,o,none⟩) hblt
    have e0:=(hc _).trans c0
    have e1:=(hc _).trans c1
    have e2:=(hc _).trans c2
    have e3:=(hc _).trans c3
    have e4:=(hc _).trans c4
    have hmem:x∈f.kids:=List.mem_of_getElem? hx
    have hdx:x.depth≤k:=by have:=depth_mem hmem;omega
    have IH:=hid fun (W:World) (hbW:Below w.heap.size w W)=>ih x vx W hdx (Am.mono hbW.size _ _ (Am.below hbW nR _ _ hkx)) (hSk.out.mem hmem)
    have hts:Hid (CH.okAll (f.kids.take (j+1))=(CH.okAll (f.kids.take j)&&x.ok)):=hid (by rw [List.take_add_one,hx];show CH.okAll (_++[x])=_;rw [okAll_append];simp [CH.okAll])
    obtain⟨ax,cx,rfl,_,_⟩:=hkx.form
    generalize x.kids.length=xn at *
    clear c0 c1 c2 c3 c4 hc hcs hx hkx hmem hdx
    dsimp only [Af] at IH
    have hbj':=hid hbj
    clear hbj
    cases b with
    | true =>
     go_wp2_with fail
     refine (IH.out _ ?_).mono ?_
     ·exact (hb.out.alloc hb.out.size _)
     rintro e w2 ⟨rfl,hb2⟩
     have hB2:Hid (Below w.heap.size w w2):=hid ((hb.out.alloc hb.out.size _).trans (hb2.mono (by have:=hb.out.size;simp;omega)))
     clear IH hb2
     go_wp2
     go_roundw
     case rel=>exact⟨j+1,by omega,by go_num,by rw [hts.out,← Bool.and_assoc,hbj'.out];simp,hB2⟩
     case measure=>simp [RowKit.intOf];omega
    | false =>
     have hr2:r=false:=by
      rw [← hr'.out]
      cases g with
      | false=>rfl
      | true=>rw [okAll_take j (by simpa using hbj'.out)];rfl
     subst hr2
     clear IH
     have hB2:=hid (fun o=>hb.out.alloc hb.out.size o)
     clear hb
     go_wp2
     go_ret
     exact⟨rfl,hB2.out _⟩
   ·obtain rfl:j=KN:=by omega
    have hr2:r=b:=by rw [← hr'.out,← hbj,← hKN,List.take_length]
    subst hr2
    have hbj':=hid hbj
    clear hbj
    go_wp2
    go_ret
    exact⟨rfl,hb.out⟩
theorem node_of_ok {f:CH.Formula} (h:f.ok=true):CH.nodeOk f.op f.name f.cmp f.n f.kids.length=true∧(f.op=3→0≤f.n∧f.n≤1000000)∧CH.okAll f.kids=true:=by
 rw [okf_eq] at h
 simp only [Bool.and_eq_true,Bool.not_eq_true'] at h
 refine⟨h.1.1,fun h3=>?_,h.2⟩
 have h2:=h.1.2
 rw [h3] at h2
 simp at h2
 omega
theorem op_of_ok {f:CH.Formula} (h:f.ok=true):f.op=1∨f.op=2∨(f.op=3∧1≤f.cmp∧f.cmp≤6)∨(f.op=4∧f.kids.length=1)∨f.op=5∨f.op=6:=by
 have hn:=(node_of_ok h).1
 unfold CH.nodeOk at hn
 by_cases h3:f.op=3
 ·rw [if_pos h3] at hn
  simp only [Bool.and_eq_true,decide_eq_true_eq,beq_iff_eq] at hn
  exact .inr (.inr (.inl ⟨h3,hn.2.1,hn.2.2.1⟩))
 ·rw [if_neg h3] at hn
  split at hn
  ·cases hn
  ·split at hn
   ·rename_i h12;rcases h12 with h|h
    ·exact .inl h
    ·exact .inr (.inl h)
   ·split at hn
    ·rename_i h4
     exact .inr (.inr (.inr (.inl ⟨h4,by simpa using hn⟩)))
    ·simp only [Bool.and_eq_true,Bool.or_eq_true,beq_iff_eq] at hn
     rcases hn.1 with h|h
     ·exact .inr (.inr (.inr (.inr (.inl h))))
     ·exact .inr (.inr (.inr (.inr (.inr h))))
def Ah (op:Int) (f:CH.Formula):List UInt8:=if f.op==6||f.op==5&&op != 6 then [40]++f.text++[41] else f.text
theorem textAll_map (op:Int) (l:List CH.Formula):CH.textAll op l=l.map (Ah op):=by
 induction l with
 | nil=>rfl
 | cons f l ih=>simp [CH.textAll,Ah,ih]
theorem text_eq (f:CH.Formula):f.text=(if f.op=1 then ([116,114,117,101]:List UInt8) else if f.op=2 then ([102,97,108,115,101]:List UInt8) else if f.op=3 then f.name++[32]++CH.cmpWord f.cmp++[32]++Go.Lib.itoa f.n
  else if f.op=4 then ([110,111,116,32]:List UInt8)++((f.kids.map (Ah f.op))[0]?.getD []) else if f.op=5 then CH.join ([32,97,110,100,32]:List UInt8) (f.kids.map (Ah f.op)) else CH.join ([32,111,114,32]:List UInt8) (f.kids.map (Ah f.op))):=by
 cases f with
 | mk op name cmp n kids=>simp only [CH.Formula.op,CH.Formula.name,CH.Formula.cmp,CH.Formula.n,CH.Formula.kids,← textAll_map];rfl
theorem text_mk (op:Int) (name:List UInt8) (cmp n:Int) (kids:List CH.Formula):(CH.Formula.mk op name cmp n kids).text=(if op=1 then ([116,114,117,101]:List UInt8) else if op=2 then ([102,97,108,115,101]:List UInt8) else if op=3 then name++[32]++CH.cmpWord cmp++[32]++Go.Lib.itoa n
  else if op=4 then ([110,111,116,32]:List UInt8)++((kids.map (Ah op))[0]?.getD []) else if op=5 then CH.join ([32,97,110,100,32]:List UInt8) (kids.map (Ah op)) else CH.join ([32,111,114,32]:List UInt8) (kids.map (Ah op))):=text_eq _
theorem cmpWord_len (c:Int):(CH.cmpWord c).length≤2:=by
 unfold CH.cmpWord
 repeat' split
 all_goals decide
theorem join_len_sum (sep:List UInt8):∀ ls:List (List UInt8),(CH.join sep ls).length≤(ls.map fun l=>l.length+sep.length).sum:=by
 intro ls
 induction ls with
 | nil=>simp [CH.join]
 | cons x l ih =>
  cases l with
  | nil=>simp [CH.join]
  | cons y l =>
   rw [CH.join]
   simp only [List.length_append,List.map_cons,List.sum_cons] at ih ⊢
   omega
mutual
theorem text_len:∀ f:CH.Formula,Ca f→f.ok=true→f.text.length+20≤f.count*30000
 | .mk op name cmp n kids,hS,hok=>by
  have hn:=(node_of_ok hok).2.1
  have hk:=texts_len op kids (by unfold Ca at hS;exact hS.2) (node_of_ok hok).2.2
  have hname:name.length≤20000:=by unfold Ca at hS;exact hS.1
  rw [text_mk,count_eq]
  replace hn:op=3→0≤n∧n≤1000000:=hn
  show _≤(1+CH.countAll kids)*30000
  have hc:=cmpWord_len cmp
  by_cases h1:op=1
  ·rw [if_pos h1];simp;omega
  rw [if_neg h1]
  by_cases h2:op=2
  ·rw [if_pos h2];simp;omega
  rw [if_neg h2]
  by_cases h3:op=3
  ·rw [if_pos h3]
   have:=hn h3
   have hi:=Lib.itoa_length_le n (by omega) (by omega)
   simp only [List.length_append,List.length_cons,List.length_nil]
   omega
  rw [if_neg h3]
  by_cases h4:op=4
  ·rw [if_pos h4]
   simp only [List.length_append,List.length_cons,List.length_nil]
   have h0:(((kids.map (Ah op))[0]?).getD []).length≤((kids.map (Ah op)).map fun l=>l.length+5).sum:=by
    cases kids with
    | nil=>simp
    | cons a l=>simp;omega
   omega
  rw [if_neg h4]
  by_cases h5:op=5
  ·rw [if_pos h5]
   have:(CH.join ([32,97,110,100,32]:List UInt8) (kids.map (Ah op))).length≤((kids.map (Ah op)).map fun l=>l.length+5).sum:=join_len_sum ([32,97,110,100,32]:List UInt8) (kids.map (Ah op))
   omega
  rw [if_neg h5]
  have:(CH.join ([32,111,114,32]:List UInt8) (kids.map (Ah op))).length≤((kids.map (Ah op)).map fun l=>l.length+4).sum:=join_len_sum ([32,111,114,32]:List UInt8) (kids.map (Ah op))
  have h45:((kids.map (Ah op)).map fun l=>l.length+4).sum≤((kids.map (Ah op)).map fun l=>l.length+5).sum:=by
   generalize kids.map (Ah op)=ls
   induction ls with
   | nil=>simp
   | cons a l ih=>simp only [List.map_cons,List.sum_cons];omega
  omega
theorem texts_len (op:Int):∀ l:List CH.Formula,Ch l→CH.okAll l=true→((l.map (Ah op)).map fun t=>t.length+5).sum≤CH.countAll l*30000
 | [],_,_=>by simp
 | f::l,hS,hok=>by
  unfold Ch at hS
  simp only [CH.okAll,Bool.and_eq_true] at hok
  have h1:=text_len f hS.1 hok.1
  have h2:=texts_len op l hS.2 hok.2
  have h3:(Ah op f).length≤f.text.length+2:=by unfold Ah;split <;> simp
  simp only [List.map_cons,List.sum_cons,CH.countAll]
  omega
end
end
section
def textV:Option (List UInt8)→Value
 | some t=>.tuple #[.string ⟨t.toArray⟩,.int .i64 0]
 | none=>.tuple #[.string ⟨#[]⟩,.int .i64 1]
theorem bytes_append (a b:List UInt8):(⟨a.toArray⟩:ByteArray)++⟨b.toArray⟩=⟨(a++b).toArray⟩:=by
 apply ByteArray.ext
 simp
end
section
open Go.Lib Go.Proofs.Tryz Go.RowKit Go.Shelf Go.Sort
theorem sym_index (c:Int) (h1:1≤c) (h6:c≤6) (w:World):(Instr.index 199 (.agg symCells) (.int .i64 c)).run prog w=.ok (.string ⟨(CH.cmpWord c).toArray⟩) w:=by
 rcases (by omega:c=1∨c=2∨c=3∨c=4∨c=5∨c=6) with rfl|rfl|rfl|rfl|rfl|rfl <;> simp [Instr.index,run_underlying underlying199,go_sem,symCells,CH.cmpWord]
theorem textTest_any (f:CH.Formula) (ak:Option Addr) (nk ck:Nat) (w:World) (hG:Gl w) (h3:f.op=3) (hc1:1≤f.cmp) (hc6:f.cmp≤6) (hn0:0≤f.n) (hn1:f.n≤1000000) (hname:f.name.length≤20000) :
  Calls prog 134 #[.agg (Af f (.slice ak nk ck))] w (Ret w (.string ⟨f.text.toArray⟩)):=by
 have hres:Hid (f.name++[32]++CH.cmpWord f.cmp++[32]++Go.Lib.itoa f.n=f.text):=hid (by rw [text_eq,if_neg (by omega),if_neg (by omega),if_pos h3])
 generalize f.text=R at *
 have hwl:=cmpWord_len f.cmp
 have hil:=Lib.itoa_length_le f.n (by omega) (by omega)
 have hix:=fun w'=>sym_index f.cmp hc1 hc6 w'
 dsimp only [Af]
 rw [h3]
 have cT0:=fun W'=>symbols_any W'
 have cI0:=fun (W':World) (hG':Gl W')=>Ce f.n W' (by omega) (by omega) hG'
 dsimp only [symCells] at cT0 hix
 generalize f.name=name at *
 generalize f.cmp=cmp at *
 generalize f.n=n at *
 generalize CH.cmpWord cmp=Wd at *
 generalize Lib.itoa n=J at *
 have hB0:=fun o=>(Below.refl _ w).alloc nR o
 have hW:=fun o=>heap_alloc_last w o
 have hG0:=fun o=>hG.below (hB0 o)
 have cT:=hid cT0
 have cI:=hid cI0
 clear cT0 cI0
 go_enter func134,ntmps134
 go_wp2_with fail
 have hb0:=hW (.cells #[.int .i64 3,.string ⟨name.toArray⟩,.int .i64 cmp,.int .i64 n,.slice ak nk ck] 57)
 have hg0:=hG0 (.cells #[.int .i64 3,.string ⟨name.toArray⟩,.int .i64 cmp,.int .i64 n,.slice ak nk ck] 57)
 have hB0':=hB0 (.cells #[.int .i64 3,.string ⟨name.toArray⟩,.int .i64 cmp,.int .i64 n,.slice ak nk ck] 57)
 clear hW hG0 hB0
 generalize w.alloc (.cells #[.int .i64 3,.string ⟨name.toArray⟩,.int .i64 cmp,.int .i64 n,.slice ak nk ck] 57)=w1 at *
 have g1:∀ (d:Nat) (os:Array Obj),(grow (redrawn w1 d) os).cell? ⟨w.heap.size,1,none⟩=some (.string ⟨name.toArray⟩):=cell_regrown (cell_of hb0 1)
 have g2:∀ (d:Nat) (os:Array Obj),(grow (redrawn w1 d) os).cell? ⟨w.heap.size,2,none⟩=some (.int .i64 cmp):=cell_regrown (cell_of hb0 2)
 have g3:∀ (d:Nat) (os:Array Obj),(grow (redrawn w1 d) os).cell? ⟨w.heap.size,3,none⟩=some (.int .i64 n):=cell_regrown (cell_of hb0 3)
 have l1:¬ (9223372036854775807<name.length+1):=by omega
 have l2:¬ (9223372036854775807<name.length+1+Wd.length):=by omega
 have l3:¬ (9223372036854775807<name.length+1+Wd.length+1):=by omega
 have l4:¬ (9223372036854775807<name.length+1+Wd.length+1+J.length):=by omega
 clear hb0
 refine wp_region_quiet_below (by kernel_rfl) (by kernel_rfl) ?_
 repeat (quiet_step (first|exact Calls.regrown_of (cT.out _)|exact Calls.regrown_of (cI.out _ (hg0.below (below_regrown _ _ _)))))
 refine wpQuiet_nil ?_
 intro wq hbq
 replace hbq:=Ae hbq
 clear cT cI g1 g2 g3 hix
 go_wp2
 go_ret
 refine⟨?_,hB0'.trans (hbq.mono hB0'.size)⟩
 rw [← hres.out]
 simp only [← bytes_append]
 rfl
structure Gc (w:World):Prop where
 gl:Gl w
 cases_:Lib.CaseVar 8 Lib.caseA w
theorem Gc.below {w w':World} (h:Gc w) (hb:Below w.heap.size w w'):Gc w':=⟨h.gl.below hb,Lib.CaseVar_below h.cases_ hb⟩
theorem indexByte_ge (c:UInt8):∀ l:List UInt8,decide (0≤Lib.indexByte l c)=l.contains c:=by
 intro l
 rw [indexByte_eq]
 cases hf:l.findIdx? (·==c) with
 | none =>
  have:=List.findIdx?_eq_none_iff.1 hf
  have hn:l.contains c=false:=by
   rw [Bool.eq_false_iff]
   intro hc
   have hm:c∈l:=by simpa using hc
   have:=this c hm
   simp at this
  rw [hn];rfl
 | some n =>
  obtain⟨h1,h2,_⟩:=List.findIdx?_eq_some_iff_getElem.1 hf
  have:l.contains c=true:=by
   have e:l[n]=c:=by simpa using h2
   have:=List.getElem_mem h1
   rw [e] at this
   simpa using this
  rw [this];simp
theorem scriptIs_any (s set:List UInt8) (i:Nat) (w:World) (hs:s.length≤1000000) (hi:i≤10) :
  Calls prog 249 #[.string ⟨s.toArray⟩,.int .i64 i,.string ⟨set.toArray⟩] w (fun e w'=>e=.returned (.bool (CH.isIn s i set))∧w'=w):=by
 by_cases hlt:i<s.length
 ·obtain⟨ch,hch⟩:∃ ch,s[i]?=some ch:=⟨_,lZ hlt⟩
  have hgk:=byte_at s i hlt ch hch
  have hv:CH.isIn s i set=set.contains ch:=by unfold CH.isIn;rw [hch]
  have C:=Tryz.strings_IndexByte ⟨set.toArray⟩ (ch.toNat:Int) w
  have e1:(ByteArray.mk set.toArray).data.toList=set:=rfl
  have e2:((ch.toNat:Int)).toNat.toUInt8=ch:=by simp
  rw [e1,e2] at C
  have hge:=indexByte_ge ch set
  rw [hv,← hge]
  have C:=hid C
  clear hv hge hch e1 e2
  generalize Lib.indexByte set ch=z at *
  go_enter func249,ntmps249
  go_wp2_with fail
  refine C.out.mono ?_
  rintro e w1 ⟨rfl,hw1⟩
  rw [hw1]
  clear C hw1 w1
  go_wp2
  go_ret
  exact⟨rfl,rfl⟩
 ·have hv:CH.isIn s i set=false:=by unfold CH.isIn;rw [List.getElem?_eq_none (by omega)]
  have d1:decide ((i:Int)<(s.length:Int))=false:=by simp;omega
  rw [hv]
  clear hv
  go_enter func249,ntmps249
  go_wp2
  go_ret
  exact⟨rfl,rfl⟩
theorem lower_high:∀ n:Fin 128,(Lib.toLowerD [UInt8.ofNat (n.val+128)])[0]?=some 239:=by decide +kernel
theorem lower_low:∀ n:Fin 128,CH.isIn (Lib.toLowerA [UInt8.ofNat n.val]) 0 CH.smalls=CH.isLetter0 [UInt8.ofNat n.val]:=by decide +kernel
theorem lower_one (b:UInt8):CH.isIn (Lib.toLowerD [b]) 0 CH.smalls=CH.isLetter0 [b]:=by
 by_cases hb:b.toNat<128
 ·rw [Lib.toLowerD_ascii _ (by intro x hx;simp at hx;subst hx;exact hb)]
  have h:=lower_low ⟨b.toNat,hb⟩
  simpa using h
 ·have h:=lower_high ⟨b.toNat - 128,by have:=UInt8.toNat_lt b;omega⟩
  have e:UInt8.ofNat ((b.toNat - 128)+128)=b:=by
   rw [show b.toNat - 128+128=b.toNat from by omega];simp
  dsimp only at h
  rw [e] at h
  have h1:CH.isIn (Lib.toLowerD [b]) 0 CH.smalls=false:=by
   unfold CH.isIn;rw [h];rfl
  rw [h1]
  have h2:∀ n:Fin 128,CH.isLetter0 [UInt8.ofNat (n.val+128)]=false:=by decide +kernel
  have h3:=h2 ⟨b.toNat - 128,by have:=UInt8.toNat_lt b;omega⟩
  dsimp only at h3
  rw [e] at h3
  exact h3.symm
theorem lower_take (s:List UInt8):CH.isIn (Lib.toLowerD (s.take 1)) 0 CH.smalls=CH.isLetter0 s:=by
 cases s with
 | nil=>decide +kernel
 | cons b l =>
  show CH.isIn (Lib.toLowerD [b]) 0 CH.smalls=CH.isLetter0 (b::l)
  rw [lower_one]
  rfl
theorem lower_len (s:List UInt8):(Lib.toLowerD (s.take 1)).length≤100:=by
 cases s with
 | nil=>decide +kernel
 | cons b l =>
  show (Lib.toLowerD [b]).length≤100
  have h:∀ n:Fin 256,(Lib.toLowerD [UInt8.ofNat n.val]).length≤100:=by decide +kernel
  have:=h ⟨b.toNat,UInt8.toNat_lt b⟩
  simpa using this
theorem length_any (k:Int) (s:List UInt8) (w:World) (hG:Gc w) (hs:s.length≤1000000) :
  Calls prog 236 #[.int .i64 k,.string ⟨s.toArray⟩] w (Ret w (.int .i64 (CH.slen k s:Nat))):=by
 obtain⟨r,hr⟩:∃ r,Hid (CH.slen k s=r):=⟨_,hid rfl⟩
 rw [hr.out]
 have I:=hid fun (set:List UInt8) (i:Nat) (hi:i≤10) (w:World)=>scriptIs_any s set i w hs hi
 by_cases k1:k=1
 ·subst k1
  cases hb:CH.isIn s 0 CH.smalls with
  | true =>
   have A:=I.out CH.smalls 0 (by decide) w
   rw [hb] at A
   replace A:=hid A
   go_enter func236,ntmps236
   go_wp2_with fail
   refine A.out.mono ?_
   rintro e w9 ⟨rfl,hw9⟩
   rw [hw9]
   clear A hw9 w9
   clear I
   go_wp2
   go_ret
   exact⟨by rw [← hr.out];simp only [CH.slen,hb];rfl,Below.refl _ _⟩
  | false =>
   have A:=I.out CH.smalls 0 (by decide) w
   rw [hb] at A
   replace A:=hid A
   go_enter func236,ntmps236
   go_wp2_with fail
   refine A.out.mono ?_
   rintro e w9 ⟨rfl,hw9⟩
   rw [hw9]
   clear A hw9 w9
   clear I
   go_wp2
   go_ret
   exact⟨by rw [← hr.out];simp only [CH.slen,hb];rfl,Below.refl _ _⟩
 by_cases k2:k=2
 ·subst k2
  have hex:(ByteArray.mk s.toArray).extract 0 (min (1:Int) (s.length:Int)).toNat=⟨(s.take 1).toArray⟩:=by
   rw [show (min (1:Int) (s.length:Int)).toNat=min 1 s.length from by omega,Cf]
   simp
  have T:=hid (Tryz.strings_ToLower_any ⟨(s.take 1).toArray⟩ w (by show (s.take 1).toArray.size<_;simp;omega) hG.cases_ hG.gl.utf8)
  have hll:=lower_len s
  have hlt:=lower_take s
  have J1:=fun w=>scriptIs_any (Lib.toLowerD (s.take 1)) CH.smalls 0 w (by omega) (by decide)
  rw [hlt] at J1
  have J1:=hid J1
  clear hlt hll
  go_enter func236,ntmps236
  go_wp2_with fail
  refine T.out.mono ?_
  rintro e w1 ⟨rfl,hb1⟩
  clear T
  generalize Lib.toLowerD (s.take 1)=LD at *
  cases hL:CH.isLetter0 s with
  | false =>
   have A:=J1.out w1
   rw [hL] at A
   replace A:=hid A
   clear J1
   go_wp2_with fail
   refine A.out.mono ?_
   rintro e w2 ⟨rfl,hw2⟩
   rw [hw2]
   clear A I hw2 w2
   go_wp2
   go_ret
   exact⟨by rw [← hr.out];simp only [CH.slen,hL];rfl,hb1⟩
  | true =>
   have A:=J1.out w1
   rw [hL] at A
   replace A:=hid A
   clear J1
   go_wp2_with fail
   refine A.out.mono ?_
   rintro e w2 ⟨rfl,hw2⟩
   rw [hw2]
   clear A hw2 w2
   cases hq:CH.isIn s 1 [39,96,94] with
   | true =>
    have A:=I.out [39,96,94] 1 (by decide) w1
    rw [hq] at A
    replace A:=hid A
    go_wp2_with fail
    refine A.out.mono ?_
    rintro e w9 ⟨rfl,hw9⟩
    rw [hw9]
    clear A hw9 w9
    clear I
    go_wp2
    go_ret
    exact⟨by rw [← hr.out];simp only [CH.slen,hL,hq];rfl,hb1⟩
   | false =>
    have A:=I.out [39,96,94] 1 (by decide) w1
    rw [hq] at A
    replace A:=hid A
    go_wp2_with fail
    refine A.out.mono ?_
    rintro e w9 ⟨rfl,hw9⟩
    rw [hw9]
    clear A hw9 w9
    clear I
    go_wp2
    go_ret
    exact⟨by rw [← hr.out];simp only [CH.slen,hL,hq];rfl,hb1⟩
 by_cases k3:k=3
 ·subst k3
  cases hb:CH.isIn s 0 ([98,100,102,103,104,106,107,108,109,110,112,113,114,115,116,119,120,121,122,39]:List UInt8) with
  | true =>
   have A:=I.out ([98,100,102,103,104,106,107,108,109,110,112,113,114,115,116,119,120,121,122,39]:List UInt8) 0 (by decide) w
   rw [hb] at A
   replace A:=hid A
   go_enter func236,ntmps236
   go_wp2_with fail
   refine A.out.mono ?_
   rintro e w9 ⟨rfl,hw9⟩
   rw [hw9]
   clear A hw9 w9
   clear I
   go_wp2
   go_ret
   exact⟨by rw [← hr.out];simp only [CH.slen,hb];rfl,Below.refl _ _⟩
  | false =>
   have A:=I.out ([98,100,102,103,104,106,107,108,109,110,112,113,114,115,116,119,120,121,122,39]:List UInt8) 0 (by decide) w
   rw [hb] at A
   replace A:=hid A
   go_enter func236,ntmps236
   go_wp2_with fail
   refine A.out.mono ?_
   rintro e w9 ⟨rfl,hw9⟩
   rw [hw9]
   clear A hw9 w9
   clear I
   go_wp2
   go_ret
   exact⟨by rw [← hr.out];simp only [CH.slen,hb];rfl,Below.refl _ _⟩
 by_cases k4:k=4
 ·subst k4
  cases h1:CH.isIn s 0 ([107,115,116,110,104,109,121,114,119,103,122,100,98,112]:List UInt8) with
  | true =>
   have A:=I.out ([107,115,116,110,104,109,121,114,119,103,122,100,98,112]:List UInt8) 0 (by decide) w
   rw [h1] at A
   replace A:=hid A
   go_enter func236,ntmps236
   go_wp2_with fail
   refine A.out.mono ?_
   rintro e w9 ⟨rfl,hw9⟩
   rw [hw9]
   clear A hw9 w9
   cases h2:CH.isIn s 1 ([97,105,117,101,111]:List UInt8) with
   | true =>
    have A:=I.out ([97,105,117,101,111]:List UInt8) 1 (by decide) w
    rw [h2] at A
    replace A:=hid A
    go_wp2_with fail
    refine A.out.mono ?_
    rintro e w9 ⟨rfl,hw9⟩
    rw [hw9]
    clear A hw9 w9
    clear I
    go_wp2
    go_ret
    exact⟨by rw [← hr.out];simp only [CH.slen,h1,h2];rfl,Below.refl _ _⟩
   | false =>
    have A:=I.out ([97,105,117,101,111]:List UInt8) 1 (by decide) w
    rw [h2] at A
    replace A:=hid A
    go_wp2_with fail
    refine A.out.mono ?_
    rintro e w9 ⟨rfl,hw9⟩
    rw [hw9]
    clear A hw9 w9
    cases h3:CH.isIn s 0 ([97,105,117,101,111]:List UInt8) with
    | true =>
     have A:=I.out ([97,105,117,101,111]:List UInt8) 0 (by decide) w
     rw [h3] at A
     replace A:=hid A
     go_wp2_with fail
     refine A.out.mono ?_
     rintro e w9 ⟨rfl,hw9⟩
     rw [hw9]
     clear A hw9 w9
     clear I
     go_wp2
     go_ret
     exact⟨by rw [← hr.out];simp only [CH.slen,h1,h2,h3];rfl,Below.refl _ _⟩
    | false =>
     have A:=I.out ([97,105,117,101,111]:List UInt8) 0 (by decide) w
     rw [h3] at A
     replace A:=hid A
     go_wp2_with fail
     refine A.out.mono ?_
     rintro e w9 ⟨rfl,hw9⟩
     rw [hw9]
     clear A hw9 w9
     cases h4:CH.isIn s 0 [110] with
     | true =>
      have A:=I.out [110] 0 (by decide) w
      rw [h4] at A
      replace A:=hid A
      go_wp2_with fail
      refine A.out.mono ?_
      rintro e w9 ⟨rfl,hw9⟩
      rw [hw9]
      clear A hw9 w9
      clear I
      go_wp2
      go_ret
      exact⟨by rw [← hr.out];simp only [CH.slen,h1,h2,h3,h4];rfl,Below.refl _ _⟩
     | false =>
      have A:=I.out [110] 0 (by decide) w
      rw [h4] at A
      replace A:=hid A
      go_wp2_with fail
      refine A.out.mono ?_
      rintro e w9 ⟨rfl,hw9⟩
      rw [hw9]
      clear A hw9 w9
      clear I
      go_wp2
      go_ret
      exact⟨by rw [← hr.out];simp only [CH.slen,h1,h2,h3,h4];rfl,Below.refl _ _⟩
  | false =>
   have A:=I.out ([107,115,116,110,104,109,121,114,119,103,122,100,98,112]:List UInt8) 0 (by decide) w
   rw [h1] at A
   replace A:=hid A
   go_enter func236,ntmps236
   go_wp2_with fail
   refine A.out.mono ?_
   rintro e w9 ⟨rfl,hw9⟩
   rw [hw9]
   clear A hw9 w9
   cases h3:CH.isIn s 0 ([97,105,117,101,111]:List UInt8) with
   | true =>
    have A:=I.out ([97,105,117,101,111]:List UInt8) 0 (by decide) w
    rw [h3] at A
    replace A:=hid A
    go_wp2_with fail
    refine A.out.mono ?_
    rintro e w9 ⟨rfl,hw9⟩
    rw [hw9]
    clear A hw9 w9
    clear I
    go_wp2
    go_ret
    exact⟨by rw [← hr.out];simp only [CH.slen,h1,h3];rfl,Below.refl _ _⟩
   | false =>
    have A:=I.out ([97,105,117,101,111]:List UInt8) 0 (by decide) w
    rw [h3] at A
    replace A:=hid A
    go_wp2_with fail
    refine A.out.mono ?_
    rintro e w9 ⟨rfl,hw9⟩
    rw [hw9]
    clear A hw9 w9
    cases h4:CH.isIn s 0 [110] with
    | true =>
     have A:=I.out [110] 0 (by decide) w
     rw [h4] at A
     replace A:=hid A
     go_wp2_with fail
     refine A.out.mono ?_
     rintro e w9 ⟨rfl,hw9⟩
     rw [hw9]
     clear A hw9 w9
     clear I
     go_wp2
     go_ret
     exact⟨by rw [← hr.out];simp only [CH.slen,h1,h3,h4];rfl,Below.refl _ _⟩
    | false =>
     have A:=I.out [110] 0 (by decide) w
     rw [h4] at A
     replace A:=hid A
     go_wp2_with fail
     refine A.out.mono ?_
     rintro e w9 ⟨rfl,hw9⟩
     rw [hw9]
     clear A hw9 w9
     clear I
     go_wp2
     go_ret
     exact⟨by rw [← hr.out];simp only [CH.slen,h1,h3,h4];rfl,Below.refl _ _⟩
 have d1:(k==1)=false:=by simpa using k1
 have d2:(k==2)=false:=by simpa using k2
 have d3:(k==3)=false:=by simpa using k3
 have d4:(k==4)=false:=by simpa using k4
 clear I
 go_enter func236,ntmps236
 go_wp2
 go_ret
 exact⟨by rw [← hr.out];simp only [CH.slen,k1,k2,k3,k4];rfl,Below.refl _ _⟩
def SomeStr (w:World) (n:Nat) (r:ByteArray→Value) (e:Ending) (w':World):Prop:=∃ b:ByteArray,e=.returned (r b)∧b.size≤n∧Below w.heap.size w w'
theorem clockInstant_any (t:Int) (w:World):Calls prog 213 #[.int .i64 t] w (fun e w'=>e=.returned (.bool (CH.isInstant t))∧w'=w):=by
 obtain⟨r,hr⟩:∃ r,Hid (CH.isInstant t=r):=⟨_,hid rfl⟩
 rw [hr.out]
 by_cases h0:0≤t
 ·have d0:decide (0≤t)=true:=by simpa using h0
  go_enter func213,ntmps213
  go_wp2
  go_ret
  exact⟨by rw [← hr.out];unfold CH.isInstant;rw [d0];rfl,rfl⟩
 ·have d0:decide (0≤t)=false:=by simpa using h0
  go_enter func213,ntmps213
  go_wp2
  go_ret
  exact⟨by rw [← hr.out];unfold CH.isInstant;rw [d0];rfl,rfl⟩
theorem two_any (n:Nat) (w:World) (hG:Gl w) (hn:n≤1000000000):Calls prog 214 #[.int .i64 n] w (SomeStr w 50 fun b=>.string b):=by
 have A:=hid (Ce ((n:Int) / 10) w (by omega) (by omega) hG)
 have A2:=fun w=>Ce ((n:Int) % 10) w (by omega) (by omega)
 go_enter func214,ntmps214
 go_wp2_with fail
 refine A.out.mono ?_
 rintro e w1 ⟨rfl,hb1⟩
 have A3:=hid (A2 w1 (hG.below hb1))
 clear A A2
 go_wp2_with fail
 refine A3.out.mono ?_
 rintro e w2 ⟨rfl,hb2⟩
 clear A3
 have hl1:=Lib.itoa_length_le ((n:Int) / 10) (by omega) (by omega)
 have hl2:=Lib.itoa_length_le ((n:Int) % 10) (by omega) (by omega)
 generalize Lib.itoa ((n:Int) / 10)=l1 at *
 generalize Lib.itoa ((n:Int) % 10)=l2 at *
 go_wp2
 go_ret
 refine⟨_,rfl,?_,hb1.trans (hb2.mono hb1.size)⟩
 simp [ByteArray.size]
 omega
theorem clockText_any (t:Int) (w:World) (hG:Gl w):Calls prog 175 #[.int .i64 t] w (SomeStr w 200 fun b=>.tuple #[.string b,.int .i64 (if CH.isInstant t then 0 else 1)]):=by
 have A:=hid (clockInstant_any t w)
 cases hi:CH.isInstant t with
 | false =>
  rw [hi] at A
  go_enter func175,ntmps175
  go_wp2_with fail
  refine A.out.mono ?_
  rintro e w1 ⟨rfl,rfl⟩
  clear A
  go_wp2
  refine bodyPost_ret (results_tmp2 rfl _ _ _) rfl ?_
  exact⟨_,rfl,Nat.zero_le _,Below.refl _ _⟩
 | true =>
  rw [hi] at A
  obtain⟨n,rfl,hn⟩:∃ n:Nat,t=n∧n≤144001439:=by
   unfold CH.isInstant at hi
   simp at hi
   exact⟨t.toNat,by omega,by omega⟩
  clear hi
  have A1:=hid fun w=>Ce ((n:Int) / 1440) w (by omega) (by omega)
  have A2:=hid (two_any (n % 1440 / 60))
  have A3:=hid (two_any (n % 60))
  have e2:((n % 1440 / 60:Nat):Int)=(n:Int) % 1440 / 60:=by omega
  have e3:((n % 60:Nat):Int)=(n:Int) % 60:=by omega
  rw [e2] at A2
  rw [e3] at A3
  clear e2 e3
  go_enter func175,ntmps175
  go_wp2_with fail
  refine A.out.mono ?_
  rintro e w1 ⟨rfl,rfl⟩
  clear A
  go_wp2_with fail
  refine (A1.out _ hG).mono ?_
  rintro e w2 ⟨rfl,hb2⟩
  have hG2:=hG.below hb2
  clear A1
  have hl1:=Lib.itoa_length_le ((n:Int) / 1440) (by omega) (by omega)
  generalize Lib.itoa ((n:Int) / 1440)=l1 at *
  go_wp2_with fail
  refine (A2.out _ hG2 (by omega)).mono ?_
  rintro e w3 ⟨b3,rfl,hs3,hb3⟩
  have hG3:=hG2.below hb3
  clear A2
  go_wp2_with fail
  refine (A3.out _ hG3 (by omega)).mono ?_
  rintro e w4 ⟨b4,rfl,hs4,hb4⟩
  clear A3
  go_wp2
  refine bodyPost_ret (results_tmp2 rfl _ _ _) rfl ?_
  refine⟨_,rfl,?_,(hb2.trans (hb3.mono hb2.size)).trans (hb4.mono (nT hb2.size hb3.size))⟩
  show (((ByteArray.mk l1.toArray++ByteArray.mk #[47])++b3++ByteArray.mk #[58])++b4).size≤200
  simp only [ByteArray.size_append]
  have e1:(ByteArray.mk l1.toArray).size=l1.length:=by simp [ByteArray.size]
  have e2:(ByteArray.mk #[47]).size=1:=rfl
  have e3:(ByteArray.mk #[58]).size=1:=rfl
  omega
theorem listInstant_any (t:Int) (w:World) (hG:Gl w):Calls prog 125 #[.int .i64 t] w (Ret w (.bool (CH.isInstant t))):=by
 have A:=hid (clockText_any t w hG)
 go_enter func125,ntmps125
 go_wp2_with fail
 refine A.out.mono ?_
 rintro e w1 ⟨b,rfl,hs,hb⟩
 clear A
 cases hi:CH.isInstant t with
 | false =>
  go_wp2
  go_ret
  exact⟨by rw [hi];rfl,hb⟩
 | true =>
  go_wp2
  go_ret
  exact⟨by rw [hi];rfl,hb⟩
def Ax {α:Type} [BEq α] (k:α):List (α × Value)→Nat→Option (Nat × Value)
 | [],_=>none
 |(a,v)::l,i=>if k==a then some (i,v) else Ax k l (i+1)
def MapOf {α:Type} (emb:α→Value) (r:Nat) (w:World) (kvs:List (α × Value)):Prop :=
 ∃ (es:Array MapEntry) (clock:Nat),w.heap[r]?=some (.map es clock)∧es.toList.map (fun e=>(e.key,e.val))=kvs.map (fun p=>(emb p.1,p.2))
theorem findNow_emb {α:Type} [BEq α] (emb:α→Value) (kind:TypeDesc) (hs:∀ a b,Instr.sameNow kind (emb a) (emb b)=some (a==b)) (k:α) :
  ∀ (kvs:List (α × Value)) (es:List MapEntry) (i:Nat),es.map (fun e=>(e.key,e.val))=kvs.map (fun p=>(emb p.1,p.2))→Instr.findNow kind (emb k) es i=some (Ax k kvs i):=by
 intro kvs
 induction kvs with
 | nil =>
  intro es i h
  have:es=[]:=by simpa using h
  subst this;rfl
 | cons p l ih =>
  intro es i h
  obtain⟨a,v⟩:=p
  cases es with
  | nil=>simp at h
  | cons e es =>
   simp only [List.map_cons,List.cons.injEq,Prod.mk.injEq] at h
   obtain⟨⟨hk,hv⟩,hr⟩:=h
   rw [Instr.findNow,hk,hs,Ax]
   cases hb:(k==a) with
   | true=>simp [hv]
   | false=>simpa using ih es (i+1) hr
structure PlainKey {α:Type} [BEq α] (P:Program) (K:TypeId) (emb:α→Value) (kind:TypeDesc):Prop where
 under:P.underlying K=some kind
 same:∀ a b,Instr.sameNow kind (emb a) (emb b)=some (a==b)
 check:∀ (w:World) (e:Bool) (a:α),(Instr.checkKey e 10000 K (emb a)).run P w=.ok () w
theorem Bd {α:Type} [BEq α] {P:Program} {T K E:TypeId} {emb:α→Value} {kind:TypeDesc} (hK:PlainKey P K emb kind) (hT:P.underlying T=some (.map K E)) (z:Value) (hz:∀ w,(zeroValue E).run P w=.ok z w)
  {r:Nat} {w:World} {kvs:List (α × Value)} (h:MapOf emb r w kvs) (k:α) :
  (Instr.lookup T (.map (some r)) (emb k) false).run P w=.ok (((Ax k kvs 0).map (·.2)).getD z) w:=by
 obtain⟨es,clock,hb,hes⟩:=h
 have hf:=findNow_emb emb kind hK.same k kvs es.toList 0 hes
 cases hq:Ax k kvs 0 with
 | none =>
  rw [hq] at hf
  simp [Instr.lookup,run_underlying hT,MapKept.run_getObj_map hb,hK.check,Instr.findKey,run_underlying hK.under,hf,hz,Result.andThen]
 | some p =>
  rw [hq] at hf
  simp [Instr.lookup,run_underlying hT,MapKept.run_getObj_map hb,hK.check,Instr.findKey,run_underlying hK.under,hf,Result.andThen]
theorem Bg {α:Type} [BEq α] {P:Program} {T K E:TypeId} {emb:α→Value} {kind:TypeDesc} (hK:PlainKey P K emb kind) (hT:P.underlying T=some (.map K E))
  {r:Nat} {w:World} {kvs:List (α × Value)} (h:MapOf emb r w kvs) (k:α) (v:Value) (hn:Ax k kvs 0=none) :
  ∃ o,(Instr.mapUpdate T (.map (some r)) (emb k) v).run P w=.ok () (w.putObj r o)∧MapOf emb r (w.putObj r o) (kvs++[(k,v)]):=by
 obtain⟨es,clock,hb,hes⟩:=h
 have hf:=findNow_emb emb kind hK.same k kvs es.toList 0 hes
 rw [hn] at hf
 have hlt:r<w.heap.size:=(aZ hb)
 refine⟨.map (es.push { key:=emb k,val:=v,born:=clock }) (clock+1),?_,es.push { key:=emb k,val:=v,born:=clock },clock+1,World.putObj_heap_same hlt,?_⟩
 ·simp [Instr.mapUpdate,run_underlying hT,MapKept.run_getObj_map hb,hK.check,Instr.findKey,run_underlying hK.under,hf,Result.andThen,MapKept.run_setObj_map _ hb]
  rfl
 ·simp [hes]
theorem Ey {α:Type} (emb:α→Value) (w:World):MapOf emb w.heap.size (w.alloc (.map #[] 0)) []:=⟨#[],0,heap_alloc_last _ _,rfl⟩
theorem MapOf.below {α:Type} {emb:α→Value} {r:Nat} {w w':World} {kvs:List (α × Value)} (h:MapOf emb r w kvs) (hb:Below w.heap.size w w'):MapOf emb r w' kvs:=by
 obtain⟨es,clock,h1,h2⟩:=h
 exact⟨es,clock,(hb.block r (aZ h1)).trans h1,h2⟩
theorem MapOf.lt {α:Type} {emb:α→Value} {r:Nat} {w:World} {kvs:List (α × Value)} (h:MapOf emb r w kvs):r<w.heap.size:=by
 obtain⟨es,clock,h1,_⟩:=h
 exact (aZ h1)
theorem Ao {w w1:World} {B r:Nat} (h:Below B w w1) (hr:B≤r) (o:Obj):Below B w (w1.putObj r o) :=
 ⟨h.os,h.tape,h.output,by simp [World.putObj];exact h.size,fun k hk=>by rw [World.putObj_heap_other (by omega)];exact h.block k hk⟩
theorem Ds:PlainKey prog 9 strV .string where
 under:=underlying9
 same a b:=by
  show some ((⟨a.toArray⟩:ByteArray)==⟨b.toArray⟩)=_
  rw [Cm]
 check w e a:=MapKept.run_checkKey underlying9 (by trivial) e 9999
abbrev intV (n:Int):Value:=.int .i64 n
theorem El:PlainKey prog 3 intV (.int .i64) where
 under:=underlying3
 same a b:=by simp [Instr.sameNow]
 check w e a:=MapKept.run_checkKey underlying3 (by trivial) e 9999
end
section
open Go.Lib Go.Proofs.Tryz Go.RowKit Go.Sort
theorem of_any (v:Value) (ls:List (List UInt8)) (w:World) (hG:Gl w) (hv:Strs w.heap.size w v ls) (hlen:(CH.pack Lib.itoa ls).length≤140737488355328) :
  Calls prog 69 #[v] w (Ret w (.string ⟨(CH.dl ls).toArray⟩)):=by
 have HC:=hid (list_any v ls w hG hv hlen)
 clear hv hlen
 go_enter func69,ntmps69
 go_wp2_with fail
 refine HC.out.mono ?_
 rintro e w1 ⟨rfl,hb⟩
 go_wp2
 go_ret
 exact⟨rfl,hb⟩
theorem start_any (secret:List UInt8) (i k:Nat) (w:World) (hG:Gl w) (hs:secret.length≤1000000) (hi:i≤1000000) (hk:k≤1000000) :
  Calls prog 47 #[.string ⟨secret.toArray⟩,.int .i64 i,.int .i64 k] w (Ret w (.string ⟨(CH.start secret i k).toArray⟩)):=by
 have hl1:=Lib.itoa_length_le (i:Int) (by omega) (by omega)
 have hl2:=Lib.itoa_length_le (k:Int) (by omega) (by omega)
 go_enter func47,ntmps47
 go_wp2_with fail
 refine (Ce _ _ (by omega) (by omega) hG).mono ?_
 rintro e w1 ⟨rfl,hb1⟩
 have hG1:=hG.below hb1
 go_wp2_with fail
 refine (Ce _ _ (by omega) (by omega) hG1).mono ?_
 rintro e w2 ⟨rfl,hb2⟩
 have hG2:=hG1.below hb2
 have hb2':=hb1.trans (hb2.mono hb1.size)
 go_wp2_with fail
 refine (of_any _ [secret,Lib.itoa i,Lib.itoa k] _ (hG2.below (A8 w2 _)) (by rw [World.size_alloc];exact strs_lit w2 [secret,Lib.itoa i,Lib.itoa k] 9 (by simp)) ?_).mono ?_
 ·have:=pack_le [secret,Lib.itoa i,Lib.itoa k] 1000000 (by intro l hl;simp at hl;rcases hl with rfl|rfl|rfl <;> omega) (by decide)
  simp at this ⊢
  omega
 rintro e w3 ⟨rfl,hb3⟩
 go_wp2
 go_ret
 exact⟨rfl,hb2'.trans (((A8 w2 _).trans (hb3.mono (by simp))).mono hb2'.size)⟩
theorem key_any (secret:List UInt8) (i:Nat) (w:World) (hG:Gl w) (hs:secret.length≤1000000) (hi:i≤1000000) :
  Calls prog 57 #[.string ⟨secret.toArray⟩,.int .i64 i] w (Ret w (.string ⟨(CH.otKey secret i).toArray⟩)):=by
 go_enter func57,ntmps57
 go_wp2_with fail
 go_loopw [5,7] (fun ov kv wr=>∃ (k:Nat) (out:List (List UInt8)),k≤18∧kv=.int .i64 k∧Ag w.heap.size wr ov out∧out.length=k∧Hid (out=(List.range k).map fun j=>CH.chain 15 (CH.start secret i j))∧Below w.heap.size w wr) (fun _ kv _=>18 - (RowKit.intOf kv).toNat)
 case atStart=>exact⟨0,[],by omega,rfl,Ag.nil _ _,rfl,rfl,Below.refl _ _⟩
 case round =>
  obtain⟨k,out,hk,rfl,hO,hol,hH,hb⟩:=hrel
  have hG':=hG.below hb
  have hsz:=hb.size
  have HOL:=hid hol
  have hol':out.length≤18:=by omega
  clear hol
  by_cases hlt:k<18
  ·go_wp2_with fail
   refine (start_any secret i k wr hG' hs hi (by omega)).mono ?_
   rintro e w1 ⟨rfl,hb1⟩
   have hG1:=hG'.below hb1
   go_wp2_with fail
   refine (Ez (CH.start secret i k) 15 w1 hG1 (by decide) (by rw [CH.length_start];decide)).mono ?_
   rintro e w2 ⟨rfl,hb2⟩
   have hO2:=((hO.below hb1).below hb2).alloc (.cells #[.string ⟨(CH.chain 15 (CH.start secret i k)).toArray⟩] 9)
   have hs1:=hb1.size
   have hs2:=hb2.size
   have hb2':Below w.heap.size w w2:=(hb.trans (hb1.mono hsz)).trans (hb2.mono (by omega))
   have HN:Hid (out++[CH.chain 15 (CH.start secret i k)]=(List.range (k+1)).map fun j=>CH.chain 15 (CH.start secret i j)):=by
    rw [List.range_succ,List.map_append,← hH.out];exact rfl
   clear hH hO hb hb1 hb2 hG' hG1
   generalize CH.chain 15 (CH.start secret i k)=c at *
   go_wp2_with (at_builtin;refine A9 rfl _ _ rfl w.heap.size _ out rfl hO2 w2.heap.size 1 c rfl ?c1 ?c2 ?c3 ?_)
   case c1=>rw [World.cell?_alloc_at _ _ _ _ rfl];rfl
   case c2=>omega
   case c3=>simp;omega
   intro v' w3 hO3 hg3 _
   have hbf:Below w.heap.size w w3:=(hb2'.alloc (by omega) _).grown hg3 (by simp;omega) (fun j hj=>(World.ownsRow.lt hO2 j hj).1)
   clear hO2 hg3 hb2'
   go_wp2
   go_roundw
   case rel=>exact⟨k+1,out++[c],by omega,by go_num,hO3,by have:=HOL.out;simp;omega,HN,hbf⟩
   case measure=>simp [RowKit.intOf];omega
  ·have e:k=18:=by omega
   have HF:Hid (out=(List.range 18).map fun j=>CH.chain 15 (CH.start secret i j)):=by rw [← e];exact hH
   have hin:∀ l∈out,l.length≤16:=fun l hl=>by
    rw [HF.out] at hl
    obtain⟨j,_,rfl⟩:=List.mem_map.1 hl
    rw [CH.length_chain _ _ (CH.length_start _ _ _)];exact Nat.le_refl _
   have HIN:=hid hin
   clear e hH hin
   go_wp2_with fail
   refine (of_any _ out wr hG' hO.strs (by have:=pack_le out 16 HIN.out (by decide);have:out.length*(16+22)≤18*38:=Nat.mul_le_mul_right _ hol';omega)).mono ?_
   rintro e w1 ⟨rfl,hb1⟩
   go_wp2
   go_ret
   exact⟨by rw [HF.out];rfl,hb.trans (hb1.mono hsz)⟩
theorem Ea (h:Nat) (hh:h≤8):1≤2 ^ h∧2 ^ h≤256:=by
 rcases h with _|_|_|_|_|_|_|_|_|h
 all_goals first|decide|omega
theorem Dq (h:Nat) (hh:h≤8):wrap64 (2 ^ h)=((2 ^ h:Nat):Int):=by
 rcases h with _|_|_|_|_|_|_|_|_|h
 all_goals first|decide +kernel|omega
theorem keys_any (secret:List UInt8) (h:Nat) (w:World) (hG:Gl w) (hs:secret.length≤1000000) (hh:h≤8) :
  Calls prog 26 #[.string ⟨secret.toArray⟩,.int .i64 h] w (OwnRet w (CH.keys secret h)):=by
 have hh0:(0:Int)≤(h:Int):=by omega
 have hh1:(h:Int)<64:=by omega
 have hh2:(h:Int)≤8:=by omega
 go_enter func26,ntmps26
 obtain⟨i0,hi,hz0,hz1,hz2⟩:=info_parts strInfo
 go_wp2_with (at_make;refine wpList_make_full _ rfl _ _ 25 rfl w.heap.size 9 i0 _ 1 underlying25 hi hz0 hz1 .i64 .i64 _ _ (2 ^ h) rfl rfl ?hL ?hC ?b2 ?b3 nR ?_)
 case hL=>exact Dq h hh
 case hC=>exact Dq h hh
 case b2=>rw [hz2];have:=Ea h hh;omega
 case b3=>have:=Ea h hh;unfold maxLen;omega
 intro w1 hown hg1
 have hn1:=Ea h hh
 have hbase:Below w.heap.size w w1:=(Below.refl _ w).grown hg1 nR (fun k e=>by cases e)
 have hO1:Ag w.heap.size w1 (.slice (some ⟨w.heap.size,0,none⟩) (2 ^ h) (2 ^ h)) (List.replicate (2 ^ h) []):=by
  unfold Ag
  have e:(madeCells #[Value.string ⟨#[]⟩] (2 ^ h)).toList=(List.replicate (2 ^ h) []).map strV:=by
   rw [toList_madeCells_one]
   simp
  have h2:(List.replicate (2 ^ h) ([]:List UInt8)).length=2 ^ h:=by simp
  rw [h2,← e]
  exact hown
 have HK:Hid (CH.keys secret h=(List.range (2 ^ h)).map (CH.otKey secret)):=rfl
 clear hown hg1 hi hz0 hz1 hz2
 generalize hn:2 ^ h=n at *
 clear hn hh0 hh1 hh2
 go_wp2_with fail
 go_loopw [12] (fun kv wr=>∃ (k:Nat) (ls:List (List UInt8)),k≤n∧kv=.int .i64 k∧Ag w.heap.size wr (.slice (some ⟨w.heap.size,0,none⟩) n n) ls∧Hid (ls=(List.range k).map (CH.otKey secret)++List.replicate (n - k) [])∧Below w.heap.size w wr) (fun kv _=>n - (RowKit.intOf kv).toNat)
 case atStart=>exact⟨0,_,Nat.zero_le _,rfl,hO1,by exact rfl,hbase⟩
 case round =>
  obtain⟨k,ls,hk,rfl,hO,hH,hb⟩:=hrel
  have hG':=hG.below hb
  have hsz:=hb.size
  by_cases hlt:k<n
  ·go_wp2_with fail
   refine (key_any secret k wr hG' hs (by omega)).mono ?_
   rintro e w2 ⟨rfl,hb2⟩
   have hO2:=hO.below hb2
   have hb2':Below w.heap.size w w2:=hb.trans (hb2.mono hsz)
   have hll:ls.length=n:=by rw [hH.out];simp;omega
   have hO2':Ag w.heap.size w2 (.slice (some ⟨w.heap.size,0,none⟩) ls.length n) ls:=by rw [hll];exact hO2
   have hcell:w2.cell? ⟨w.heap.size,k,none⟩=some (strV (ls.getD k [])):=by
    rw [World.ownsRow.cellAt hO2' k (by omega)]
    have hkl:k<ls.length:=by omega
    simp [hkl]
   have hfro:w2.frozen? ⟨w.heap.size,k,none⟩=false:=World.ownsRow.frozenAt hO2' k
   have HLL:=hid hll
   have HO2:=hid hO2'
   clear hO hb hb2 hG' hll hO2 hO2'
   go_wp2
   have hst:=World.ownsRow.stored HO2.out k (strV (CH.otKey secret k))
   have hset:ls.set k (CH.otKey secret k)=(List.range (k+1)).map (CH.otKey secret)++List.replicate (n - (k+1)) []:=by
    rw [hH.out,show n - k=(n - (k+1))+1 from by omega,List.replicate_succ,List.range_succ,List.map_append]
    rw [List.set_append_right _ _ (by simp)]
    simp
   refine⟨⟨k+1,ls.set k (CH.otKey secret k),by omega,by go_num,?_,hset,hb2'.setCell nR _⟩,by simp [RowKit.intOf];omega⟩
   unfold Ag
   rw [List.length_set,List.map_set]
   have h1:=HLL.out
   rw [h1] at hst ⊢
   exact hst.1
  ·have e:k=n:=by omega
   have HF:Hid (ls=CH.keys secret h):=hid (by rw [HK.out,hH.out,e];simp)
   clear e hH
   go_wp2
   go_ret
   exact⟨_,rfl,by rw [← HF.out];exact hO,hb⟩
theorem public_any (secret:List UInt8) (h:Nat) (w:World) (hG:Gl w) (hs:secret.length≤1000000) (hh:h≤8) :
  Calls prog 8 #[.string ⟨secret.toArray⟩,.int .i64 h] w (Ret w (.tuple #[.string ⟨(CH.pub secret h).toArray⟩,.int .i64 0])):=by
 have d1:decide ((h:Int)<0)=false:=by simp
 have d2:decide ((8:Int)<(h:Int))=false:=by simp;omega
 have hl:=Ea h hh
 go_enter func8,ntmps8
 go_wp2_with fail
 refine (keys_any secret h w hG hs hh).mono ?_
 rintro e w1 ⟨v1,rfl,hO1,hb1⟩
 go_wp2_with fail
 refine (root_any _ v1 (CH.keys secret h) w1 (Nat.lt_succ_self _) (hG.below hb1) hO1.strs (by rw [CH.length_keys];omega) (fun l hl=>by
  unfold CH.keys at hl
  obtain⟨j,_,rfl⟩:=List.mem_map.1 hl
  rw [CH.length_otKey];decide)).mono ?_
 rintro e w2 ⟨rfl,hb2⟩
 go_wp2
 go_ret2
 exact⟨rfl,hb1.trans (hb2.mono hb1.size)⟩
end
section
open Go.Lib Go.Proofs.Tryz Go.RowKit Go.Shelf
attribute [local go_sem] Oper.semAt_some
abbrev DP:=Fin 18 × Fin 16
abbrev encDP (x:DP):Array Value:=#[.int .i64 (x.1.val:Nat),.int .i64 (x.2.val:Nat)]
theorem indexByte_hex (n:Nat) (h:n<16):Lib.indexByte hexSet (CH.hexDigit n)=(n:Int):=by
 have:∀ k:Fin 16,Lib.indexByte hexSet (CH.hexDigit k.val)=(k.val:Int):=by decide +kernel
 exact this ⟨n,h⟩
theorem hexK_digit (k n:Nat):∀ c∈CH.hexK k n,∃ d,d<16∧c=CH.hexDigit d:=by
 induction k generalizing n with
 | zero=>simp [CH.hexK]
 | succ k ih =>
  intro c hc
  rcases List.mem_append.1 hc with h|h
  ·exact ih _ c h
  ·simp at h;exact⟨n % 16,Nat.mod_lt _ (by decide),h⟩
theorem Ec {w w':World} (h:Below w.heap.size w w'):w.grownBy w' none:=⟨h.os,h.tape,h.output,h.size,fun k hk _=>h.block k hk⟩
theorem digits_stops (m:List UInt8) (hm:m.length≤140737488355328) (n Bm:Nat) (hn:1≤n) (w:World) (hG:Gl w) (hB:Bm<w.heap.size) (hc:w.cell? ⟨Bm,0,none⟩=some (.string ⟨m.toArray⟩)) :
  SeqStopsK Fence.wide n prog 97 #[.pointer (some ⟨Bm,0,none⟩)] encDP KeepsWalks (fun xs=>xs=CH.dpairs m) (fun _=>True) 18 w:=fun l J Jx W hW hJ hJx hY h0=>by
 have hcW:W.cell? ⟨Bm,0,none⟩=some (.string ⟨m.toArray⟩):=(hW.cell (p:=⟨Bm,0,none⟩) hB).trans hc
 have hGW:=hG.below hW
 refine callsIn_of_wp func97 rfl trivial ?_ rfl
 simp only [ntmps97,List.size_toArray,List.length_cons,List.length_nil,Nat.reduceAdd,Nat.reduceSub,Array.replicate_succ,Array.replicate_zero,List.push_toArray,List.append_toArray,List.nil_append,List.cons_append]
 gi_wp2_with fail
 refine⟨trivial,?_⟩
 refine (callsIn_wide.2 (sum_any m W hGW hm)).mono ?_
 rintro e W1 ⟨rfl,hb1⟩
 have hJ1:J [] W1:=hJ [] W W1 none h0 (Ec hb1) (fun r e=>by cases e)
 have hsl:(CH.sum m).length=16:=CH.length_sum m
 have hdig:∀ k,k<16→∃ d,d≤15∧(CH.sum m)[k]?=some (CH.hexDigit d)∧(CH.dig16 m)[k]?=some d:=fun k hk=>by
  have hk':k<(CH.sum m).length:=by omega
  obtain⟨d,hd,e⟩:=hexK_digit 16 (CH.sumN m) (CH.sum m)[k] (List.getElem_mem hk')
  refine⟨d,by omega,by rw [lZ hk',e],?_⟩
  unfold CH.dig16
  rw [List.getElem?_map,lZ hk',e]
  simp [CH.hexVal_digit d hd]
 have hpair:∀ k d,k<16→(CH.dig16 m)[k]?=some d→∃ x:DP,(CH.dpairs m)[k]?=some x∧x.1.val=k∧x.2.val=d:=fun k d hk hd=>by
  obtain⟨hd',e⟩:=CH.dpairs_at m k d (by omega) (by rw [CH.digits_eq,List.getElem?_append_left (by rw [CH.length_dig16];exact hk)];exact hd)
  exact⟨_,e,rfl,rfl⟩
 have HD:=hid hdig
 have HP:=hid hpair
 have HY:=hid hY
 clear hdig hpair hY hcW hc h0 hb1
 generalize hS:CH.sum m=S at *
 gi_wp2_with fail
 gi_loopw [3,11] (fun rv iv wr=>∃ k r:Nat,k≤16∧r≤240∧iv=.int .i64 k∧rv=.int .i64 r∧Hid (r=CH.lack m k)∧J ((CH.dpairs m).take k) wr) (fun _ iv _=>16 - (RowKit.intOf iv).toNat)
 case atStart=>exact⟨0,0,by omega,by omega,rfl,rfl,rfl,hJ1⟩
 case round =>
  obtain⟨k,r,hk,hr,rfl,rfl,hH,hJk⟩:=hrel
  by_cases hlt:k<16
  ·obtain⟨d,hd,hSd,hdd⟩:=HD.out k hlt
   have hkS:k<(ByteArray.mk S.toArray).size:=by show k<S.toArray.size;simp;omega
   have e1:Lib.indexByte (ByteArray.mk #[48,49,50,51,52,53,54,55,56,57,97,98,99,100,101,102]).data.toList (((((ByteArray.mk S.toArray)[k]'hkS).toNat:Int)).toNat.toUInt8)=(d:Int):=by
    have e2:(ByteArray.mk S.toArray)[k]'hkS=CH.hexDigit d:=by
     have h2:k<S.length:=by omega
     have:S[k]=CH.hexDigit d:=by rw [lZ h2] at hSd;exact Option.some.inj hSd
     rw [← this];rfl
    rw [e2,show ((CH.hexDigit d).toNat:Int).toNat=(CH.hexDigit d).toNat from by omega]
    rw [show (CH.hexDigit d).toNat.toUInt8=CH.hexDigit d from by simp]
    exact indexByte_hex d (by omega)
   obtain⟨x,hx,hx1,hx2⟩:=HP.out k d hlt hdd
   have hpre:(CH.dpairs m).take (k+1)=(CH.dpairs m).take k++[x]:=CH.take_snoc_at _ _ _ hx
   obtain⟨fn,tmps,assign,body,hy,hR⟩:=HY.out ((CH.dpairs m).take k) x wr hJk (by rw [List.length_take,CH.length_dpairs];omega)
   have hl':CH.lack m (k+1)=r+(15 - d):=by rw [CH.lack_succ m k d hdd,← hH.out]
   have hl2:=CH.lack_le m (k+1)
   rw [hl'] at hl2
   dsimp only [encDP] at hy
   rw [hx1,hx2] at hy
   have HX:=hid (And.intro hpre hl')
   clear hSd hdd hx hx1 hx2 hpre hl' hH
   gi_wp2_with fail
   refine⟨trivial,?_⟩
   refine (callsIn_wide.2 (Tryz.strings_IndexByte _ _ wr)).mono ?_
   rw [e1]
   clear e1
   rintro e w' ⟨rfl,rfl⟩
   gi_wp2_with fail
   refine hR.mono ?_
   rintro e W3 (⟨rfl,hJ3,_⟩|⟨rfl,hJx3⟩)
   ·obtain⟨hpre,hl'⟩:=HX.out
    rw [← hpre] at hJ3
    have HL:=hid hl'
    clear hpre hl' HX hJk hR hy
    gi_wp2
    go_roundw
    case rel=>exact⟨k+1,r+(15 - d),by omega,by omega,by go_num,by go_num,HL.out.symm,hJ3⟩
    case measure=>simp [RowKit.intOf];omega
   ·clear hJk hR hy HX
    gi_wp2
    refine bodyPost_ret (results_none rfl _ _ _) rfl ?_
    exact⟨⟨_,rfl⟩,.inr ⟨_,trivial,hJx3⟩⟩
  ·obtain rfl:k=16:=by omega
   have hr':=hH.out
   have d16:(CH.digits m)[16]?=some (r / 16):=by rw [CH.digits_eq,List.getElem?_append_right (by rw [CH.length_dig16];exact Nat.le_refl _),CH.length_dig16,← hr'];rfl
   have d17:(CH.digits m)[17]?=some (r % 16):=by rw [CH.digits_eq,List.getElem?_append_right (by rw [CH.length_dig16];decide),CH.length_dig16,← hr'];rfl
   obtain⟨h16,p16⟩:=CH.dpairs_at m 16 _ (by decide) d16
   obtain⟨h17,p17⟩:=CH.dpairs_at m 17 _ (by decide) d17
   have t17:=CH.take_snoc_at _ _ _ p16
   have t18:=CH.take_snoc_at _ _ _ p17
   have tall:(CH.dpairs m).take (17+1)=CH.dpairs m:=List.take_of_length_le (by rw [CH.length_dpairs];decide)
   rw [tall] at t18
   have HT:=hid (And.intro t17 t18)
   obtain⟨fn,tmps,assign,body,hy,hR⟩:=HY.out ((CH.dpairs m).take 16) (⟨16,by decide⟩,⟨r / 16,h16⟩) wr hJk (by rw [List.length_take,CH.length_dpairs];omega)
   replace hy:(Instr.yield l #[Value.int .i64 16,Value.int .i64 ((r:Int) / 16)]).run prog wr=.ok (.round l fn tmps assign body) wr:=by
    rw [show ((r:Int) / 16)=((r / 16:Nat):Int) from by omega];exact hy
   clear hr' d16 d17 p16 p17 t17 t18 tall hH HD HP
   gi_wp2_with fail
   refine hR.mono ?_
   rintro e W3 (⟨rfl,hJ3,_⟩|⟨rfl,hJx3⟩)
   ·obtain⟨t17,t18⟩:=HT.out
    rw [← t17] at hJ3
    clear hR hy hJk
    obtain⟨fn,tmps,assign,body,hy,hR⟩:=HY.out ((CH.dpairs m).take 17) (⟨17,by decide⟩,⟨r % 16,h17⟩) W3 hJ3 (by rw [List.length_take,CH.length_dpairs];omega)
    replace hy:(Instr.yield l #[Value.int .i64 17,Value.int .i64 ((r:Int) % 16)]).run prog W3=.ok (.round l fn tmps assign body) W3:=by
     rw [show ((r:Int) % 16)=((r % 16:Nat):Int) from by omega];exact hy
    have H18:=hid t18
    clear t17 t18 HT
    gi_wp2_with fail
    refine hR.mono ?_
    rintro e W4 (⟨rfl,hJ4,_⟩|⟨rfl,hJx4⟩)
    ·rw [← H18.out] at hJ4
     clear hR hy hJ3
     gi_wp2
     go_end0
     exact⟨⟨_,rfl⟩,.inl ⟨_,rfl,hJ4⟩⟩
    ·clear hR hy hJ3
     gi_wp2
     go_end0
     exact⟨⟨_,rfl⟩,.inr ⟨_,trivial,hJx4⟩⟩
   ·clear hR hy hJk HT
    gi_wp2
    go_end0
    exact⟨⟨_,rfl⟩,.inr ⟨_,trivial,hJx3⟩⟩
end
section
open Go.Lib Go.Proofs.Tryz Go.RowKit Go.Shelf
theorem rows_round {P:Program} {row:String} {args:Array Value} {w:World} {R:Value→World→Prop} (l n:Nat) (h:Rows P row args w R):RowsIn (Fence.wide.inRound l) n P row args w R:=by
 intro c cs hroom
 obtain⟨v,w',r,s⟩:=h c cs
 exact⟨v,w',r,stepsIn_wide.2 s⟩
theorem op_round {P:Program} {o:Oper} {a:Act} {w:World} {K:Act→World→Prop} {Q:Exit→Act→World→Prop} (l n:Nat) (hnd:∀ c,o.op≠.defer c) (h:o.wp P a w K Q):o.wpIn (Fence.wide.inRound l) n P a w K Q:=by
 refine⟨fun _ _=>trivial,?_⟩
 rw [show (Fence.wide.inRound l).round=some l from rfl,Oper.semAt_some l a.eval o hnd]
 unfold Oper.wp at h
 generalize (execOp a.eval o).run P w=r at h ⊢
 cases r with
 | ok nx w' =>
  cases nx with
  | value v=>exact h
  | skip=>exact h
  | defer d=>exact h
  | enter f args=>exact⟨(fun hd=>by cases hd),CallsIn.inRound l (callsIn_wide.2 h)⟩
  | row r args=>exact⟨(fun hd=>by cases hd),rows_round l _ h⟩
  | _=>exact h.elim
 | halt hh w' =>
  cases hh with
  | panic v=>exact h
  | _=>exact h.elim
theorem any_round {P:Program} {md:Region.Mode} {ops:Array Oper} {Q:Exit→Act→World→Prop} (l n:Nat) (hnd:∀ (j:Nat) (o:Oper),ops[j]?=some o→∀ c,o.op≠.defer c) (hout:¬ LetsOut Q) :
  ∀ (fuel:Nat) (listed:Array Bool) (a:Act) (w:World),wpAny P md ops Q fuel listed a w→wpAnyIn (Fence.wide.inRound l) n P md ops Q fuel listed a w
 | 0,_,_,_,h=>h
 | fuel+1,listed,a,w,h=>by
  refine⟨h.1,fun i hi=>?_⟩
  have h2:=wpOp_mono (fun a' w' h'=>any_round l n hnd hout fuel _ a' w' h') (h.2 i hi)
  unfold wpOp at h2
  unfold wpOpIn
  cases ho:ops[i]? with
  | none=>rw [ho] at h2;exact h2
  | some o =>
   rw [ho] at h2
   simp only at h2 ⊢
   split
   ·rename_i hw
    rw [if_pos hw] at h2
    rcases h2 with h2|⟨_,h2⟩
    ·exact op_round l n (hnd i o ho) h2
    ·exact (hout h2).elim
   ·rename_i hw
    rw [if_neg hw] at h2
    exact⟨fun _ _=>trivial,h2⟩
def noDefer (ops:Array Oper):Bool:=ops.all fun o=>match o.op with|.defer _=>false|_=>true
theorem noDefer_spec {ops:Array Oper} (h:noDefer ops=true) (j:Nat) (o:Oper) (ho:ops[j]?=some o) (c:Call):o.op≠.defer c:=by
 intro e
 unfold noDefer at h
 rw [Array.all_eq_true'] at h
 have:=h o (Array.mem_of_getElem? ho)
 rw [e] at this
 cases this
theorem region_round {P:Program} {id:Nat} {ops:Array Oper} {Q:Exit→Act→World→Prop} {a:Act} {w:World} (S:World→Prop) (l n:Nat) (hm:P.follows .mixedOrders=true) (hnd:noDefer ops=true) (hout:¬ LetsOut Q)
  (h:wpAnyH P .any ops Q S ops.size (Array.replicate ops.size false) a w.drew):(Code.region id ops true).wpIn (Fence.wide.inRound l) n P Q a w :=
 wpIn_region_any hm (any_round l n (noDefer_spec hnd) hout _ _ _ _ (wpAny_of_held _ _ _ _ h))
theorem Dv {P:Program} {id:Nat} {ops:Array Oper} {Q:Exit→Act→World→Prop} {a:Act} {w:World} (S:World→Prop) (l n:Nat) (hm:P.follows .mixedOrders=true) (hnd:noDefer ops=true) (hout:¬ LetsOut Q)
  (hS:S w.drew) (h:S w.drew→wpAnyH P .any ops Q S ops.size (Array.replicate ops.size false) a w.drew):(Code.region id ops true).wpIn (Fence.wide.inRound l) n P Q a w :=
 region_round S l n hm hnd hout (h hS)
end
section
open Go.Lib Go.Proofs.Tryz Go.RowKit Go.Shelf
attribute [local go_sem] Oper.semAt_some
theorem CH.sig_eq (secret:List UInt8) (i:Nat) (m:List UInt8):CH.sig secret i m=(CH.dpairs m).map fun x=>CH.chain x.2.val (CH.start secret i x.1.val):=by
 apply List.ext_getElem?
 intro k
 unfold CH.sig
 by_cases hk:k<18
 ·have hl:=CH.length_digits m
  have hg:(CH.digits m)[k]?=some ((CH.digits m)[k]'(by omega)):=lZ _
  obtain⟨hd,h2⟩:=CH.dpairs_at m k _ hk hg
  rw [List.getElem?_map,List.getElem?_map,h2,List.getElem?_zipIdx,hg]
  simp
 ·rw [List.getElem?_eq_none (by simp [CH.length_digits];omega),List.getElem?_eq_none (by simp [CH.length_dpairs];omega)]
theorem digits_any (m:List UInt8) (w:World):Calls prog 45 #[.string ⟨m.toArray⟩] w fun e w'=>e=.returned (.func (.func 97) #[] #[.pointer (some ⟨w.heap.size,0,none⟩)])∧w.alloc (.cells #[.string ⟨m.toArray⟩] 9)=w':=by
 go_enter func45,ntmps45
 go_wp2
 go_ret
 exact⟨rfl,rfl⟩
def SignRet (w:World) (i:Nat) (sig path:List (List UInt8)) (e:Ending) (w':World):Prop :=
 ∃ v1 v2,e=.returned (.tuple #[.agg #[.int .i64 i,v1,v2],.int .i64 0])∧Strs w'.heap.size w' v1 sig∧Strs w'.heap.size w' v2 path∧Below w.heap.size w w'
structure SignI (w:World) (b:Nat) (secret:List UInt8) (i:Nat) (pre:List DP) (W:World):Prop where
 le:b+5≤W.heap.size
 bsec:W.heap[b]?=some (.cells #[.string ⟨secret.toArray⟩] 9 (0,0))
 bidx:W.heap[b+1]?=some (.cells #[.int .i64 i] 3 (0,0))
 res:W.heap[b+2]?=some (.cells #[.int .i64 0,.slice none 0 0,.slice none 0 0] 27 (0,0))
 out:∃ v,W.heap[b+3]?=some (.cells #[.int .i64 i,v,.slice none 0 0] 27 (0,0))∧Ag (b+5) W v (pre.map fun x=>CH.chain x.2.val (CH.start secret i x.1.val))
 below:Below b w W
theorem Dc {w w':World} {base:Nat} {e:TypeId} {size:Nat} {v:Value} {n:Nat} {xs:List Value} {row:Option Nat} (h:w.ownsRow base e size v n xs) (hg:w.grownBy w' row)
  (hr:∀ r,row=some r→∃ o:Obj,w.heap[r]?=some o∧o.isCells=false):w'.ownsRow base e size v n xs:=by
 have h':=h
 obtain⟨hl,⟨rfl,h0⟩|⟨g,cap,cur,rfl,hb,hgb,rest⟩⟩:=h
 ·exact h'.kept hg (.inl rfl)
 ·refine h'.kept hg (.inr ?_)
  intro e
  obtain⟨o,ho,hc⟩:=hr g e.symm
  rw [hgb] at ho
  cases ho
  cases hc
theorem SignI.own (w:World) (b:Nat) (secret:List UInt8) (i:Nat) (B:Nat) (hB:b+5≤B):OwnFrom B (SignI w b secret i):=by
 intro pre W W' row h hg hr
 obtain⟨h1,h2,h3,h4,⟨v,h5,h6⟩,h7⟩:=h
 have key:∀ k,k<b+5→W'.heap[k]?=W.heap[k]?:=fun k hk=>hg.block k (by omega) (fun e=>by have:=(hr k e.symm).1;omega)
 have hsz:=hg.size
 exact⟨by omega,(key b (by omega)).trans h2,(key _ (by omega)).trans h3,(key _ (by omega)).trans h4,⟨v,(key _ (by omega)).trans h5,Dc h6 hg (fun r e=>(hr r e).2)⟩,
  ⟨hg.os.trans h7.os,hg.tape.trans h7.tape,hg.output.trans h7.output,nT h7.size hsz,fun k hk=>(key k (by omega)).trans (h7.block k hk)⟩⟩
theorem De (w:World) (p:Addr) (u:Value):w.grownBy (w.setCell p u) (some p.block) :=
 ⟨rfl,rfl,rfl,by simp [World.setCell],fun k _ hk=>by simp only [World.setCell];rw [Array.getElem?_modify,if_neg (fun e=>hk (by rw [e]))]⟩
theorem Cy {w w':World} (h:Below w.heap.size w w'):KeepsOthers w w':=⟨h.size,fun k o hk _=>by rw [h.block k (aZ hk)];exact hk⟩
theorem Ag.ownBlock {base:Nat} {w:World} {v:Value} {ls:List (List UInt8)} (h:Ag base w v ls):∀ j,v.ownBlock=some j→base≤j∧∃ cs t fr,w.heap[j]?=some (.cells cs t fr):=by
 intro j hj
 obtain⟨hlen,⟨rfl,h0⟩|⟨g,cap,cur,rfl,hb,hg,rest⟩⟩:=h
 ·cases hj
 ·simp only [Value.ownBlock,Option.some.injEq] at hj
  subst hj
  exact⟨hb,_,_,_,hg⟩
theorem Ag.setFar {base:Nat} {w:World} {v:Value} {ls:List (List UInt8)} (h:Ag base w v ls) {g:Nat} (hg:g<base) (o:Nat) (u:Value):Ag base (w.setCell ⟨g,o,none⟩ u) v ls:=by
 refine World.ownsRow.kept h (De w ⟨g,o,none⟩ u) (.inr fun e=>?_)
 have h9:base≤g:=(h.ownBlock _ e).1
 omega
theorem Strs.other {B:Nat} {w w':World} {v:Value} {ls:List (List UInt8)} (h:Strs B w v ls) {g:Nat} (hg:∀ k s,w.cell? ⟨g,k,none⟩≠some (.string s)) (hw:∀ k,k≠g→w'.heap[k]?=w.heap[k]?):Strs B w' v ls:=by
 obtain⟨a,cap,rfl,h1,h2,h3⟩:=h
 refine⟨a,cap,rfl,h1,h2,fun hne=>?_⟩
 obtain⟨b,off,ha,hb,hc⟩:=h3 hne
 refine⟨b,off,ha,hb,fun j l hj=>?_⟩
 have hj':=hc j l hj
 by_cases e:b=g
 ·subst e;exact absurd hj' (hg _ _)
 ·rw [World.cell?_of_block (w:=w) (hw b e)];exact hj'
theorem At (w:World) (p:Addr) (u:Value) (k:Nat) (hk:k≠p.block):(w.setCell p u).heap[k]?=w.heap[k]?:=by
 simp only [World.setCell];rw [Array.getElem?_modify,if_neg (fun e=>hk e.symm)]
theorem A5 {w:World} {o:Oper} {a:Act} {K:Act→World→Prop} {Q:Exit→Act→World→Prop} (s x:Operand)
  (ho:o.op=.call { callee:=.builtin .append,args:=#[s,x],argTypes:=#[25,25] })
  (base:Nat) (v:Value) (ls:List (List UInt8)) (hs:a.eval s=v) (hown:Ag base w v ls) (g c:Nat) (l:List UInt8) (hx:a.eval x=.slice (some ⟨g,0,none⟩) 1 c)
  (hcell:w.cell? ⟨g,0,none⟩=some (strV l)) (hlen:ls.length≤1000000) (hbase:base≤w.heap.size)
  (h:∀ v' w',Ag base w' v' (ls++[l])→w.grownBy w' v.ownBlock→K (a.put o.dst v') w'):o.wp prog a w K Q:=by
 obtain⟨i,hi,hz0,hz1,hz2⟩:=info_parts strInfo
 refine wp_append_own w s x 25 ho base 9 i _ 1 16 underlying25 hi hz0 hz1 hz2 rfl (by decide) v ls.length _ hs hown ⟨g,0,none⟩ 1 c [strV l] hx rfl ?_ ?_ ?_ ?_ hbase ?_
 ·intro j u hj
  rcases j with _|j
  ·simp at hj;subst hj;simpa [Addr.add] using hcell
  ·simp at hj
 ·intro u hu;simp at hu;subst hu;rfl
 ·unfold maxLen;omega
 ·omega
 ·intro v' w' h1 h2 _
  exact h v' w' (by unfold Ag;simpa using h1) h2
theorem Ff (w:World) (o1 o2 o3 o4 o5:Obj) (n:Nat) :
  ((((((w.alloc o1).alloc o2).alloc o3).drewN n).alloc o4).alloc o5).heap[w.heap.size]?=some o1∧((((((w.alloc o1).alloc o2).alloc o3).drewN n).alloc o4).alloc o5).heap[w.heap.size+1]?=some o2 ∧
  ((((((w.alloc o1).alloc o2).alloc o3).drewN n).alloc o4).alloc o5).heap[w.heap.size+2]?=some o3∧((((((w.alloc o1).alloc o2).alloc o3).drewN n).alloc o4).alloc o5).heap[w.heap.size+3]?=some o4 ∧
  ((((((w.alloc o1).alloc o2).alloc o3).drewN n).alloc o4).alloc o5).heap[w.heap.size+4]?=some o5:=by
 have e:((((((w.alloc o1).alloc o2).alloc o3).drewN n).alloc o4).alloc o5).heap=((((w.heap.push o1).push o2).push o3).push o4).push o5:=by
  have hd:∀ (u:World) (n:Nat),(u.drewN n).heap=u.heap:=fun u n=>by induction n with|zero=>rfl|succ n ih=>exact ih
  simp only [World.alloc,hd]
 rw [e]
 simp only [Array.getElem?_push,Array.size_push]
 refine⟨?_,?_,?_,?_,?_⟩
 ·rw [if_neg (by omega),if_neg (by omega),if_neg (by omega),if_neg (by omega),if_pos trivial]
 ·rw [if_neg (by omega),if_neg (by omega),if_neg (by omega),if_pos trivial]
 ·rw [if_neg (by omega),if_neg (by omega),if_pos trivial]
 ·rw [if_neg (by omega),if_pos trivial]
 ·rw [if_pos trivial]
theorem sign_any (secret m:List UInt8) (h i:Nat) (w:World) (hG:Gl w) (hs:secret.length≤1000000) (hm:m.length≤1000000) (hh:h≤8) (hi:i<2 ^ h) :
  Calls prog 21 #[.string ⟨secret.toArray⟩,.int .i64 h,.int .i64 i,.string ⟨m.toArray⟩] w (SignRet w i (CH.sig secret i m) (CH.path (CH.keys secret h) i)):=by
 have hp:=Ea h hh
 have d1:decide ((h:Int)<0)=false:=by simp
 have d2:decide ((8:Int)<(h:Int))=false:=by simp;omega
 have d3:decide ((i:Int)<0)=false:=by simp
 have hw64:=Dq h hh
 have d4:decide ((2:Int) ^ h≤(i:Int))=false:=by
  rw [decide_eq_false_iff_not,show ((2:Int) ^ h)=((2 ^ h:Nat):Int) from by simp]
  omega
 have hh0:(0:Int)≤(h:Int):=by omega
 refine (callsIn_wide (n:=4)).1 ?_
 refine callsIn_of_wp_marks func21 rfl trivial ?_ rfl
 simp only [ntmps21,List.size_toArray,List.length_cons,List.length_nil,Nat.reduceAdd,Nat.reduceSub,Array.replicate_succ,Array.replicate_zero,List.push_toArray,List.append_toArray,List.nil_append,List.cons_append]
 refine wpIn_wide.2 ?_
 go_wp2_with fail
 go_quiet (fail)
 clear d1 d2 d3 d4 hh0
 go_wp2_with fail
 refine (digits_any m _).mono ?_
 rintro e w1 ⟨rfl,hw1⟩
 have hI0:SignI w w.heap.size secret i [] w1:=by
  subst hw1
  refine⟨by simp,?_,?_,?_,⟨_,?_,Ag.nil _ _⟩,?_⟩
  ·exact (Ff w _ _ _ _ _ nq).1
  ·exact (Ff w _ _ _ _ _ nq).2.1
  ·exact (Ff w _ _ _ _ _ nq).2.2.1
  ·exact (Ff w _ _ _ _ _ nq).2.2.2.1
  ·refine Below.alloc (Below.alloc (below_drewN (Below.alloc (Below.alloc (Below.alloc (Below.refl _ w) nR _) (by simp) _) (by simp;omega) _) _) (by simp;omega) _) (by simp;omega) _
 have hcm:w1.cell? ⟨w.heap.size+1+1+1+1,0,none⟩=some (.string ⟨m.toArray⟩):=by
  subst hw1
  exact cell_of (Ff w _ _ _ _ _ nq).2.2.2.2 0
 have hsz1:w1.heap.size=w.heap.size+1+1+1+1+1:=by subst hw1;simp
 have hG1:Gl w1:=hG.low hI0.below hG.size
 clear hw1
 go_wp2_with fail
 refine (wpIn_wide (n:=4)).1 ?_
 refine wpIn_rangeFunc_ownG (n:=4) (α:=DP) rfl (by decide) (gf:=97) (lb:=#[.pointer (some ⟨w.heap.size+1+1+1+1,0,none⟩)]) rfl trivial (enters_of func97 (by kernel_rfl) rfl)
  (digits_stops m (by omega) 3 (w.heap.size+1+1+1+1) (by decide) w1 hG1 (by omega) hcm) walksK_t walksK_b (Below.refl _ _) (fun _=>rfl)
  (SignI w w.heap.size secret i) (fun _ _ _=>False) (SignI.own _ _ _ _ _ (by omega)) (fun _ _ _ _ _ hs _ _=>hs) hI0
  (fun x=>{ tmps:=#[.string ⟨secret.toArray⟩,.int .i64 h,.int .i64 i,.string ⟨m.toArray⟩,.pointer (some ⟨w.heap.size,0,none⟩),undef,.pointer (some ⟨w.heap.size+1,0,none⟩),undef,.pointer (some ⟨w.heap.size+1+1,0,none⟩),.int .i64 0,.pointer (some ⟨w.heap.size+1+1+1,0,none⟩),.int .i64 (x.1.val:Nat),.int .i64 (x.2.val:Nat),.int .i64 h,.bool false,.bool false,.int .i64 h,.bool false,.bool false,.bool false,.int .i64 i,.bool false,.bool false,.bool false,.int .i64 i,.int .i64 h,.int .i64 (2 ^ h),.bool false,.bool false,undef,.int .i64 i,.agg #[.int .i64 i,.slice none 0 0,.slice none 0 0],.string ⟨m.toArray⟩,.func (.func 97) #[] #[.pointer (some ⟨w.heap.size+1+1+1+1,0,none⟩)],.int .i64 (x.1.val:Nat),.int .i64 (x.2.val:Nat),undef,undef,undef,undef,undef,undef,undef,undef,undef,undef,undef,undef,undef,undef,undef,undef,undef,undef,undef,undef,undef],defers:=[] }) ?assign ?body ?done ?stop
 case assign =>
  intro l x W K hK
  gi_wp2
  exact hK
 case stop =>
  rintro D c pre W _ _ hx _
  exact hx.elim
 case body =>
  rintro l pre x W hI hlen
  have hk18:=x.1.isLt
  have hd16:=x.2.isLt
  have hGW:Gl W:=hG.low hI.below hG.size
  obtain⟨hle,hb0,hb1,hbr,⟨v,hb3,hO⟩,hbw⟩:=hI
  have hSk:∀ W',Below (w.heap.size+5) W W'→W'.cell? ⟨w.heap.size,0,none⟩=some (.string ⟨secret.toArray⟩)∧W'.cell? ⟨w.heap.size+1,0,none⟩=some (.int .i64 i):=fun W' hb =>
   ⟨by rw [hb.cell (p:=⟨w.heap.size,0,none⟩) (by simp)];simp [World.cell?,hb0],by rw [hb.cell (p:=⟨w.heap.size+1,0,none⟩) (by simp)];simp [World.cell?,hb1]⟩
  have hV:∀ W',Below (w.heap.size+5) W W'→W'.cell? ⟨w.heap.size+1+1+1,1,none⟩=some v:=fun W' hb=>by
   rw [hb.cell (p:=⟨w.heap.size+1+1+1,1,none⟩) (by simp)];simp [World.cell?,hb3]
  have hF:∀ W',Below (w.heap.size+5) W W'→W'.frozen? ⟨w.heap.size+1+1+1,1,none⟩=false:=fun W' hb=>by
   rw [hb.frozen (p:=⟨w.heap.size+1+1+1,1,none⟩) (by simp)];exact Aj hb3 _
  have hB1:Below (w.heap.size+5) W W.drew:=(Below.refl _ W).drew
  have hG1:Gl W.drew:=hGW.below (Below.refl _ W).drew
  have hO1:Ag (w.heap.size+5) W.drew v (pre.map fun x=>CH.chain x.2.val (CH.start secret i x.1.val)):=hO.below (Below.refl _ W).drew
  have hv1:=hV _ hB1
  have hl18:pre.length≤18:=by omega
  gi_wp2_with fail
  refine Dv (fun W'=>W'.cell? ⟨w.heap.size,0,none⟩=some (.string ⟨secret.toArray⟩)∧W'.cell? ⟨w.heap.size+1,0,none⟩=some (.int .i64 i)) _ _ (by kernel_rfl) (by kernel_rfl) ?_ (hSk _ hB1) (fun hHeld=>?_)
  ·rintro⟨a,w,h⟩;exact h
  refine tk 0 (v:=?_) rfl (by rfl) hHeld ?_ ?_
  rotate_left
  ·(intro w hSw;(try dsimp only at hSw);go_simp;try with_reducible rfl)
  (try simp only [Act.put,pA,pB,pC])
  refine tk 2 (v:=?_) rfl (by rfl) hHeld ?_ ?_
  rotate_left
  ·(intro w hSw;(try dsimp only at hSw);go_simp;try with_reducible rfl)
  (try simp only [Act.put,pA,pB,pC])
  refine tk 3 (v:=?_) rfl (by rfl) hHeld ?_ ?_
  rotate_left
  ·(intro w hSw;(try dsimp only at hSw);go_simp;try with_reducible rfl)
  (try simp only [Act.put,pA,pB,pC])
  refine tk 4 (v:=?_) rfl (by rfl) hHeld ?_ ?_
  rotate_left
  ·(intro w hSw;(try dsimp only at hSw);go_simp;try with_reducible rfl)
  (try simp only [Act.put,pA,pB,pC])
  refine tk 6 (v:=?_) rfl (by rfl) hHeld ?_ ?_
  rotate_left
  ·(intro w hSw;(try dsimp only at hSw);go_simp;try with_reducible rfl)
  (try simp only [Act.put,pA,pB,pC])
  refine wpAnyH_ready (rs:=[1,5]) (by kernel_rfl) (by simp) ?_
  refine AllReadyH.cons (o:=_) rfl (fun K hK=>?_) ?_
  focus
   go_simp
   refine hK.out _ _ (hSk _ hB1) (fun hHeld=>?_)
   clear hK K
   (try simp only [Act.put,pA,pB,pC])
   refine rk 5 rfl (fun K hK=>?_)
   go_simp
   refine (start_any secret i x.1.val W.drew hG1 hs (by omega) (by omega)).mono ?_
   rintro e w2 ⟨rfl,hb2⟩
   have hB2:Below (w.heap.size+5) W w2:=hB1.trans (hb2.mono hle)
   have hG2:=hG1.below hb2
   have hv2:=hV _ hB2
   have hO2:=hO1.below hb2
   go_wp2_with fail
   refine hK.out _ _ (hSk _ hB2) (fun hHeld=>?_)
   clear hK K
   (try simp only [Act.put,pA,pB,pC])
   refine rk 7 rfl (fun K hK=>?_)
   go_simp
   refine (Ez (CH.start secret i x.1.val) x.2.val w2 hG2 (by omega) (by rw [CH.length_start];omega)).mono ?_
   rintro e w3 ⟨rfl,hb3'⟩
   have hB3:Below (w.heap.size+5) W w3:=hB2.trans (hb3'.mono (nT hle hB2.size))
   have hv3:=hV _ hB3
   have hv4:∀ o,(w3.alloc o).cell? ⟨w.heap.size+1+1+1,1,none⟩=some v:=fun o=>hV _ (hB3.alloc (nT hle hB3.size) o)
   have hO3:=hO2.below hb3'
   go_wp2_with fail
   refine hK.out _ _ (hSk _ hB3) (fun hHeld=>?_)
   clear hK K
   (try simp only [Act.put,pA,pB,pC])
   refine rk 8 rfl (fun K hK=>?_)
   go_simp
   refine hK.out _ _ (hSk _ (hB3.alloc (nT hle hB3.size) _)) (fun hHeld=>?_)
   clear hK K
   (try simp only [Act.put,pA,pB,pC])
   refine rk 9 rfl (fun K hK=>?_)
   rw [if_pos (by rfl)]
   refine A5 _ _ rfl (w.heap.size+5) v _ rfl (hO3.alloc _) w3.heap.size _ (CH.chain x.2.val (CH.start secret i x.1.val)) rfl (World.cell?_alloc_mark _ _ _ _ _) (by rw [List.length_map];omega) (by have:=hB3.size;simp;omega) ?_
   intro v5 w5 hO5 hg5
   obtain⟨a5,c5,rfl,hf5a,hf5b,hf5c⟩:=hO5.form
   have hB5:Below (w.heap.size+5) W w5:=(hB3.alloc (nT hle hB3.size) _).grown hg5 (by have:=hB3.size;simp;omega) (fun k e=>(hO3.ownBlock k e).1)
   have hv5:=hV _ hB5
   have hf5:=hF _ hB5
   refine hK.out _ _ (hSk _ hB5) (fun hHeld=>?_)
   clear hK K
   (try simp only [Act.put,pA,pB,pC])
   refine tk 10 (v:=?_) rfl (by rfl) hHeld ?_ ?_
   rotate_left
   ·(intro w hSw;(try dsimp only at hSw);go_simp;try with_reducible rfl)
   (try simp only [Act.put,pA,pB,pC])
   refine rk 11 rfl (fun K hK=>?_)
   go_simp
   refine hK.out _ _ (⟨(World.cell?_setCell_far _ ⟨w.heap.size+1+1+1,1,none⟩ ⟨w.heap.size,0,none⟩ _ (fun e=>by dsimp only at e;omega)).trans (hSk _ hB5).1,(World.cell?_setCell_far _ ⟨w.heap.size+1+1+1,1,none⟩ ⟨w.heap.size+1,0,none⟩ _ (fun e=>by dsimp only at e;omega)).trans (hSk _ hB5).2⟩) (fun hHeld=>?_)
   clear hK K
   (try simp only [Act.put,pA,pB,pC])
   refine wpAnyH_done (by kernel_rfl) ?_ _
  rotate_left 1
  refine AllReadyH.cons (o:=_) rfl (fun K hK=>?_) AllReadyH.nil
  focus
   go_simp
   refine (start_any secret i x.1.val W.drew hG1 hs (by omega) (by omega)).mono ?_
   rintro e w2 ⟨rfl,hb2⟩
   have hB2:Below (w.heap.size+5) W w2:=hB1.trans (hb2.mono hle)
   have hG2:=hG1.below hb2
   have hv2:=hV _ hB2
   have hO2:=hO1.below hb2
   go_wp2_with fail
   refine hK.out _ _ (hSk _ hB2) (fun hHeld=>?_)
   clear hK K
   (try simp only [Act.put,pA,pB,pC])
   refine wpAnyH_ready (rs:=[1,7]) (by kernel_rfl) (by simp) ?_
   refine AllReadyH.cons (o:=_) rfl (fun K hK=>?_) ?_
   focus
    go_simp
    refine hK.out _ _ (hSk _ hB2) (fun hHeld=>?_)
    clear hK K
    (try simp only [Act.put,pA,pB,pC])
    refine rk 7 rfl (fun K hK=>?_)
    go_simp
    refine (Ez (CH.start secret i x.1.val) x.2.val w2 hG2 (by omega) (by rw [CH.length_start];omega)).mono ?_
    rintro e w3 ⟨rfl,hb3'⟩
    have hB3:Below (w.heap.size+5) W w3:=hB2.trans (hb3'.mono (nT hle hB2.size))
    have hv3:=hV _ hB3
    have hv4:∀ o,(w3.alloc o).cell? ⟨w.heap.size+1+1+1,1,none⟩=some v:=fun o=>hV _ (hB3.alloc (nT hle hB3.size) o)
    have hO3:=hO2.below hb3'
    go_wp2_with fail
    refine hK.out _ _ (hSk _ hB3) (fun hHeld=>?_)
    clear hK K
    (try simp only [Act.put,pA,pB,pC])
    refine rk 8 rfl (fun K hK=>?_)
    go_simp
    refine hK.out _ _ (hSk _ (hB3.alloc (nT hle hB3.size) _)) (fun hHeld=>?_)
    clear hK K
    (try simp only [Act.put,pA,pB,pC])
    refine rk 9 rfl (fun K hK=>?_)
    rw [if_pos (by rfl)]
    refine A5 _ _ rfl (w.heap.size+5) v _ rfl (hO3.alloc _) w3.heap.size _ (CH.chain x.2.val (CH.start secret i x.1.val)) rfl (World.cell?_alloc_mark _ _ _ _ _) (by rw [List.length_map];omega) (by have:=hB3.size;simp;omega) ?_
    intro v5 w5 hO5 hg5
    obtain⟨a5,c5,rfl,hf5a,hf5b,hf5c⟩:=hO5.form
    have hB5:Below (w.heap.size+5) W w5:=(hB3.alloc (nT hle hB3.size) _).grown hg5 (by have:=hB3.size;simp;omega) (fun k e=>(hO3.ownBlock k e).1)
    have hv5:=hV _ hB5
    have hf5:=hF _ hB5
    refine hK.out _ _ (hSk _ hB5) (fun hHeld=>?_)
    clear hK K
    (try simp only [Act.put,pA,pB,pC])
    refine tk 10 (v:=?_) rfl (by rfl) hHeld ?_ ?_
    rotate_left
    ·(intro w hSw;(try dsimp only at hSw);go_simp;try with_reducible rfl)
    (try simp only [Act.put,pA,pB,pC])
    refine rk 11 rfl (fun K hK=>?_)
    go_simp
    refine hK.out _ _ (⟨(World.cell?_setCell_far _ ⟨w.heap.size+1+1+1,1,none⟩ ⟨w.heap.size,0,none⟩ _ (fun e=>by dsimp only at e;omega)).trans (hSk _ hB5).1,(World.cell?_setCell_far _ ⟨w.heap.size+1+1+1,1,none⟩ ⟨w.heap.size+1,0,none⟩ _ (fun e=>by dsimp only at e;omega)).trans (hSk _ hB5).2⟩) (fun hHeld=>?_)
    clear hK K
    (try simp only [Act.put,pA,pB,pC])
    refine wpAnyH_done (by kernel_rfl) ?_ _
   rotate_left 1
   refine AllReadyH.cons (o:=_) rfl (fun K hK=>?_) AllReadyH.nil
   focus
    go_simp
    refine (Ez (CH.start secret i x.1.val) x.2.val w2 hG2 (by omega) (by rw [CH.length_start];omega)).mono ?_
    rintro e w3 ⟨rfl,hb3'⟩
    have hB3:Below (w.heap.size+5) W w3:=hB2.trans (hb3'.mono (nT hle hB2.size))
    have hv3:=hV _ hB3
    have hv4:∀ o,(w3.alloc o).cell? ⟨w.heap.size+1+1+1,1,none⟩=some v:=fun o=>hV _ (hB3.alloc (nT hle hB3.size) o)
    have hO3:=hO2.below hb3'
    go_wp2_with fail
    refine hK.out _ _ (hSk _ hB3) (fun hHeld=>?_)
    clear hK K
    (try simp only [Act.put,pA,pB,pC])
    refine wpAnyH_ready (rs:=[1,8]) (by kernel_rfl) (by simp) ?_
    refine AllReadyH.cons (o:=_) rfl (fun K hK=>?_) ?_
    focus
     go_simp
     refine hK.out _ _ (hSk _ hB3) (fun hHeld=>?_)
     clear hK K
     (try simp only [Act.put,pA,pB,pC])
     refine rk 8 rfl (fun K hK=>?_)
     go_simp
     refine hK.out _ _ (hSk _ (hB3.alloc (nT hle hB3.size) _)) (fun hHeld=>?_)
     clear hK K
     (try simp only [Act.put,pA,pB,pC])
     refine rk 9 rfl (fun K hK=>?_)
     rw [if_pos (by rfl)]
     refine A5 _ _ rfl (w.heap.size+5) v _ rfl (hO3.alloc _) w3.heap.size _ (CH.chain x.2.val (CH.start secret i x.1.val)) rfl (World.cell?_alloc_mark _ _ _ _ _) (by rw [List.length_map];omega) (by have:=hB3.size;simp;omega) ?_
     intro v5 w5 hO5 hg5
     obtain⟨a5,c5,rfl,hf5a,hf5b,hf5c⟩:=hO5.form
     have hB5:Below (w.heap.size+5) W w5:=(hB3.alloc (nT hle hB3.size) _).grown hg5 (by have:=hB3.size;simp;omega) (fun k e=>(hO3.ownBlock k e).1)
     have hv5:=hV _ hB5
     have hf5:=hF _ hB5
     refine hK.out _ _ (hSk _ hB5) (fun hHeld=>?_)
     clear hK K
     (try simp only [Act.put,pA,pB,pC])
     refine tk 10 (v:=?_) rfl (by rfl) hHeld ?_ ?_
     rotate_left
     ·(intro w hSw;(try dsimp only at hSw);go_simp;try with_reducible rfl)
     (try simp only [Act.put,pA,pB,pC])
     refine rk 11 rfl (fun K hK=>?_)
     go_simp
     refine hK.out _ _ (⟨(World.cell?_setCell_far _ ⟨w.heap.size+1+1+1,1,none⟩ ⟨w.heap.size,0,none⟩ _ (fun e=>by dsimp only at e;omega)).trans (hSk _ hB5).1,(World.cell?_setCell_far _ ⟨w.heap.size+1+1+1,1,none⟩ ⟨w.heap.size+1,0,none⟩ _ (fun e=>by dsimp only at e;omega)).trans (hSk _ hB5).2⟩) (fun hHeld=>?_)
     clear hK K
     (try simp only [Act.put,pA,pB,pC])
     refine wpAnyH_done (by kernel_rfl) ?_ _
    rotate_left 1
    refine AllReadyH.cons (o:=_) rfl (fun K hK=>?_) AllReadyH.nil
    focus
     go_simp
     refine hK.out _ _ (hSk _ (hB3.alloc (nT hle hB3.size) _)) (fun hHeld=>?_)
     clear hK K
     (try simp only [Act.put,pA,pB,pC])
     refine rk 1 rfl (fun K hK=>?_)
     go_simp
     refine hK.out _ _ (hSk _ (hB3.alloc (nT hle hB3.size) _)) (fun hHeld=>?_)
     clear hK K
     (try simp only [Act.put,pA,pB,pC])
     refine rk 9 rfl (fun K hK=>?_)
     rw [if_pos (by rfl)]
     refine A5 _ _ rfl (w.heap.size+5) v _ rfl (hO3.alloc _) w3.heap.size _ (CH.chain x.2.val (CH.start secret i x.1.val)) rfl (World.cell?_alloc_mark _ _ _ _ _) (by rw [List.length_map];omega) (by have:=hB3.size;simp;omega) ?_
     intro v5 w5 hO5 hg5
     obtain⟨a5,c5,rfl,hf5a,hf5b,hf5c⟩:=hO5.form
     have hB5:Below (w.heap.size+5) W w5:=(hB3.alloc (nT hle hB3.size) _).grown hg5 (by have:=hB3.size;simp;omega) (fun k e=>(hO3.ownBlock k e).1)
     have hv5:=hV _ hB5
     have hf5:=hF _ hB5
     refine hK.out _ _ (hSk _ hB5) (fun hHeld=>?_)
     clear hK K
     (try simp only [Act.put,pA,pB,pC])
     refine tk 10 (v:=?_) rfl (by rfl) hHeld ?_ ?_
     rotate_left
     ·(intro w hSw;(try dsimp only at hSw);go_simp;try with_reducible rfl)
     (try simp only [Act.put,pA,pB,pC])
     refine rk 11 rfl (fun K hK=>?_)
     go_simp
     refine hK.out _ _ (⟨(World.cell?_setCell_far _ ⟨w.heap.size+1+1+1,1,none⟩ ⟨w.heap.size,0,none⟩ _ (fun e=>by dsimp only at e;omega)).trans (hSk _ hB5).1,(World.cell?_setCell_far _ ⟨w.heap.size+1+1+1,1,none⟩ ⟨w.heap.size+1,0,none⟩ _ (fun e=>by dsimp only at e;omega)).trans (hSk _ hB5).2⟩) (fun hHeld=>?_)
     clear hK K
     (try simp only [Act.put,pA,pB,pC])
     refine wpAnyH_done (by kernel_rfl) ?_ _
  all_goals
   have hbd:Below W.heap.size W w3:=((Below.refl _ W).drew.trans (hb2.mono nR)).trans (hb3'.mono hb2.size)
   have hko:∀ u,KeepsOthers W (w5.setCell ⟨w.heap.size+1+1+1,1,none⟩ u):=fun u =>
    (((Cy hbd).trans (KeepsOthers.alloc _ _)).trans (KeepsOthers.of_grownBy hg5 (fun j o hj ho=>by
     obtain⟨_,cs,t,fr,hcs⟩:=(hO3.alloc _).ownBlock j hj
     rw [ho] at hcs;cases hcs;rfl))).trans (KeepsOthers.setCell _ _ _)
   have hk5:∀ k,k<w.heap.size+5→w5.heap[k]?=W.heap[k]?:=fun k hk=>hB5.block k hk
   have hks:∀ k u,k≠w.heap.size+1+1+1→(w5.setCell ⟨w.heap.size+1+1+1,1,none⟩ u).heap[k]?=w5.heap[k]?:=fun k u hk=>by
    simp only [World.setCell];rw [Array.getElem?_modify,if_neg (fun e=>hk e.symm)]
   refine⟨(hko _).from _,(hko _).walks,⟨?_,?_,?_,?_,⟨.slice a5 (pre.length+1) c5,?_,?_⟩,?_⟩⟩
   ·have:=(hko undef).size;simp at this ⊢;omega
   ·rw [hks _ _ (by omega),hk5 _ (by omega)];exact hb0
   ·rw [hks _ _ (by omega),hk5 _ (by omega)];exact hb1
   ·rw [hks _ _ (by omega),hk5 _ (by omega)];exact hbr
   ·exact Ai w5 (w.heap.size+3) 1 _ _ _ _ ((hk5 _ (by omega)).trans hb3)
   ·rw [List.map_append]
    have h0:=hO5
    simp only [Ag,List.length_append,List.length_map,List.length_cons,List.length_nil,Nat.zero_add] at h0 ⊢
    exact h0.kept (De w5 ⟨w.heap.size+1+1+1,1,none⟩ _) (by
     rcases a5 with _|p
     ·exact .inl rfl
     ·refine .inr ?_
      intro e
      have h9:w.heap.size+5≤w.heap.size+1+1+1:=(hO5.ownBlock _ e).1
      omega)
   ·exact⟨hB5.os.trans hbw.os,hB5.tape.trans hbw.tape,hB5.output.trans hbw.output,by have:=hbw.size;have:=(hko undef).size;simp at this ⊢;omega,fun k hk=>by rw [hks _ _ (by omega),hk5 _ (by omega)];exact hbw.block k hk⟩
 case done =>
  clear hG1 hcm
  intro D xs W hD hxs hI hdef
  subst hxs
  have hGW:Gl W:=hG.low hI.below hG.size
  obtain⟨hle,hb0,hb1,hbr,⟨v,hb3,hO⟩,hbw⟩:=hI
  have hSk:∀ W',Below (w.heap.size+5) W W'→W'.cell? ⟨w.heap.size,0,none⟩=some (.string ⟨secret.toArray⟩)∧W'.cell? ⟨w.heap.size+1,0,none⟩=some (.int .i64 i):=fun W' hb =>
   ⟨by rw [hb.cell (p:=⟨w.heap.size,0,none⟩) (by simp)];simp [World.cell?,hb0],by rw [hb.cell (p:=⟨w.heap.size+1,0,none⟩) (by simp)];simp [World.cell?,hb1]⟩
  have hB1:Below (w.heap.size+5) W W.drew:=(Below.refl _ W).drew
  have hG1:Gl W.drew:=hGW.below (Below.refl _ W).drew
  obtain⟨av,cv,ev,hvf⟩:=hO.form
  rw [List.length_map,CH.length_dpairs] at ev
  subst ev
  clear hvf
  have hV:∀ W',Below (w.heap.size+5) W W'→W'.cell? ⟨w.heap.size+1+1+1,2,none⟩=some (.slice none 0 0):=fun W' hb=>by
   rw [hb.cell (p:=⟨w.heap.size+1+1+1,2,none⟩) (by simp)];simp [World.cell?,hb3]
  have hF:∀ W',Below (w.heap.size+5) W W'→W'.frozen? ⟨w.heap.size+1+1+1,2,none⟩=false:=fun W' hb=>by
   rw [hb.frozen (p:=⟨w.heap.size+1+1+1,2,none⟩) (by simp)];exact Aj hb3 _
  have hkl:∀ l∈CH.keys secret h,l.length≤1000000:=fun l hl=>by
   simp only [CH.keys,List.mem_map] at hl
   obtain⟨k,_,rfl⟩:=hl
   rw [CH.length_otKey];omega
  have h2n:(CH.keys secret h).length=2 ^ h:=CH.length_keys _ _
  go_wp2_with fail
  go_region_held3 (fun W'=>W'.cell? ⟨w.heap.size,0,none⟩=some (.string ⟨secret.toArray⟩)∧W'.cell? ⟨w.heap.size+1,0,none⟩=some (.int .i64 i)) (first|exact⟨(World.cell?_setCell_far _ ⟨w.heap.size+1+1+1,2,none⟩ ⟨w.heap.size,0,none⟩ _ (fun e=>by dsimp only at e;omega)).trans (hSk _ hB3).1,(World.cell?_setCell_far _ ⟨w.heap.size+1+1+1,2,none⟩ ⟨w.heap.size+1,0,none⟩ _ (fun e=>by dsimp only at e;omega)).trans (hSk _ hB3).2⟩|exact hSk _ hB3|exact hSk _ hB2|exact hSk _ hB1)
   (first
   |(go_at_call 26;refine (keys_any secret h W.drew hG1 hs hh).mono ?_;rintro e w2 ⟨v2,rfl,hO2,hb2⟩;have hB2:Below (w.heap.size+5) W w2:=hB1.trans (hb2.mono hle);have hG2:=hG1.below hb2;obtain⟨a2,c2,e2,hf2⟩:=hO2.form;rw [h2n] at e2;subst e2;clear hf2)
   |(go_at_call 48;refine (path_any _ (CH.keys secret h) i w2 hG2 hO2.strs (by omega) (by omega) (fun l hl=>hkl l hl)).mono ?_;rintro e w3 ⟨v3,rfl,hS3,hb3'⟩;have hB3:Below (w.heap.size+5) W w3:=hB2.trans (hb3'.mono (nT hle hB2.size));have hv3:w3.cell? ⟨w.heap.size+1+1+1,2,none⟩=some (.slice none 0 0):=hV _ hB3;have hf3:=hF _ hB3;have HS3:=hid hS3;obtain⟨a3,c3,e3,hf3'⟩:=hS3;generalize hn3:(CH.path (CH.keys secret h) i).length=n3 at e3;subst e3;clear hf3' hn3)
   | fail)
  have hk3:∀ k,k<w.heap.size+5→w3.heap[k]?=W.heap[k]?:=fun k hk=>hB3.block k hk
  have h93:=Ai w3 (w.heap.size+1+1+1) 2 (.slice a3 n3 c3) _ _ _ ((hk3 _ (by omega)).trans hb3)
  have h92:(w3.setCell ⟨w.heap.size+1+1+1,2,none⟩ (.slice a3 n3 c3)).heap[w.heap.size+1+1]?=some (.cells #[.int .i64 0,.slice none 0 0,.slice none 0 0] 27 (0,0)):=by
   simp only [World.setCell];rw [Array.getElem?_modify,if_neg (by omega),hk3 _ (by omega)];exact hbr
  simp only [List.setIfInBounds_toArray,List.set_cons_zero,List.set_cons_succ] at h93
  have hb9:Below w.heap.size w (w3.setCell ⟨w.heap.size+1+1+1,2,none⟩ (.slice a3 n3 c3)):=(hbw.trans (hB3.mono (by omega))).setCell (by simp;omega) _
  have hO3:Ag (w.heap.size+5) w3 (.slice av 18 cv) ((CH.dpairs m).map fun x=>CH.chain x.2.val (CH.start secret i x.1.val)):=((hO.below (Below.refl _ W).drew).below hb2).below hb3'
  have hO9:Ag (w.heap.size+5) (w3.setCell ⟨w.heap.size+1+1+1,2,none⟩ (.slice a3 n3 c3)) (.slice av 18 cv) ((CH.dpairs m).map fun x=>CH.chain x.2.val (CH.start secret i x.1.val)):=hO3.setFar (by omega) _ _
  have hd3:w3.heap[D]?=some (.deferred (some [])):=by
   have hDlt:D<W.heap.size:=(aZ hdef)
   have hDlt2:D<w2.heap.size:=nL hDlt hb2.size
   rw [hb3'.block D hDlt2,hb2.block D hDlt]
   exact hdef
  have hDne:D≠w.heap.size+1+1+1:=fun e=>by rw [e] at hdef;rw [hb3] at hdef;cases hdef
  have hDne':D≠w.heap.size+1+1:=fun e=>by rw [e] at hdef;rw [hbr] at hdef;cases hdef
  have hS9:Hid (Strs w3.heap.size (w3.setCell ⟨w.heap.size+1+1+1,2,none⟩ (.slice a3 n3 c3)) (.slice a3 n3 c3) (CH.path (CH.keys secret h) i)):=hid (by
   refine HS3.out.other (g:=w.heap.size+1+1+1) (fun k s=>?_) (fun k hk=>At _ _ _ _ hk)
   rw [cell_of ((hk3 _ (by omega)).trans hb3) k]
   rcases k with _|_|_|k <;> simp)
  have hd9:(w3.setCell ⟨w.heap.size+1+1+1,2,none⟩ (.slice a3 n3 c3)).heap[D]?=some (.deferred (some [])):=by
   simp only [World.setCell];rw [Array.getElem?_modify,if_neg (fun e=>hDne e.symm)];exact hd3
  have hs9:w.heap.size+5≤w3.heap.size:=nT hle hB3.size
  have hs9':(w3.setCell ⟨w.heap.size+1+1+1,2,none⟩ (.slice a3 n3 c3)).heap.size=w3.heap.size:=by simp [World.setCell]
  generalize hW9:w3.setCell ⟨w.heap.size+1+1+1,2,none⟩ (.slice a3 n3 c3)=W9 at *
  have c0:=cell_of h93 0
  have c1:=cell_of h93 1
  have c2':=cell_of h93 2
  have d0:=cell_of h92 0
  have d1:=cell_of h92 1
  have d2:=cell_of h92 2
  have f0:=Aj h92 0
  have f1:=Aj h92 1
  have f2:=Aj h92 2
  simp only [List.getElem?_toArray,List.getElem?_cons_zero,List.getElem?_cons_succ] at c0 c1 c2' d0 d1 d2
  go_wp2_with fail
  refine⟨by simp,.inl ⟨_,_,rfl,run_takeDeferred (ds:=[]) ?_,?_⟩⟩
  ·simp only [World.setCell];rw [Array.getElem?_modify,if_neg (fun e=>hDne' e.symm),Array.getElem?_modify,if_neg (fun e=>hDne' e.symm),Array.getElem?_modify,if_neg (fun e=>hDne' e.symm)];exact hd9
  have g0:=Ai W9 (w.heap.size+1+1) 0 (.int .i64 i) _ _ _ h92
  have g1:=Ai _ (w.heap.size+1+1) 1 (.slice av 18 cv) _ _ _ g0
  have g2:=Ai _ (w.heap.size+1+1) 2 (.slice a3 n3 c3) _ _ _ g1
  simp only [List.setIfInBounds_toArray,List.set_cons_zero,List.set_cons_succ] at g0 g1 g2
  have hDw:w.heap.size≤D:=by omega
  generalize hX0:W9.setCell ⟨w.heap.size+1+1,0,none⟩ (.int .i64 i)=X0 at *
  generalize hX1:X0.setCell ⟨w.heap.size+1+1,1,none⟩ (.slice av 18 cv)=X1 at *
  generalize hX2:X1.setCell ⟨w.heap.size+1+1,2,none⟩ (.slice a3 n3 c3)=X2 at *
  have hdX:X2.heap[D]?=some (.deferred (some [])):=by
   rw [← hX2,At _ _ _ _ hDne',← hX1,At _ _ _ _ hDne',← hX0,At _ _ _ _ hDne'];exact hd9
  have hbX:Below w.heap.size w X2:=by
   rw [← hX2,← hX1,← hX0]
   exact ((hb9.setCell (by simp;omega) _).setCell (by simp;omega) _).setCell (by simp;omega) _
  have hOX:Ag (w.heap.size+5) X2 (.slice av 18 cv) ((CH.dpairs m).map fun x=>CH.chain x.2.val (CH.start secret i x.1.val)):=by
   rw [← hX2,← hX1,← hX0]
   exact ((hO9.setFar (by omega) _ _).setFar (by omega) _ _).setFar (by omega) _ _
  have hsX:X2.heap.size=w3.heap.size:=by rw [← hX2,← hX1,← hX0];simp [World.setCell,hs9']
  have hSX:Strs w3.heap.size X2 (.slice a3 n3 c3) (CH.path (CH.keys secret h) i):=by
   refine hS9.out.other (g:=w.heap.size+1+1) (fun k s=>?_) (fun k hk=>?_)
   ·rw [cell_of h92 k]
    rcases k with _|_|_|k <;> simp
   ·rw [← hX2,At _ _ _ _ hk,← hX1,At _ _ _ _ hk,← hX0,At _ _ _ _ hk]
  have hgp:=grownBy_putObj' X2 D (.deferred none)
  have hgX:(X2.putObj D (.deferred none)).heap[w.heap.size+1+1]?=X2.heap[w.heap.size+1+1]?:=hgp.block _ (aZ g2) (fun e=>hDne' (by simpa using e.symm))
  have hX3:=hgX.trans g2
  have k0:=cell_of hX3 0
  have k1:=cell_of hX3 1
  have k2:=cell_of hX3 2
  simp only [List.getElem?_toArray,List.getElem?_cons_zero,List.getElem?_cons_succ] at k0 k1 k2
  refine⟨.tuple #[.agg #[.int .i64 i,.slice av 18 cv,.slice a3 n3 c3],.int .i64 0],?_,_,_,rfl,?_,?_,?_⟩
  ·simp [results,Tryz.f21,go_sem,k0,k1,k2]
  ·have h1:=Ag.strs (Dc hOX hgp (fun r e=>by cases e;exact⟨_,hdX,rfl⟩))
   rw [CH.sig_eq]
   exact h1
  ·have h2:Strs w3.heap.size (X2.putObj D (.deferred none)) (.slice a3 n3 c3) (CH.path (CH.keys secret h) i):=by
    refine hSX.other (g:=D) (fun k s=>by simp [World.cell?,hdX]) (fun k hk=>?_)
    simp only [World.putObj];exact Array.getElem?_setIfInBounds_ne (fun e=>hk e.symm)
   exact h2.mono (by have:=hgp.size;omega)
  ·exact hbX.grown hgp hbX.size (fun k e=>by cases e;exact hDw)
end
section
open Go.Lib Go.Proofs.Tryz Go.RowKit Go.Shelf
variable {F:Fence} {n:Nat} {P:Program}
def SeqP {α:Type} (p:Nat) (F:Fence) (n:Nat) (P:Program) (g:Nat) (lb:Array Value) (encs:α→Array Value) (Kp:World→World→Prop) (S Sp:List α→Prop) (Ok:List α→α→Prop) (w:World):Prop :=
 ∀ (l:Nat) (J Jx:List α→World→Prop) (W:World),Below w.heap.size w W→AbidesFrom W.heap.size J→AbidesFrom W.heap.size Jx→(∀ pre A v,J pre A→J pre (A.setCell ⟨p,0,none⟩ v)) →
  (∀ pre x A,J pre A→Ok pre x→YieldAt F (n - 1) P l (encs x) A fun e B=>(e=.returned (.bool true)∧J (pre++[x]) B∧Kp A B)∨(e=.returned (.bool false)∧Jx (pre++[x]) B)) →
  J [] W →
  CallsIn F n P g (#[.func (.yield l) #[] #[]]++lb) W fun e B=>(∃ v,e=.returned v)∧((∃ xs,S xs∧J xs B)∨(∃ pre,Sp pre∧Jx pre B))
theorem rangeFunc_p {α:Type} {g:Operand} {ps:Array Tmp} {assign body:Code} {Q:Exit→Act→World→Prop} {a:Act} {w:World} (p:Nat) (hp:p<w.heap.size)
  (hro:F.round=none) (h1:1≤n) {gf:Nat} {lb:Array Value} (hg:a.eval g=.func (.func gf) #[] lb) (hFg:F.fn gf) (eg:∀ args w,(callFunc gf args).run P w=.ok (.enter gf args) w)
  {encs:α→Array Value} {Kp:World→World→Prop} {S Sp:List α→Prop} {Ok:List α→α→Prop} {w0:World} (hseq:SeqP p F (n - 1) P gf lb encs Kp S Sp Ok w0)
  (hKt:∀ {A B C:World},Kp A B→Kp B C→Kp A C) (hKb:∀ (W:World) (l:Nat) (o o':Obj),w.heap.size≤l→W.heap[l]?=some o→o.isCells=false→o.isWalk=false→Kp W (W.putObj l o'))
  (hb0:Below w0.heap.size w0 w) (hps:∀ x,(encs x).size=ps.size)
  (I:List α→World→Prop) (Ix:Code→List α→World→Prop) (hI:OwnFrom w.heap.size I) (hIx:∀ c,OwnFrom w.heap.size (Ix c)) (hIp:∀ pre A v,I pre A→I pre (A.setCell ⟨p,0,none⟩ v)) (h0:I [] w) (a₁:α→Act)
  (hassign:∀ (l:Nat) (x:α) (W:World) (K:Act→World→Prop),K (a₁ x) W →
   assign.wpIn (F.inRound l) (n - 1 - 1) P (Exit.then K (fun _ _ _=>False)) { tmps:=(ps.zip (encs x)).foldl (fun t (p,v)=>t.setIfInBounds p v) a.tmps,defers:=[] } W)
  (hbody:∀ (l:Nat) (pre:List α) (x:α) (W:World),I pre W→Ok pre x→body.wpIn (F.inRound l) (n - 1 - 1) P (ownPostG w.heap.size Kp I Ix (pre++[x]) W) (a₁ x) W)
  (hdone:∀ (D:Nat) (xs:List α) (W:World),w.heap.size≤D→S xs→I xs W→W.heap[D]?=some (.deferred (some []))→Q .normal { a with defers:={ target:=.collected D,args:=#[] }::a.defers } W)
  (hstop:∀ (D:Nat) (c:Code) (pre:List α) (W:World),w.heap.size≤D→Sp pre→Ix c pre W→W.heap[D]?=some (.deferred (some []))→c.wpIn F n P Q { a with defers:={ target:=.collected D,args:=#[] }::a.defers } W) :
  (Code.rangeFunc g ps assign body).wpIn F n P Q a w:=by
 refine wpIn_rangeFunc ?_
 intro fn hfn
 rw [hro]
 obtain⟨rec,hrec⟩:∃ rec:LoopState→Option Code→Loop,rec=fun st pe=>{ state:=st,pending:=pe,fn,tmps:=a.tmps,params:=ps,assign,body,defers:=w.heap.size }:=⟨_,rfl⟩
 obtain⟨V,hV⟩:∃ V,(w.alloc (.deferred (some []))).alloc (.loop (rec .ready none))=V:=⟨_,rfl⟩
 have bV:Below w.heap.size w V:=by rw [← hV];exact ((Below.refl _ w).alloc nR _).alloc (by simp) _
 have zV:V.heap.size=w.heap.size+1+1:=by rw [← hV];simp
 have loopV:V.heap[w.heap.size+1]?=some (.loop (rec .ready none)):=by
  have:=heap_alloc_last (w.alloc (.deferred (some []))) (.loop (rec .ready none))
  rw [World.size_alloc,hV] at this
  exact this
 have deferV:V.heap[w.heap.size]?=some (.deferred (some [])):=by
  rw [← hV];exact (Below.heap_alloc _ _ _ (by simp)).trans (heap_alloc_last w _)
 have IV:I [] V:=by rw [← hV];exact hI.alloc _ (hI.alloc _ h0)
 refine⟨w.heap.size+1,[{ target:=.collected w.heap.size,args:=#[] }],V,{ target:=.fn (.func gf) lb,args:=#[.func (.yield (w.heap.size+1)) #[] #[]] },V,gf,
  #[.func (.yield (w.heap.size+1)) #[] #[]]++lb,V,?_,?_,?_,?_,fun _=>h1,?_⟩
 ·rw [← hV,hrec];exact run_enterLoop_outer _ _ _ _ _
 ·simp only [resolve,hg]
  simp [go_sem]
 ·intro f' hf';simp [Target.leads] at hf';subst hf';exact hFg
 ·simp [invoke,go_sem,eg]
 have far:∀ {A:World} {row:Option Nat},(∀ r,row=some r→V.heap.size≤r∧∃ o:Obj,A.heap[r]?=some o∧o.isWalk=true)→∀ r,row=some r→w.heap.size≤r∧∃ o:Obj,A.heap[r]?=some o∧o.isCells=false :=
  fun hr r e=>by obtain⟨h1,o,h2,h3⟩:=hr r e;exact⟨by omega,o,h2,Obj.not_cells_of_walk h3⟩
 have put:∀ (A:World) (k:Nat) (v:Value),k≠p→(A.setCell ⟨p,0,none⟩ v).heap[k]?=A.heap[k]?:=fun A k v hk=>At _ _ _ _ hk
 refine (hseq (w.heap.size+1)
  (fun pre A=>I pre A∧A.heap[w.heap.size+1]?=some (.loop (rec .ready none))∧A.heap[w.heap.size]?=some (.deferred (some [])))
  (fun pre A=>∃ c,Ix c pre A∧A.heap[w.heap.size+1]?=some (.loop (rec .done (some c)))∧A.heap[w.heap.size]?=some (.deferred (some [])))
  V (hb0.trans (bV.mono hb0.size))
  (fun s A B row hs hg' hr=>⟨hI s A B row hs.1 hg' (far hr),(grownBy_keeps hg' (fun r e=>(hr r e).2) hs.2.1 rfl).trans hs.2.1,(grownBy_keeps hg' (fun r e=>(hr r e).2) hs.2.2 rfl).trans hs.2.2⟩)
  (fun s A B row hs hg' hr=>by
   obtain⟨c,hc,hl,hk⟩:=hs
   exact⟨c,hIx c s A B row hc hg' (far hr),(grownBy_keeps hg' (fun r e=>(hr r e).2) hl rfl).trans hl,(grownBy_keeps hg' (fun r e=>(hr r e).2) hk rfl).trans hk⟩)
  (fun pre A v hs=>⟨hIp pre A v hs.1,(put A _ v (by omega)).trans hs.2.1,(put A _ v (by omega)).trans hs.2.2⟩)
  ?_ ⟨IV,loopV,deferV⟩).mono ?_
 ·rintro pre x A ⟨hi,hl,hk⟩ hlen
  have hlt:w.heap.size+1<A.heap.size:=(aZ hl)
  have hy:=run_yield (P:=P) (args:=encs x) hl (by rw [hrec];exact hps x)
  rw [hrec] at hy
  refine⟨fn,_,assign,body,hy,roundIn_of_wpIn hfn (hassign _ x A _ ⟨_,run_beginRound hl (by rw [hrec]),?_⟩)⟩
  obtain⟨busy,hbusy⟩:∃ b:Obj,b=.loop { rec .ready none with state:=.busy }:=⟨_,rfl⟩
  rw [← hbusy]
  have l2:(A.putObj (w.heap.size+1) busy).heap[w.heap.size+1]?=some busy:=World.putObj_heap_same hlt
  have k2:(A.putObj (w.heap.size+1) busy).heap[w.heap.size]?=some (.deferred (some [])):=(World.putObj_heap_other (by omega)).trans hk
  have b2:Kp A (A.putObj (w.heap.size+1) busy):=hKb _ _ _ _ (by omega) hl rfl rfl
  have i2:I pre (A.putObj (w.heap.size+1) busy):=hI.putObj _ hi (by omega) hl rfl
  have ends:∀ (jump:Option Code) (C:World),KeepsFrom w.heap.size (A.putObj (w.heap.size+1) busy) C →
    (Instr.endRound (w.heap.size+1) jump).run P C=.ok (.bool jump.isNone) (C.putObj (w.heap.size+1) (.loop (rec (if jump.isNone then .ready else .done) jump))) ∧
    C.heap[w.heap.size+1]?=some busy ∧
    (C.putObj (w.heap.size+1) (.loop (rec (if jump.isNone then .ready else .done) jump))).heap[w.heap.size+1]?=some (.loop (rec (if jump.isNone then .ready else .done) jump)) ∧
    (C.putObj (w.heap.size+1) (.loop (rec (if jump.isNone then .ready else .done) jump))).heap[w.heap.size]?=some (.deferred (some [])):=fun jump C hC=>by
   have l3:=hC.same _ _ (by omega) l2 (by rw [hbusy];rfl)
   have l3':=l3
   rw [hbusy] at l3'
   have:=run_endRound (P:=P) jump l3'
   rw [hrec] at this ⊢
   exact⟨this,l3,World.putObj_heap_same (aZ l3),(World.putObj_heap_other (by omega)).trans (hC.same _ _ nR k2 rfl)⟩
  refine wpIn_mono (hbody _ pre x _ i2 hlen) ?_
  have jumps:∀ (c:Code) (C:World),KeepsFrom w.heap.size (A.putObj (w.heap.size+1) busy) C∧Ix c (pre++[x]) C→∃ v B,(Instr.endRound (w.heap.size+1) (some c)).run P C=.ok v B∧((Ending.returned v=.returned (.bool true)∧(I (pre++[x]) B∧B.heap[w.heap.size+1]?=some (.loop (rec .ready none))∧B.heap[w.heap.size]?=some (.deferred (some [])))∧Kp A B)∨(Ending.returned v=.returned (.bool false)∧∃ c,Ix c (pre++[x]) B∧B.heap[w.heap.size+1]?=some (.loop (rec .done (some c)))∧B.heap[w.heap.size]?=some (.deferred (some [])))):=fun c C h=>by
   obtain⟨hr,hl3,hl4,hk4⟩:=ends (some c) C h.1
   exact⟨_,_,hr,.inr ⟨rfl,c,(hIx c).putObj _ h.2 (by omega) hl3 (by rw [hbusy];rfl),hl4,hk4⟩⟩
  rintro e a3 C hC
  cases e with
  | normal =>
   obtain⟨hk3,hkp3,hi3⟩:=hC
   obtain⟨hr,hl3,hl4,hk4⟩:=ends none C hk3
   exact⟨_,_,hr,.inl ⟨rfl,⟨hI.putObj _ hi3 (by omega) hl3 (by rw [hbusy];rfl),hl4,hk4⟩,hKt (hKt b2 hkp3) (hKb _ _ _ _ (by omega) hl3 (by rw [hbusy];rfl) (by rw [hbusy];rfl))⟩⟩
  | ret=>exact jumps _ C hC
  | exit id=>exact jumps _ C hC
  | goto t=>exact jumps _ C hC
  | panic ch=>exact hC.elim
  | outgrown=>exact hC.elim
 ·rintro e B ⟨⟨v,rfl⟩,(⟨xs,hS,hi,hl,hk⟩|⟨pre,hSp,c,hi,hl,hk⟩)⟩
  ·exact⟨none,_,by have:=run_endLoop (P:=P) hl (by rw [hrec];simp);rw [hrec] at this;exact this,hdone _ xs _ nR hS (hI.putObj _ hi (by omega) hl rfl) ((World.putObj_heap_other (by omega)).trans hk)⟩
  ·exact⟨some c,_,by have:=run_endLoop (P:=P) hl (by rw [hrec];simp);rw [hrec] at this;exact this,hstop _ c pre _ nR hSp ((hIx c).putObj _ hi (by omega) hl rfl) ((World.putObj_heap_other (by omega)).trans hk)⟩
end
end Go.Proofs.YtjepldaciejieaaGreatDoor
namespace CH
section
theorem slen_le (k:Int) (s:Str):slen k s≤s.length:=by
 have h1:∀ (i:Nat) (set:Str),isIn s i set=true→i<s.length:=fun i set h=>by
  unfold isIn at h
  split at h
  ·cases h
  ·rename_i c hc;exact (List.getElem?_eq_some_iff.1 hc).1
 have h2:isLetter0 s=true→0<s.length:=fun h=>by
  unfold isLetter0 at h
  split at h
  ·cases h
  ·rename_i c hc;exact (List.getElem?_eq_some_iff.1 hc).1
 unfold slen
 split
 ·split
  ·rename_i h;have:=h1 _ _ h;omega
  ·omega
 split
 ·split
  ·rename_i h
   have:=h2 h
   split
   ·rename_i h';have:=h1 _ _ h';omega
   ·omega
  ·omega
 split
 ·split
  ·rename_i h;have:=h1 _ _ h;omega
  ·omega
 split
 ·split
  ·rename_i h
   simp only [Bool.and_eq_true] at h
   have:=h1 _ _ h.2;omega
  ·split
   ·rename_i h
    simp only [Bool.or_eq_true] at h
    rcases h with h|h
    ·have:=h1 _ _ h;omega
    ·have:=h1 _ _ h;omega
   ·omega
 ·omega
theorem letters_zero_stop (k:Int) (f:Nat) (s:Str) (h:slen k s=0):letters k (f+1) s=([],s):=by
 show (if _ then _ else _)=_
 rw [if_pos h]
theorem Cx (k:Int) (f:Nat) (s:Str) (h:slen k s≠0):letters k (f+1) s=((s.take (slen k s))::(letters k f (s.drop (slen k s))).1,(letters k f (s.drop (slen k s))).2):=by
 show (if _ then _ else _)=_
 rw [if_neg h]
theorem letters_succ (k:Int):∀ (f:Nat) (s:Str),(letters k f s).1.length=f→slen k (letters k f s).2≠0 →
  letters k (f+1) s=((letters k f s).1++[(letters k f s).2.take (slen k (letters k f s).2)],(letters k f s).2.drop (slen k (letters k f s).2)):=by
 intro f
 induction f with
 | zero =>
  intro s _ h
  have h':slen k s≠0:=h
  rw [Cx k 0 s h']
  rfl
 | succ f ih =>
  intro s hl h
  by_cases h0:slen k s=0
  ·rw [letters_zero_stop k f s h0] at hl
   simp at hl
  ·rw [Cx k f s h0] at hl h
   simp at hl
   have:=ih (s.drop (slen k s)) hl h
   rw [show letters k (f+1+1) s=((s.take (slen k s))::(letters k (f+1) (s.drop (slen k s))).1,(letters k (f+1) (s.drop (slen k s))).2) from Cx k (f+1) s h0]
   rw [this]
   rw [show letters k (f+1) s=((s.take (slen k s))::(letters k f (s.drop (slen k s))).1,(letters k f (s.drop (slen k s))).2) from Cx k f s h0]
   rfl
theorem letters_same (k:Int):∀ (f:Nat) (s:Str),slen k (letters k f s).2=0→∀ g,f≤g→letters k g s=letters k f s:=by
 intro f
 induction f with
 | zero =>
  intro s h g hg
  cases g with
  | zero=>rfl
  | succ g =>
   have h':slen k s=0:=h
   rw [letters_zero_stop k g s h'];rfl
 | succ f ih =>
  intro s h g hg
  cases g with
  | zero=>omega
  | succ g =>
   by_cases h0:slen k s=0
   ·rw [letters_zero_stop k f s h0,letters_zero_stop k g s h0]
   ·rw [Cx k f s h0] at h
    rw [Cx k f s h0,Cx k g s h0,ih _ h g (by omega)]
theorem letters_rest (k:Int):∀ (f:Nat) (s:Str),(letters k f s).2.length≤s.length:=by
 intro f
 induction f with
 | zero=>intro s;exact Nat.le_refl _
 | succ f ih =>
  intro s
  by_cases h0:slen k s=0
  ·rw [letters_zero_stop k f s h0]
   exact Nat.le_refl _
  ·rw [Cx k f s h0]
   refine Nat.le_trans (ih _) ?_
   simp
end
end CH
namespace Go.Proofs.YtjepldaciejieaaGreatDoor
section
open Go.Lib Go.Proofs.Tryz Go.RowKit Go.Shelf
attribute [local go_sem] Oper.semAt_some
def NextL (k:Int) (s:List UInt8) (pre:List (List UInt8)) (x:List UInt8):Prop :=
 (CH.letters k pre.length s).1=pre∧CH.slen k (CH.letters k pre.length s).2≠0∧x=(CH.letters k pre.length s).2.take (CH.slen k (CH.letters k pre.length s).2)
def AllL (k:Int) (s:List UInt8) (xs:List (List UInt8)):Prop:=(CH.letters k xs.length s).1=xs∧CH.slen k (CH.letters k xs.length s).2=0
def KeepL (n₀ p q:Nat) (A B:World):Prop:=Below n₀ A B∧B.heap[p]?=A.heap[p]?∧B.heap[q]?=A.heap[q]?
theorem letters_seq (k:Int) (s:List UInt8) (hs:s.length≤1000000) (n:Nat) (hn:1≤n) (n₀ p q:Nat) (wE w:World) (hG:Gc wE) (hE:wE.heap.size=n₀) (hbE:Below n₀ wE w) (hp0:n₀≤p) (hq0:n₀≤q) (hpq:p≠q)
  (hp:w.heap[p]?=some (.cells #[.string ⟨s.toArray⟩] 9 (0,0))) (hq:w.heap[q]?=some (.cells #[.int .i64 k] 3 (0,0))) :
  SeqP p Fence.wide n prog 235 #[.pointer (some ⟨q,0,none⟩),.pointer (some ⟨p,0,none⟩)] (fun x:List UInt8=>#[.string ⟨x.toArray⟩]) (KeepL n₀ p q) (AllL k s) (fun _=>True) (NextL k s) w:=fun l J Jx W hW hJ hJx hJp hY h0=>by
 have hpl:p<w.heap.size:=(aZ hp)
 have hql:q<w.heap.size:=(aZ hq)
 have pW:=(hW.block p hpl).trans hp
 have qW:=(hW.block q hql).trans hq
 have bW:Below n₀ wE W:=hbE.trans (hW.mono (by have:=hbE.size;omega))
 have LEN:=hid fun (A:World) (r:List UInt8) (hr:r.length≤1000000) (hb:Below n₀ wE A)=>length_any k r A (hG.below (by rw [hE];exact hb)) hr
 have HY:=hid hY
 clear hY
 refine callsIn_of_wp func235 rfl trivial ?_ rfl
 simp only [ntmps235,List.size_toArray,List.length_cons,List.length_nil,Nat.reduceAdd,Nat.reduceSub,Array.replicate_succ,Array.replicate_zero,List.push_toArray,List.append_toArray,List.nil_append,List.cons_append]
 have c1:W.cell? ⟨q,0,none⟩=some (.int .i64 k):=cell_of qW 0
 have c2:W.cell? ⟨p,0,none⟩=some (.string ⟨s.toArray⟩):=cell_of pW 0
 gi_wp2_with fail
 refine⟨trivial,?_⟩
 refine (callsIn_wide.2 (LEN.out W s hs bW)).mono ?_
 rintro e W1 ⟨rfl,hb1⟩
 have hJ1:J [] W1:=hJ [] W W1 none h0 (Ec hb1) (fun r e=>by cases e)
 have p1:=(hb1.block p (aZ pW)).trans pW
 have q1:=(hb1.block q (aZ qW)).trans qW
 have b1:Below n₀ wE W1:=bW.trans (hb1.mono (by have:=bW.size;omega))
 clear c1 c2
 gi_wp2_with fail
 gi_loopw [4] (fun nv wr=>∃ (m:Nat) (pre:List (List UInt8)) (r:List UInt8),Hid (pre=(CH.letters k m s).1∧pre.length=m∧r=(CH.letters k m s).2)∧r.length≤1000000∧nv=.int .i64 (CH.slen k r:Nat)∧J pre wr ∧
   wr.heap[p]?=some (.cells #[.string ⟨r.toArray⟩] 9 (0,0))∧wr.heap[q]?=some (.cells #[.int .i64 k] 3 (0,0))∧Below n₀ wE wr) (fun _ wr=>match wr.cell? ⟨p,0,none⟩ with|some (.string b)=>b.size|_=>0)
 case atStart=>exact⟨0,[],s,hid ⟨rfl,rfl,rfl⟩,hs,rfl,hJ1,p1,q1,b1⟩
 case round =>
  obtain⟨m,pre,r,hm,hrl,rfl,hJr,pr,qr,br⟩:=hrel
  have c1:wr.cell? ⟨q,0,none⟩=some (.int .i64 k):=cell_of qr 0
  have c2:wr.cell? ⟨p,0,none⟩=some (.string ⟨r.toArray⟩):=cell_of pr 0
  have hsl:=CH.slen_le k r
  obtain⟨j,hj⟩:∃ j,Hid (CH.slen k r=j):=⟨_,hid rfl⟩
  rw [hj.out] at hsl ⊢
  by_cases hj0:j=0
  ·have d1:decide ((0:Int)<(j:Int))=false:=by simp;omega
   gi_wp2
   refine⟨fun f e=>(by cases e),?_⟩
   gi_wp2
   go_end0
   refine⟨⟨_,rfl⟩,.inl ⟨pre,⟨?_,?_⟩,hJr⟩⟩
   ·obtain⟨h1,h2,h3⟩:=hm.out
    rw [h2];exact h1.symm
   ·obtain⟨h1,h2,h3⟩:=hm.out
    rw [h2,← h3];exact hj.out.trans hj0
  ·have d1:decide ((0:Int)<(j:Int))=true:=by simp;omega
   obtain⟨fn,tmps,assign,body,hy,hR⟩:=HY.out pre (r.take j) wr hJr (by
    obtain⟨h1,h2,h3⟩:=hm.out
    refine⟨by rw [h2];exact h1.symm,?_,?_⟩
    ·rw [h2,← h3,hj.out];exact hj0
    ·rw [h2,← h3,hj.out])
   have he:(ByteArray.mk r.toArray).extract 0 j=⟨(r.take j).toArray⟩:=by rw [Cf];simp
   gi_wp2_with fail
   refine hR.mono ?_
   rintro e W3 (⟨rfl,hJ3,hk3,hp3,hq3⟩|⟨rfl,hJx3⟩)
   ·have p3:=hp3.trans pr
    have q3:=hq3.trans qr
    have b3:Below n₀ wE W3:=br.trans (hk3.mono nR)
    clear hR hy he hJr c1 c2
    have c1:W3.cell? ⟨q,0,none⟩=some (.int .i64 k):=cell_of q3 0
    have c2:W3.cell? ⟨p,0,none⟩=some (.string ⟨r.toArray⟩):=cell_of p3 0
    have f2:W3.frozen? ⟨p,0,none⟩=false:=Aj p3 0
    have p4:=Ai W3 p 0 (.string ⟨(r.drop j).toArray⟩) _ _ _ p3
    have q4:=(At W3 ⟨p,0,none⟩ (.string ⟨(r.drop j).toArray⟩) q (fun e=>hpq e.symm)).trans q3
    simp only [List.setIfInBounds_toArray,List.set_cons_zero] at p4
    have b4:=b3.setCell (p:=⟨p,0,none⟩) hp0 (.string ⟨(r.drop j).toArray⟩)
    have hJ4:=hJp _ _ (.string ⟨(r.drop j).toArray⟩) hJ3
    have he2:(ByteArray.mk r.toArray).extract j r.length=⟨(r.drop j).toArray⟩:=extract_drop r j
    gi_wp2_with fail
    generalize hW4:W3.setCell ⟨p,0,none⟩ (.string ⟨(r.drop j).toArray⟩)=W4 at *
    have d1:W4.cell? ⟨q,0,none⟩=some (.int .i64 k):=cell_of q4 0
    have d2:W4.cell? ⟨p,0,none⟩=some (.string ⟨(r.drop j).toArray⟩):=cell_of p4 0
    gi_wp2_with fail
    refine⟨trivial,?_⟩
    have hdl:(r.drop j).length=r.length - j:=List.length_drop
    refine (callsIn_wide.2 (LEN.out W4 (r.drop j) (by omega) b4)).mono ?_
    rintro e W5 ⟨rfl,hb5⟩
    have hJ5:J (pre++[r.take j]) W5:=hJ _ W4 W5 none hJ4 (Ec hb5) (fun r e=>by cases e)
    have p5:=(hb5.block p (aZ p4)).trans p4
    have q5:=(hb5.block q (aZ q4)).trans q4
    have b5:Below n₀ wE W5:=b4.trans (hb5.mono (by have:=b4.size;omega))
    have hnext:Hid (pre++[r.take j]=(CH.letters k (m+1) s).1∧(pre++[r.take j]).length=m+1∧r.drop j=(CH.letters k (m+1) s).2):=hid (by
     obtain⟨h1,h2,h3⟩:=hm.out
     have hsu:=CH.letters_succ k m s (by rw [← h1];exact h2) (by rw [← h3,hj.out];exact hj0)
     rw [← h3,hj.out,← h1] at hsu
     rw [hsu]
     exact⟨rfl,by simp;exact h2,rfl⟩)
    have d3:W5.cell? ⟨p,0,none⟩=some (.string ⟨(r.drop j).toArray⟩):=cell_of p5 0
    clear d1 d2 c1 c2 f2 p3 q3 p4 q4 b4 hJ4 hJ3 hm he2
    gi_wp2
    go_roundw
    case rel=>exact⟨m+1,pre++[r.take j],r.drop j,hnext,by omega,rfl,hJ5,p5,q5,b5⟩
    case measure =>
     have c2:wr.cell? ⟨p,0,none⟩=some (.string ⟨r.toArray⟩):=cell_of pr 0
     rw [d3,c2]
     show (r.drop j).toArray.size<r.toArray.size
     simp
     omega
   ·clear hR hy he hJr
    gi_wp2
    go_end0
    exact⟨⟨_,rfl⟩,.inr ⟨_,trivial,hJx3⟩⟩
end
end Go.Proofs.YtjepldaciejieaaGreatDoor
