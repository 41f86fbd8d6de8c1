/-
  ChainMakes: the proof, part 7 of 34.
-/
import Derived.Test.YtdgmgjeoikcgbaaGreatDoorP03
import Derived.StillTail
import Derived.Shelf.SlIter.Nil
import Derived.Shelf.SortM.Plain
import Derived.Shelf.SortM.SortNone
set_option linter.unusedSimpArgs false
set_option linter.unusedVariables false
set_option maxHeartbeats 40000000
set_option maxRecDepth 100000
open Go renaming World -> ZB, Value -> ZC, Calls -> ZE, redrawn -> ZI
open Go.RowKit renaming intOf -> ZG
open Decidable renaming decide -> ZH
namespace Go.Proofs.YtdgmgjeoikcgbaaGreatDoor
section
open Go.Lib Go.Proofs.Tryz Go.RowKit Go.Shelf Go.Sort CH
section
open CH
variable {P:Program} {ops:Array Oper} {md:Region.Mode} {C:ZB->Prop}
def Q9 (P:Program) (md:Region.Mode) (ops:Array Oper) (C:ZB->Prop) (n:Nat) (L:Array Bool->Act->Prop):Nat->Array Bool->Act->Prop
 |0,listed,a=>L listed a
 |f+1,listed,a=>Region.ready md ops listed≠[]/\∀ i∈Region.ready md ops listed,i<n/\qOp P ops C i (Q9 P md ops C n L f (listed.setIfInBounds i true)) a
theorem Wk {n g:Nat} {L:Array Bool->Act->Prop} {Q:Exit->Act->ZB->Prop} (hL:∀ listed a w,C w->L listed a->wpAny P md ops Q g listed a w) :
  ∀ (f:Nat) (listed:Array Bool) (a:Act) (w:ZB),C w->Q9 P md ops C n L f listed a->wpAny P md ops Q (f+g) listed a w
 |0,listed,a,w,hw,h=>by rw [Bh];exact hL _ _ _ hw h
 |f+1,listed,a,w,hw,h=>by
  rw [Nat.add_right_comm]
  exact⟨fun h0=>(h.1 h0).elim,fun i hi=>wpOp_of_qOp hw (fun a' w' hw' h'=>Wk hL f _ a' w' hw' h') (h.2 i hi).2⟩
theorem Y8 {n i:Nat} {oi:Oper} {v:ZC} {L:Array Bool->Act->Prop} (hi:ops[i]?=some oi) (hsel:Region.noSelect ops=true) (hs:Region.sinkB md ops n=true) (hc:Region.chainB md ops n=true) (hn:n<ops.size) (hin:i<n) (hdone:∀ listed a,L listed a->∀ j∈Region.ready md ops listed,n<=j) : ∀ (f:Nat) (listed:Array Bool) (a:Act),HeadInv md ops n listed -> (∀ j oj,ops[j]?=some oj->j≠i->listed.getD j true=false->(∀ e∈oj.after,Region.binds md e=true->e.on≠i)->oi.apart ops oj=true) -> i∈Region.ready md ops listed->YieldsIn P ops C oi v a->Q9 P md ops C n L f (listed.setIfInBounds i true) (a.put oi.dst v)->Q9 P md ops C n L (f+1) listed a:=by
 intro f;induction f with
 |zero =>
  intro listed a inv _ hr hy H;refine⟨List.ne_nil_of_mem hr,fun j hj=>?_⟩;have hjn:j<n:=Nat.lt_of_not_le fun h=>tail_waits hs hc hn inv _ i rfl hin (Ht.1 hr).1 j h hj;refine⟨hjn,?_⟩;by_cases hji:j=i;·subst hji;exact hy.qOp hi H
  ·exact absurd (hdone _ _ H j (ready_mono hj hji)) oM
 |succ f ih =>
  intro listed a inv hfree hr hy H;have hun:=(Ht.1 hr).1;refine⟨List.ne_nil_of_mem hr,fun j hj=>?_⟩;have hjn:j<n:=Nat.lt_of_not_le fun h=>tail_waits hs hc hn inv _ i rfl hin hun j h hj;refine⟨hjn,?_⟩;by_cases hji:j=i;·subst hji;exact hy.qOp hi H
  ·obtain⟨hjun,oj,hoj,hall⟩:=Ht.1 hj;have hnot:∀ e∈oj.after,Region.binds md e=true->e.on≠i:=fun e he hb heq=>by have h1:=hall e he hb;rw [heq,getD_both hun] at h1;cases h1
   have h2:=qOp_put hoj (hfree j oj hoj hji hjun hnot) (fun cs b=>Region.noSelect_spec hsel i oi cs b hi) (fun cs b=>Region.noSelect_spec hsel j oj cs b hoj) hy (H.2 j (ready_mono hj hji)).2;refine qOp_mono (fun a' h3=>ih (listed.setIfInBounds j true) a' (inv.set hj hjn) ?_ (ready_mono hr (Ne.symm hji)) h3.1 ?_) h2
   ·intro k ok hk hki EG hno;refine hfree k ok hk hki ?_ hno;by_cases hjk:j=k;·subst hjk;exact hjun
    ·rwa [getD_set_ne true hjk] at EG
   ·rw [Array.setIfInBounds_comm _ _ hji];exact h3.2
theorem Ui {n g:Nat} {Lq:Act->Prop} (hsel:Region.noSelect ops=true) (hs:Region.sinkB md ops n=true) (hc:Region.chainB md ops n=true) (hn:n<ops.size) :
  ∀ (l:List Oper) (k:Nat) (listed:Array Bool) (a:Act),(∀ j,j<l.length->l[j]?=ops[k+j]?)->k+l.length=n->HeadInv md ops n listed ->
  Region.lexHead md ops g l.length k listed=true->wpQuiet P ops C Lq l a->Q9 P md ops C n (fun listed' a'=>Region.seqB md ops g n listed'=true/\Lq a') l.length listed a
 |[],k,listed,a,_,hk,_,hB,h=>by
  obtain rfl:k=n:=by simpa using hk
  exact⟨by simpa [Region.lexHead] using hB,h⟩
 |o::l,k,listed,a,hl,hk,inv,hB,h=>by
  have h0:ops[k]?=some o:=by simpa using (hl 0 sM).symm
  simp only [Ba] at hk
  simp only [Ba,Region.lexHead,Aw] at hB
  have hr:k∈Region.ready md ops listed:=by simpa using hB.1.1
  obtain⟨v,hy,hK⟩:=yieldsIn_of_qOp (C:=C) (K:=wpQuiet P ops C Lq l) h0 (by unfold qOp;simp only [h0];exact h)
  refine Y8 h0 hsel hs hc hn oM (fun _ _ hL=>seqB_ready hL.1) l.length listed a inv (Region.free_spec h0 hB.1.2) hr hy ?_
  exact Ui hsel hs hc hn l (k+1) _ _ (fun j hj=>by have:=hl (j+1) (by simp;omega);simpa [Lm,Nat.add_comm 1 j] using this) oM (inv.set hr oM) hB.2 hK
theorem Ha {id:Nat} {Q:Exit->Act->ZB->Prop} {a:Act} {w:ZB} {l:List Oper} (n:Nat) (hm:P.follows .mixedOrders=true) (hB:Region.lexTailB .any l.toArray n=true) (h:wpQuiet P l.toArray (fun w'=>∃ p:Regrown,w'=grow (ZI w p.d) p.os) (fun a'=>∀ w',(∃ p:Regrown,w'=grow (ZI w p.d) p.os)->wpList P l.toArray Q (l.drop n) a' w') (l.take n) a):(Code.region id l.toArray true).wp P Q a w:=by
 simp only [Region.lexTailB,Aw,Bl] at hB;obtain⟨⟨⟨⟨hsel,hn⟩,hs⟩,hc⟩,hlex⟩:=hB;have hn':n<l.length:=by simpa using hn
 have htl:(l.take n).length=n:=by simp;omega
 have hdl:(l.drop n).length=l.toArray.size - n:=sM;have inv0:HeadInv .any l.toArray n (Array.replicate l.toArray.size false) := ⟨sM,fun j oj _ hl=>(by rw [getD_replicate_false] at hl;cases hl),fun t _ ht=>getD_in (by simpa using ht) (getD_replicate_false _ _)⟩
 have H:=Ui (md:=.any) (g:=l.toArray.size - n) hsel hs hc hn (l.take n) 0 _ a (fun j hj=>by
  have hj':j<n:=by rw [htl] at hj;exact hj
  simp [hj']) (by simpa using htl) inv0 (by rw [htl];exact hlex) h
 refine wp_region_any hm ?_;have:=Wk (Q:=Q) (g:=l.toArray.size - n) (fun listed a' w' hw' hL=>by have:=wpAny_of_seq (md:=.any) (Q':=Q) (l.drop n) n listed a' w' (fun j=>by simp [Ie]) (by rw [hdl];exact hL.1) (hL.2 w' hw');rwa [hdl] at this) _ _ _ _ ⟨⟨w.drawn+1,#[]⟩,by rw [grow_empty]⟩ H;rw [htl,show n+(l.toArray.size - n)=l.toArray.size by omega] at this;exact this
def To (listed:Array Bool):Nat:=(listed.toList.filter (!·)).length
theorem Qc {listed:Array Bool} {i:Nat} (h:listed.getD i true=false):To (listed.setIfInBounds i true)+1=To listed:=by
 obtain⟨l⟩:=listed;have hl:l[i]?=some false:=by
  cases e:l[i]? with
  |none=>simp [e] at h
  |some b=>simp [e] at h;rw [h]
 simp only [To,List.setIfInBounds_toArray];clear h;induction l generalizing i with
 |nil=>simp at hl
 |cons b l ih =>
  cases i with
  |zero =>
   have hb:b=false:=by simpa using hl
   subst hb;simp
  |succ i =>have:=ih (by simpa using hl);cases b <;> simp [this]
theorem Zt {listed:Array Bool} (h:To listed=0):Region.ready md ops listed=[]:=by
 cases hr:Region.ready md ops listed with
 |nil=>rfl
 |cons i l =>
  have hi:i∈Region.ready md ops listed:=by rw [hr];simp
  have:=Qc (Ht.1 hi).1;omega
end
end
section
open Go.Lib Go.Proofs.Tryz Go.RowKit Go.Shelf Go.Sort CH
def A4 (m:bD) (vk:ZC):List ZC := [↑m.id,↑m.authority,↑m.kind,↑m.target,↑m.aB.op,↑m.aB.name,↑m.aB.cmp,↑m.aB.n,vk,↑m.start,↑m.aF,↑m.dN]
theorem I60 (m:bD) (ak:Option Addr) (nk ck:Nat) (w:ZB) : ZE prog 106 #[.agg (A4 m (.slice ak nk ck)).toArray] w (Ret w (.bool (bg m))):=by
 obtain⟨r,hr⟩:∃ r,bg m=r:=⟨_,rfl⟩
 rw [hr];unfold bg at hr;dsimp only [A4];generalize m.aB=f at *;generalize m.id=id at *;generalize m.authority=au at *;generalize m.target=tg at *;generalize m.kind=kd at *;generalize m.start=st at *;generalize m.aF=un at *;generalize m.dN=wi at *;dsimp only at hr;obtain⟨wm,hwm⟩:∃ x:Int,(if kd=1 then (400:Int) else 0)=x:=⟨_,rfl⟩
 rw [hwm] at hr;obtain⟨b1,h1⟩:∃ b,(un==-1)=b:=⟨_,rfl⟩
 obtain⟨b2,h2⟩:∃ b,ZH (st<un)=b:=⟨_,rfl⟩
 obtain⟨b3,h3⟩:∃ b,ZH (un<=100000)=b:=⟨_,rfl⟩
 obtain⟨b4,h4⟩:∃ b,ZH (0<=st)=b:=⟨_,rfl⟩
 obtain⟨b5,h5⟩:∃ b,ZH (st<=100000)=b:=⟨_,rfl⟩
 obtain⟨b6,h6⟩:∃ b,ZH (0<=wi)=b:=⟨_,rfl⟩
 have hr':((b4&&(b5&&((b1||b2&&b3)&&(b6&&ZH (wi<=wm))))):Bool)=r:=by rw [<- hr,<- h1,<- h2,<- h3,<- h4,<- h5,<- h6]
 clear hr;replace hr':=Aa hr';go_enter func106,ntmps106;by_cases hk:kd=1
 ·have z1:(kd==1)=true:=by simpa using hk
  rw [Ar hk] at hwm;exact FD33
 ·have z1:(kd==1)=false:=by simpa using hk
  rw [Ah hk] at hwm;exact FD33
end
end Go.Proofs.YtdgmgjeoikcgbaaGreatDoor
namespace Go.Proofs
section
open Go.Proofs.Tryz Go.Shelf CH
def Tryz.nG:Go.Shelf.Ren:=⟨fun|7=>225|10=>277|n=>n,fun|23=>166|26=>9|3=>4|28=>260|0=>0|27=>259|33=>103|4=>4|n=>n,fun|n=>n⟩
theorem Tryz.rY:Go.Proofs.SlLaysZ.n7 prog Tryz.nG:={
 mixed:=by kernel_rfl
 f7:=⟨Tryz.f225.name,by decide,func225.trans (congrArg some (by kernel_rfl))⟩
 f10:=⟨Tryz.f277.name,by decide,func277.trans (congrArg some (by kernel_rfl))⟩
 t0:=underlying0
 a0:=isAgg0
 z0:=sizeOf0
 v0:=zeroValue0
 t4:=underlying4
 a4:=isAgg4
 z4:=sizeOf4
 v4:=zeroValue4
 t23:=underlying166
 a23:=isAgg166
 z23:=sizeOf166
 v23:=zeroValue166
 t26:=underlying9
 a26:=isAgg9
 z26:=sizeOf9
 v26:=zeroValue9
 t27:=underlying259
 a27:=isAgg259
 z27:=sizeOf259
 v27:=zeroValue259
 t28:=underlying260
 a28:=isAgg260
 z28:=sizeOf260
 v28:=zeroValue260
 t33:=underlying103
 a33:=isAgg103
 z33:=sizeOf103
 v33:=zeroValue103 }
def Tryz.lF:Go.Shelf.Ren:=⟨fun|6=>224|8=>275|9=>276|11=>306|13=>213|12=>307|23=>268|24=>255|14=>324|15=>325|16=>326|17=>327|18=>328|19=>329|20=>330|21=>331|22=>332|25=>340|26=>300|27=>301|28=>341|29=>342|30=>343|31=>351|n=>n,fun|26=>9|28=>260|24=>25|0=>0|3=>3|37=>191|48=>241|50=>136|4=>4|40=>279|39=>278|45=>283|5=>5|9=>9|51=>294|55=>298|57=>318|58=>255|33=>103|n=>n,fun|n=>n⟩
theorem Tryz.sV:Go.Proofs.SlLaysZ.n6 prog Tryz.lF:={
 mixed:=by kernel_rfl
 f6:=⟨Tryz.f224.name,by decide,func224.trans (congrArg some (by kernel_rfl))⟩
 f8:=⟨Tryz.f275.name,by decide,func275.trans (congrArg some (by kernel_rfl))⟩
 f11:=⟨Tryz.f306.name,by decide,func306.trans (congrArg some (by kernel_rfl))⟩
 t0:=underlying0
 a0:=isAgg0
 z0:=sizeOf0
 v0:=zeroValue0
 t24:=underlying25
 a24:=isAgg25
 z24:=sizeOf25
 v24:=zeroValue25
 t26:=underlying9
 a26:=isAgg9
 z26:=sizeOf9
 v26:=zeroValue9
 t28:=underlying260
 a28:=isAgg260
 z28:=sizeOf260
 v28:=zeroValue260
 i26:=by kernel_rfl }
def Tryz.qF:Go.Shelf.Ren:=⟨fun|6=>276|8=>213|9=>307|19=>268|20=>255|21=>324|22=>325|23=>326|24=>327|25=>328|26=>329|27=>330|28=>331|29=>332|36=>340|31=>300|32=>301|37=>341|38=>342|39=>343|41=>351|n=>n,fun|27=>25|29=>9|3=>3|32=>191|26=>25|0=>0|44=>241|46=>136|4=>4|36=>279|35=>278|41=>283|5=>5|9=>9|53=>294|57=>298|63=>318|64=>255|n=>n,fun|n=>n⟩
theorem Tryz.rV:Go.Proofs.SlLaysM.n6 prog Tryz.qF:={
 mixed:=by kernel_rfl
 f6:=⟨Tryz.f276.name,by decide,func276.trans (congrArg some (by kernel_rfl))⟩
 f8:=func213.trans (congrArg some (by kernel_rfl))
 f9:=⟨Tryz.f307.name,by decide,func307.trans (congrArg some (by kernel_rfl))⟩
 f19:=func268.trans (congrArg some (by kernel_rfl))
 f20:=func255.trans (congrArg some (by kernel_rfl))
 f21:=⟨Tryz.f324.name,by decide,func324.trans (congrArg some (by kernel_rfl))⟩
 f22:=⟨Tryz.f325.name,by decide,func325.trans (congrArg some (by kernel_rfl))⟩
 f23:=⟨Tryz.f326.name,by decide,func326.trans (congrArg some (by kernel_rfl))⟩
 f24:=⟨Tryz.f327.name,by decide,func327.trans (congrArg some (by kernel_rfl))⟩
 f25:=⟨Tryz.f328.name,by decide,func328.trans (congrArg some (by kernel_rfl))⟩
 f26:=⟨Tryz.f329.name,by decide,func329.trans (congrArg some (by kernel_rfl))⟩
 f27:=⟨Tryz.f330.name,by decide,func330.trans (congrArg some (by kernel_rfl))⟩
 f28:=⟨Tryz.f331.name,by decide,func331.trans (congrArg some (by kernel_rfl))⟩
 f29:=⟨Tryz.f332.name,by decide,func332.trans (congrArg some (by kernel_rfl))⟩
 f31:=func300.trans (congrArg some (by kernel_rfl))
 f32:=func301.trans (congrArg some (by kernel_rfl))
 f36:=⟨Tryz.f340.name,by decide,func340.trans (congrArg some (by kernel_rfl))⟩
 f37:=⟨Tryz.f341.name,by decide,func341.trans (congrArg some (by kernel_rfl))⟩
 f38:=⟨Tryz.f342.name,by decide,func342.trans (congrArg some (by kernel_rfl))⟩
 f39:=⟨Tryz.f343.name,by decide,func343.trans (congrArg some (by kernel_rfl))⟩
 f41:=⟨Tryz.f351.name,by decide,func351.trans (congrArg some (by kernel_rfl))⟩
 t0:=underlying0
 a0:=isAgg0
 z0:=sizeOf0
 v0:=zeroValue0
 t3:=underlying3
 a3:=isAgg3
 z3:=sizeOf3
 v3:=zeroValue3
 t4:=underlying4
 a4:=isAgg4
 z4:=sizeOf4
 v4:=zeroValue4
 t5:=underlying5
 a5:=isAgg5
 z5:=sizeOf5
 v5:=zeroValue5
 t9:=underlying9
 a9:=isAgg9
 z9:=sizeOf9
 v9:=zeroValue9
 t26:=underlying25
 a26:=isAgg25
 z26:=sizeOf25
 v26:=zeroValue25
 t27:=underlying25
 a27:=isAgg25
 z27:=sizeOf25
 v27:=zeroValue25
 t29:=underlying9
 a29:=isAgg9
 z29:=sizeOf9
 v29:=zeroValue9
 t32:=underlying191
 a32:=isAgg191
 z32:=sizeOf191
 v32:=zeroValue191
 t35:=underlying278
 a35:=isAgg278
 z35:=sizeOf278
 v35:=zeroValue278
 t36:=underlying279
 a36:=isAgg279
 z36:=sizeOf279
 v36:=zeroValue279
 t41:=underlying283
 a41:=isAgg283
 z41:=sizeOf283
 v41:=zeroValue283
 t44:=underlying241
 a44:=isAgg241
 z44:=sizeOf241
 v44:=zeroValue241
 t46:=underlying136
 a46:=isAgg136
 z46:=sizeOf136
 v46:=zeroValue136
 t53:=underlying294
 a53:=isAgg294
 z53:=sizeOf294
 v53:=zeroValue294
 t57:=underlying298
 a57:=isAgg298
 z57:=sizeOf298
 v57:=zeroValue298
 t63:=underlying318
 a63:=isAgg318
 z63:=sizeOf318
 v63:=zeroValue318
 t64:=underlying255
 a64:=isAgg255
 z64:=sizeOf255
 v64:=zeroValue255 }
open Go.RowKit Go.Maps Go.Sort Go.Shelf CH in
theorem Tryz.tN (m:Nat):AnyZ.SortsIn prog Tryz.lF Fence.wide m := ⟨fun blk off cap ss W hH hblk hsz=>callsIn_wide.2 (AnyM.slices_Sort_string Tryz.rV blk off cap ss W hH hblk hsz), fun p cap W=>callsIn_wide.2 (AnyM.slices_Sort_string_none Tryz.rV p cap W)⟩
open Go.RowKit Go.Maps Go.Sort Go.Shelf CH in
theorem Tryz.oH (mb:Option Nat) (W:ZB):CallsIn Fence.wide 5 prog 225 #[.map mb] W fun e w'=>e=.returned (.func (.func 277) #[] #[.pointer (some ⟨W.heap.size,0,none⟩)])/\w'=W.alloc (.cells #[.map mb] 166) := AnyZ.keys_in Tryz.rY Fence.wide 5 trivial rfl mb W
open Go.RowKit Go.Maps Go.Sort Go.Shelf CH in
theorem Tryz.jl {H:Type} (b nn:Nat) (D0:DataW H) (R:ZC->Option (DataW H × List MemPlace)) (w:ZB) (hown:w.ownsMap prog 9 R b nn D0) (hmax:Maps.size D0<=maxLen) (hbytes:Maps.size D0*16<=140737488355328) : CallsIn Fence.wide 5 prog 224 #[.func (.func 277) #[] #[.pointer (some ⟨w.heap.size,0,none⟩)]] (w.alloc (.cells #[.map (some b)] 166)) fun e w'=>∃ (v:ZC) (ss:List (List UInt8)),e=.returned v/\ss.Perm (strKeys D0) /\ w'.ownsRow (w.alloc (.cells #[.map (some b)] 166)).heap.size 9 1 v ss.length ((ss.mergeSort (fun x y=>ZH (x<=y))).map encStr)/\(v=.slice none 0 0↔ss=[])/\Below (w.alloc (.cells #[.map (some b)] 166)).heap.size (w.alloc (.cells #[.map (some b)] 166)) w':=by have hbl:=hown.lt;have hseq:SeqGives Fence.wide 2 prog 277 #[.pointer (some ⟨w.heap.size,0,none⟩)] encStr (fun ss=>ss.Perm (strKeys D0)) (Maps.size D0) (w.alloc (.cells #[.map (some b)] 166)) := AnyZ.keys_gives (ρ:=Tryz.nG) { Tryz.rY with } Fence.wide _ trivial rfl (by omega) w.heap.size b nn D0 _ (by simp) (by simp) (by obtain⟨es,clock,hb,Ft,hs,hD⟩:=hown;exact⟨es,clock,(Below.heap_alloc _ _ b hbl).trans hb,Ft,hs,hD⟩);exact AnyZ.sorted_in Tryz.sV Fence.wide 5 trivial trivial trivial trivial rfl (by omega) (Tryz.tN _) (enters_of func276 (by kernel_rfl) rfl) 277 #[.pointer (some ⟨w.heap.size,0,none⟩)] trivial (enters_of func277 (by kernel_rfl) rfl) _ _ hmax hbytes _ hseq
end
end Go.Proofs
namespace Go.Proofs.YtdgmgjeoikcgbaaGreatDoor
section
open Go.Lib Go.Proofs.Tryz Go.RowKit CH
theorem Hb {w:ZB} {b o:Nat} {l m:List ZC} (h:w.rangeAt b o (l++m)):w.rangeAt b o l:=fun j v hj=>h j v (by rw [Hf (lS hj)];exact hj)
theorem Cz {w:ZB} {b o:Nat} {l m:List ZC} (h:w.rangeAt b o (l++m)) (n:Nat) (hn:o+l.length=n):w.rangeAt b n m:=fun j v hj=>by have:=h (l.length+j) v (by rw [Gs oM,show l.length+j - l.length=j from by omega];exact hj);rw [<- hn,Lm];exact this
theorem Cg {w w':ZB} {B b o:Nat} {l:List ZC} (h:w.rangeAt b o l) (hb:Below B w w') (hlt:b<B):w'.rangeAt b o l:=fun j v hj=>(hb.cell (p:=⟨b,o+j,none⟩) hlt).trans (h j v hj)
theorem Ca (w:ZB) (l:List ZC) (T:TypeId):(w.alloc (.cells l.toArray T)).rangeAt w.heap.size 0 l:=fun j v hj=>by rw [Bh,Ab (Ap w (.cells l.toArray T)) j];simpa using hj
theorem N3 {w:ZB} {b o:Nat} {l:List ZC} (h:w.rangeAt b o l) (x:Obj):(w.alloc x).rangeAt b o l:=fun j v hj=>by have hc:=h j v hj;exact (((Ac _ w).alloc nR x).cell (Em w _ hc)).trans hc
theorem Qh (w:ZB) (T:TypeId):∀ (cs pre z:List ZC),z.length=cs.length->(w.alloc (.cells (pre++z).toArray T)).setCells w.heap.size pre.length cs=w.alloc (.cells (pre++cs).toArray T)
 |[],pre,z,h=>by
  have:z=[]:=Ce.1 (by simpa using h)
  subst this;rfl
 |v::cs,pre,z,h=>by
  cases z with
  |nil=>simp at h
  |cons u z =>
   rw [World.setCells,Jm _ _ _ _ _ rfl]
   have e:((pre++u::z).toArray.setIfInBounds pre.length v)=((pre++[v])++z).toArray:=sM
   rw [e]
   have:=Qh w T cs (pre++[v]) z (by simpa using h)
   rw [Au,Dx] at this
   rw [this]
   simp
theorem B8 {P:Program} {ops:Array Oper} {rest:List Oper} {op:Oper} {a:Act} {w:ZB} {Q:Exit->Act->ZB->Prop} {z:Array ZC} {T:TypeId} (hgd:op.guard=none) (ty:TypeId) (x y:Operand) (ho:op.op=.store ty x y) (cs:List ZC) (hx:a.eval x=.pointer (some ⟨w,0,none⟩)) (hy:a.eval y=.agg cs.toArray) (hz:z.size=cs.length) (hi:(P.info? ty).map (·.size)=some cs.length) (h1:∀ v∈cs,v.oneCell'=true) (h:wpList P ops Q rest (a.put op.dst undef) (w.alloc (.cells cs.toArray T))):wpList P ops Q (op::rest) a (w.alloc (.cells z T)):=by
 refine Ef hgd ty x y ho w 0 cs.toArray hx hy (fun j hj=>?_) (by simpa using hi) (Ec h1) ?_;·rw [Bh];refine⟨?_,A9 (Ap w _) j⟩;rw [Ab (Ap w _) j,Gu (by rw [hz];simpa using hj)];rfl
 ·have:=Qh w T cs [] z.toList (by simpa using hz);simp only [Dp,Bj] at this;rw [show z=z.toList.toArray from by simp,this];exact h
theorem E3a:∀ (cs pre z:List ZC),z.length=cs.length->List.foldl (fun (c:Array ZC) (x:ZC × Nat)=>c.setIfInBounds x.2 x.1) (pre++z).toArray (cs.zipIdx pre.length)=(pre++cs).toArray
 |[],pre,z,h=>by
  have:z=[]:=Ce.1 (by simpa using h)
  subst this;rfl
 |v::cs,pre,z,h=>by
  cases z with
  |nil=>simp at h
  |cons u z =>
   rw [List.zipIdx_cons,Nv]
   have e:((pre++u::z).toArray.setIfInBounds pre.length v)=((pre++[v])++z).toArray:=sM
   dsimp only
   rw [e]
   have:=E3a cs (pre++[v]) z (by simpa using h)
   rw [Au,Dx] at this
   rw [this]
   simp
theorem Ri (cs:List ZC) (z:Array ZC) (h:z.size=cs.length):List.foldl (fun (c:Array ZC) (x:ZC × Nat)=>c.setIfInBounds x.2 x.1) z cs.zipIdx=cs.toArray:=by have:=E3a cs [] z.toList (by simpa using h);exact FD151
end
end Go.Proofs.YtdgmgjeoikcgbaaGreatDoor
namespace CH
section
open Go.Sort
section
variable {α:Type} [Inhabited α]
theorem Aa0 (l m:List α) (x y:α):swp (l++x::y::m).toArray (l.length+1) l.length=(l++y::x::m).toArray:=by have hx:(l++x::y::m).toArray[l.length]! =x:=sM;have hy:(l++x::y::m).toArray[l.length+1]! =y:=sM;unfold swp;rw [hx,hy];simp
theorem Aal (L:List α) (j:Nat) (h:j+1<L.length):∃ l x y m,L=l++x::y::m/\L.toArray[j]! =x/\L.toArray[j+1]! =y/\(swp L.toArray (j+1) j).toList=l++y::x::m:=by
 have e1:L=L.take j++L[j]::L[j+1]::L.drop (j+2):=by conv=>lhs;rw [<- Ep j L,H7 oM,H7 oM]
 have hx:L.toArray[j]! =L[j]:=by simp [show j<L.length from by omega]
 have hy:L.toArray[j+1]! =L[j+1]:=by simp [h]
 refine⟨L.take j,L[j],L[j+1],L.drop (j+2),e1,hx,hy,?_⟩;have ht:(L.take j).length=j:=by rw [Dz];omega
 have:=Aa0 (L.take j) (L.drop (j+2)) L[j] L[j+1];rw [<- e1,ht] at this;rw [this]
theorem Q7 {lt:α->α->Bool} {I:List α->Prop} (hI:∀ (l m:List α) (x y:α),lt y x=true->I (l++x::y::m)->I (l++y::x::m)) (a:Nat):∀ (j:Nat) (L:List α),j<L.length->I L->I (insInner lt a j L.toArray).toList/\(insInner lt a j L.toArray).size=L.length
 |0,L,_,h=>⟨h,rfl⟩
 |j+1,L,hj,h=>by
  rw [insInner]
  split
  ·rename_i hc
   simp only [Aw,Bl] at hc
   obtain⟨l,x,y,m,e,hx,hy,hs⟩:=Aal L j hj
   rw [hx,hy] at hc
   have h':=hI l m x y hc.2 (e ▸ h)
   have hl:(l++y::x::m).length=L.length:=by rw [e];simp
   have:=Q7 hI a j (l++y::x::m) oM h'
   rw [show swp L.toArray (j+1) j=(l++y::x::m).toArray from by rw [<- hs]]
   exact⟨this.1,this.2.trans hl⟩
  ·exact⟨h,rfl⟩
theorem Q5 {lt:α->α->Bool} {I:List α->Prop} (hI:∀ (l m:List α) (x y:α),lt y x=true->I (l++x::y::m)->I (l++y::x::m)) (a b:Nat):∀ (n i:Nat) (L:List α),b - i<=n->b<=L.length->I L->I (insOuter lt a b i L.toArray).toList
 |0,i,L,hn,hb,h=>by
  rw [insOuter,Ah oM];exact h
 |n+1,i,L,hn,hb,h=>by
  rw [insOuter]
  split
  ·rename_i hi
   have h1:=Q7 hI a i L oM h
   have:=Q5 hI a b n (i+1) (insInner lt a i L.toArray).toList oM (by rw [J8];omega) h1.1
   exact this
  ·exact h
theorem lY {lt:α->α->Bool} {I:List α->Prop} (hI:∀ (l m:List α) (x y:α),lt y x=true->I (l++x::y::m)->I (l++y::x::m)) (L:List α) (h:I L):I (insertionSort lt L.toArray 0 L.length).toList := Q5 hI 0 L.length L.length 1 L oM nR h
end
def dY {β:Type} (p:Int × Int):List ((Int × Int) × β)->Option β
 |[]=>none
 |(q,x)::l=>if p==q then some x else dY p l
theorem oZ {β:Type} {p:Int × Int} {x:β}:∀ {l:List ((Int × Int) × β)},dY p l=some x->(p,x)∈l
 |[],h=>by cases h
 |(q,y)::l,h=>by
  rw [dY] at h
  split at h
  ·rename_i e
   cases h
   rw [D7.1 e]
   exact List.mem_cons_self
  ·exact Gp _ (oZ h)
section
variable (msg:Version->Str) (chk:Version->Str->Bool)
def follow (known:List ((Int × Int) × Version)) (a:Int):Nat->List Version->Str->Int->List Version × Str
 |0,out,head,_=>(out,head)
 |f+1,out,head,last=>match dY (a,(out.length:Int)+1) known with
  |none=>(out,head)
  |some v=>if v.prev != head||ZH (v.pos<last) then (out,head) else follow known a f (out++[v]) (msg v) v.pos
def Aah (l:List Version):Str:=match l.getLast? with|none=>[]|some v=>msg v
structure Fol (known:List ((Int × Int) × Version)) (a:Int) (l:List Version) (h:Str) (last:Int):Prop where
 look:∀ (j:Nat) (v:Version),l[j]?=some v->dY (a,(j:Int)+1) known=some v
 prev:∀ (j:Nat) (v:Version),l[j]?=some v->v.prev=Aah msg (l.take j)
 sorted:l.Pairwise fun x y=>x.pos<=y.pos
 head:h=Aah msg l
 last:∀ v∈l,v.pos<=last
theorem Fol.nil (known:List ((Int × Int) × Version)) (a:Int):Fol msg known a [] [] 0:=⟨fun j v h=>by simp at h,fun j v h=>by simp at h,.nil,rfl,fun v h=>by cases h⟩
theorem Fol.snoc {known:List ((Int × Int) × Version)} {a:Int} {l:List Version} {h:Str} {last:Int} (F:Fol msg known a l h last) {v:Version} (hv:dY (a,(l.length:Int)+1) known=some v) (hp:v.prev=h) (hl:last<=v.pos):Fol msg known a (l++[v]) (msg v) v.pos:=by
 refine⟨fun j u hj=>?_,fun j u hj=>?_,?_,?_,fun u hu=>?_⟩
 ·rcases Nb j l.length with h1|h1|h1;·rw [Hf h1] at hj;exact F.look j u hj
  ·subst h1;simp at hj;subst hj;exact hv
  ·rw [Gs oM,Gm (by simp;omega)] at hj;cases hj
 ·rcases Nb j l.length with h1|h1|h1;·rw [Hf h1] at hj;rw [List.take_append_of_le_length oM];exact F.prev j u hj
  ·subst h1;simp at hj;subst hj;rw [List.take_left,hp];exact F.head
  ·rw [Gs oM,Gm (by simp;omega)] at hj;cases hj
 ·rw [N8];refine⟨F.sorted,sM,fun x hx y hy=>?_⟩;cases Ci.1 hy;exact Int.le_trans (F.last x hx) hl
 ·simp [Aah]
 ·rcases Ea.1 hu with h1|h1;·exact Int.le_trans (F.last u h1) hl
  ·cases Ci.1 h1;exact Int.le_refl _
def fol (known:List ((Int × Int) × Version)) (a:Int):List Version × Str:=follow msg known a 201 [] [] 0
variable {msg chk} {keys:List Str} {known:List ((Int × Int) × Version)}
def Aa5 (x y:Version):Prop:=x.authority<y.authority\/x.authority=y.authority/\x.number<y.number
instance : Inhabited Version := ⟨⟨0, 0, 0, [], [], ⟨0, [], []⟩⟩⟩
theorem dR {β:Type} (l:List β) (i:Nat) (x d:β) (h:i<l.length):(l.set i x).getD i d=x:=by simp [List.getD_eq_getElem?_getD,h]
theorem getD_set_ne {β:Type} (l:List β) (i j:Nat) (x d:β) (h:i≠j):(l.set i x).getD j d=l.getD j d:=by simp [List.getD_eq_getElem?_getD,h]
end
abbrev Known:=List ((Int × Int) × Version)
abbrev Forks:=List ((Int × Int) × (Version × Version))
def kV (p:Int × Int) (f:Version × Version) (forks:Forks):Forks:=match dY p forks with
 |none=>forks++[(p,f)]
 |some _=>forks
end
section
def lD (chk:Version->Str->Bool) (keys:List Str) (known:Known) (forks:Forks) (v:Version):Int × Known × Forks :=
 match bZ v with
 |.error _=>(1,known,forks)
 |.ok _ =>
  if ZH (v.authority >= keys.length) then (1,known,forks)
  else if !chk v (keys.getD v.authority.toNat []) then (16,known,forks)
  else match dY (v.authority,v.number) known with
   |none=>(0,known++[((v.authority,v.number),v)],forks)
   |some old=>if (bare old).getD []==(bare v).getD [] then (0,known,forks)
    else (17,known,kV (v.authority,v.number) (old,v) forks)
theorem Aak {n most:Int} (h:within n most=true):0<=n/\n<=most:=by simpa [within] using h
theorem Aar {v:Version} {u:Str} (h:bare v=some u):0<=v.authority/\1<=v.number/\v.number<=200:=by
 unfold bare at h;split at h;·cases h
 ·rename_i hc;simp only [Dy,Fz,La,Jk,Aw,Bl] at hc;obtain⟨⟨⟨⟨⟨h1,h2⟩,_⟩,_⟩,_⟩,_⟩:=hc;have:=Aak h1;omega
theorem jQ {v:Version} {t:Str} (h:bZ v=.ok t):0<=v.authority/\1<=v.number/\v.number<=200:=by
 unfold bZ at h;cases hb:bare v with
 |none=>rw [hb] at h;cases h
 |some u=>exact Aar hb
end
end CH
namespace CH
def fQ (l:List Str) (most:Nat):Bool:=l.all (fun s=>ZH (s.length<=60))&&ZH (l.length<=most)
def jc (n:Name):Bool:=(n.words.take 20).all (fun s=>ZH (s.length<=100))&&ZH (n.words.length<=20)
def kH (e:Entry):Bool:=(e.names.take 10).all jc&&(ZH (e.id.length<=100)&&ZH (e.names.length<=10))
def jg (c:Change):Bool:=ZH (c.id.length<=100)&&kH c.entry
theorem gV {α:Type} (p:α->Bool) (l:List α) (k:Nat) (x:α) (h:l[k]?=some x):(l.take (k+1)).all p=((l.take k).all p&&p x):=by rw [CH.aI l k x h,I9];simp
theorem iE {α:Type} (p:α->Bool) (l:List α) (k:Nat) (x:α) (h:l[k]?=some x) (hp:p x=false):l.all p=false:=by rw [Jw];exact⟨x,Aq h,by simp [hp]⟩
end CH
namespace Go.Proofs.YtdgmgjeoikcgbaaGreatDoor
open Go.RowKit Go.Lib CH
theorem Sv (v:ZC) (ls:List (List UInt8)) (most:Nat) (w:ZB) (hv:Strs w w v ls) : ZE Tryz.prog 21 #[v,↑most] w (Ret w (.bool (fQ ls most))):=by
 obtain⟨a,cap,rfl,hl,hcap,hne⟩:=hv;obtain⟨R,hR⟩:∃ R,Hid (fQ ls most=R):=⟨_,Aa rfl⟩
 rw [hR.out];have hne:=Aa hne;obtain⟨N,hN⟩:∃ N,ls.length=N:=⟨_,rfl⟩
 rw [hN] at hl ⊢;have hN:=Aa hN;go_enter Tryz.func21,Tryz.ntmps21;go_wp2_with fail;go_loopw [5] (fun i wr=>∃ k:Nat,k<=N/\i=↑k/\wr=w/\Hid ((ls.take k).all (fun s=>ZH (s.length<=60))=true)) (fun i _=>N - (ZG i).toNat);case atStart=>exact⟨0,Bg _,rfl,rfl,Aa rfl⟩
 case round =>
  obtain⟨k,hk,rfl,rfl,hI⟩:=hrel;by_cases hlt:k<N
  ·obtain⟨b,off,rfl,hbl,hcells⟩:=hne.out (by intro h;have:=hN.out;simp [h] at this;omega);obtain⟨l,hl'⟩:∃ l,ls[k]?=some l:=⟨_,Ad (by rw [hN.out];exact hlt)⟩
   have hcell:=hcells k l hl';clear hcells;have hl':=Aa hl';obtain⟨m,hm⟩:∃ m,l.length=m:=⟨_,rfl⟩
   by_cases h60:m<=60
   ·have d:ZH ((60:Int)<(m:Int))=false:=by simp;omega
    have hI':Hid ((ls.take (k+1)).all (fun s=>ZH (s.length<=60))=true):=Aa (by rw [gV _ ls k l hl'.out,hI.out,hm];simpa using h60);go_wp2;go_roundw;case rel=>exact⟨k+1,oM,by go_num,by first|rfl|trivial,hI'⟩
    case measure=>simp [ZG];omega
   ·have d:ZH ((60:Int)<(m:Int))=true:=by simp;omega
    go_wp2;go_ret;exact⟨by rw [<- hR.out];unfold fQ;rw [iE _ ls k l hl'.out (by rw [hm];simpa using h60)];rfl,Below.refl _ _⟩
  ·obtain rfl:k=N:=oM;have hall:ls.all (fun s=>ZH (s.length<=60))=true:=by have:=hI.out;rwa [<- hN.out,Dw] at this
   go_wp2;go_ret;refine⟨?_,Ac _ _⟩;rw [<- hR.out];unfold fQ;rw [hall,hN.out,a_Bool_true_and];congr 2;try (rw [Ey];omega)
theorem E4a (sc:Int) (v:ZC) (ls:List (List UInt8)) (w:ZB) (hv:Strs w w v ls) : ZE Tryz.prog 116 #[.agg #[↑sc,v]] w (Ret w (.bool (jc ⟨sc,ls⟩))):=by
 obtain⟨a,cap,rfl,hl,hcap,hne⟩:=hv;obtain⟨R,hR⟩:∃ R,Hid (jc ⟨sc,ls⟩=R):=⟨_,Aa rfl⟩
 rw [hR.out];have hR1:Hid (((ls.take 20).all (fun s=>ZH (s.length<=100))&&ZH (ls.length<=20))=R):=Aa hR.out;clear hR;have hne:=Aa hne;obtain⟨N,hN⟩:∃ N,ls.length=N:=⟨_,rfl⟩
 rw [hN] at hl hR1 ⊢;have hN:=Aa hN;have hB0:=fun o=>(Ac _ w).alloc nR o;go_enter Tryz.func116,Tryz.ntmps116;go_wp2_with fail;generalize hWd:w.alloc _=W at *;have c1:W.cell? ⟨w,1,none⟩=some (.slice a N cap):=by rw [<- hWd];exact Ab (Ap w _) 1
 have hBW:Below w w W:=by rw [<- hWd];exact hB0 _
 clear hWd hB0;go_loopw [3] (fun i wr=>∃ k:Nat,k<=N/\k<=20/\i=↑k/\wr=W/\Hid ((ls.take k).all (fun s=>ZH (s.length<=100))=true)) (fun i _=>20 - (ZG i).toNat);case atStart=>exact⟨0,Bg _,Bg _,rfl,rfl,Aa rfl⟩
 case round =>
  obtain⟨k,hk,JO,rfl,rfl,hI⟩:=hrel;by_cases hlt:k<N/\k<20
  ·obtain⟨hlt,zF⟩:=hlt;obtain⟨b,off,rfl,hbl,hcells⟩:=hne.out (by intro h;have:=hN.out;simp [h] at this;omega);obtain⟨l,hl'⟩:∃ l,ls[k]?=some l:=⟨_,Ad (by rw [hN.out];exact hlt)⟩
   have hcell:=(hBW.cell (p:=⟨b,off+k,none⟩) hbl).trans (hcells k l hl');clear hcells;have hl':=Aa hl';obtain⟨m,hm⟩:∃ m,l.length=m:=⟨_,rfl⟩
   have d1:ZH ((k:Int)<(N:Int))=true:=by simp;omega
   have d2:ZH ((k:Int)<20)=true:=by simp;omega
   by_cases h60:m<=100
   ·have d:ZH ((100:Int)<(m:Int))=false:=by simp;omega
    have hI':Hid ((ls.take (k+1)).all (fun s=>ZH (s.length<=100))=true):=Aa (by rw [gV _ ls k l hl'.out,hI.out,hm];simpa using h60);go_wp2;go_roundw;case rel=>exact⟨k+1,oM,oM,by go_num,by first|rfl|trivial,hI'⟩
    case measure=>simp [ZG];omega
   ·have d:ZH ((100:Int)<(m:Int))=true:=by simp;omega
    go_wp2;go_ret;refine⟨?_,hBW⟩;rw [<- hR1.out,iE _ (ls.take 20) k l (by rw [Ji zF];exact hl'.out) (by rw [hm];simpa using h60)];rfl
  ·have hall:(ls.take 20).all (fun s=>ZH (s.length<=100))=true:=by
    have hi:=hI.out;by_cases h20:k=20;·rwa [h20] at hi
    ·exact FD145
   have hfin:Hid (ZH (N<=20)=R):=Aa (by rw [<- hR1.out,hall];rfl);have e20:ZH ((N:Int)<=20)=ZH (N<=20):=by rw [Ey];omega
   by_cases h1:k<N
   ·have d1:ZH ((k:Int)<(N:Int))=true:=by simp;omega
    have d2:ZH ((k:Int)<20)=false:=by simp;omega
    go_wp2;go_ret;exact⟨by rw [<- hfin.out,<- e20];rfl,hBW⟩
   ·have d1:ZH ((k:Int)<(N:Int))=false:=by simp;omega
    go_wp2;go_ret;exact⟨by rw [<- hfin.out,<- e20];rfl,hBW⟩
end Go.Proofs.YtdgmgjeoikcgbaaGreatDoor
namespace Go.Proofs.YtdgmgjeoikcgbaaGreatDoor
section
open Go.Lib Go.Proofs.Tryz Go.RowKit CH
def Gr (B:Nat) (w:ZB) (v:ZC) (ns:List CH.Name):Prop := ∃ a cap,v=.slice a ns.length cap/\ns.length<=cap/\cap<=9223372036854775807 /\ (ns≠[]->∃ b off,a=some ⟨b,off,none⟩/\b<B/\∀ j n,ns[j]?=some n->∃ vw,w.cell? ⟨b,off+j*2,none⟩=some ↑n.script/\w.cell? ⟨b,off+j*2+1,none⟩=some vw/\Strs B w vw n.words)
theorem Bug (e:CH.Entry) (v:ZC) (w:ZB) (hv:Gr w w v e.names) : ZE prog 49 #[.agg #[↑e.id,v]] w (Ret w (.bool (kH e))):=by
 obtain⟨id,ls⟩:=e;obtain⟨a,cap,rfl,hl,hcap,hne⟩:=hv;dsimp only at *;obtain⟨R,hR⟩:∃ R,Hid (kH ⟨id,ls⟩=R):=⟨_,Aa rfl⟩
 rw [hR.out];have hR1:Hid (((ls.take 10).all jc&&(ZH (id.length<=100)&&ZH (ls.length<=10)))=R):=Aa hR.out;clear hR;have hne:=Aa hne;obtain⟨N,hN⟩:∃ N,ls.length=N:=⟨_,rfl⟩
 rw [hN] at hl hR1 ⊢;have hN:=Aa hN;have hB0:=fun o=>(Ac _ w).alloc nR o;go_enter func49,ntmps49;go_wp2_with fail;generalize hWd:w.alloc _=W at *;have c0:W.cell? ⟨w,0,none⟩=some ↑id:=by rw [<- hWd];exact Ab (Ap w _) 0
 have c1:W.cell? ⟨w,1,none⟩=some (.slice a N cap):=by rw [<- hWd];exact Ab (Ap w _) 1
 have hBW:Below w w W:=by rw [<- hWd];exact hB0 _
 have hlW:w.heap.size<W.heap.size:=by rw [<- hWd];simp
 clear hWd hB0;go_loopw [3] (fun i wr=>∃ k:Nat,k<=N/\k<=10/\i=↑k/\Hid (Below W W wr)/\Hid ((ls.take k).all jc=true)) (fun i _=>10 - (ZG i).toNat);case atStart=>exact⟨0,Bg _,Bg _,rfl,Aa (Ac _ _),Aa rfl⟩
 case round =>
  obtain⟨k,hk,hk10,rfl,hBr,hI⟩:=hrel;have k0:=(hBr.out.cell (p:=⟨w,0,none⟩) hlW).trans c0;have k1:=(hBr.out.cell (p:=⟨w,1,none⟩) hlW).trans c1;have hBw:Below w w wr:=hBW.trans (hBr.out.mono hBW.size);by_cases hlt:k<N/\k<10
  ·obtain⟨hlt,zG⟩:=hlt;obtain⟨b,off,rfl,hbl,hcells⟩:=hne.out (by intro h;have:=hN.out;simp [h] at this;omega);obtain⟨n,hn'⟩:∃ n,ls[k]?=some n:=⟨_,Ad (by rw [hN.out];exact hlt)⟩
   obtain⟨vw,d1,d2,d3⟩:=hcells k n hn';have e1:=(hBw.cell (p:=⟨b,off+k*2,none⟩) hbl).trans d1;have e2:=(hBw.cell (p:=⟨b,off+k*2+1,none⟩) hbl).trans d2;have F:=Aa (E4a n.script vw n.words wr ((d3.below hBw nR).mono hBw.size));clear hcells d1 d2;have hn':=Aa hn';have q1:ZH ((k:Int)<(N:Int))=true:=by simp;omega
   have q2:ZH ((k:Int)<10)=true:=by simp;omega
   obtain⟨fb,hfb⟩:∃ fb,Hid (jc n=fb):=⟨_,Aa rfl⟩
   have F:Hid (ZE prog 116 #[.agg #[↑n.script,vw]] wr (Ret wr (.bool fb))):=Aa (by rw [<- hfb.out];exact F.out);obtain⟨vwa,vwc,rfl,_,_⟩:=d3;generalize n.words.length=nw at *;go_wp2_with fail;refine F.out.mono ?_;rintro e w1 ⟨rfl,hb1⟩;clear F;cases fb with
   |true =>
    have hI':Hid ((ls.take (k+1)).all jc=true):=Aa (by rw [gV _ ls k n hn'.out,hI.out,hfb.out];rfl);have hB1:Hid (Below W W w1):=Aa (hBr.out.trans (hb1.mono hBr.out.size));go_wp2;go_roundw;case rel=>exact⟨k+1,oM,oM,by go_num,hB1,hI'⟩
    case measure=>simp [ZG];omega
   |false =>go_wp2;go_ret;refine⟨?_,hBw.trans (hb1.mono hBw.size)⟩;rw [<- hR1.out,iE _ (ls.take 10) k n (by rw [Ji zG];exact hn'.out) hfb.out];rfl
  ·have hall:(ls.take 10).all jc=true:=by
    have hi:=hI.out;by_cases h10:k=10;·rwa [h10] at hi
    ·exact FD145
   have e10:ZH ((N:Int)<=10)=ZH (N<=10):=by rw [Ey];omega
   obtain⟨m,hm⟩:∃ m,id.length=m:=⟨_,rfl⟩
   have e100:ZH ((m:Int)<=100)=ZH (id.length<=100):=by rw [hm,Ey];omega
   have hfin:Hid ((ZH ((m:Int)<=100)&&ZH ((N:Int)<=10))=R):=Aa (by rw [<- hR1.out,hall,e10,e100];rfl);obtain⟨r1,h1⟩:∃ r,ZH ((m:Int)<=100)=r:=⟨_,rfl⟩
   rw [h1] at hfin;clear e10 e100;by_cases h1:k<N
   ·have d1:ZH ((k:Int)<(N:Int))=true:=by simp;omega
    have d2:ZH ((k:Int)<10)=false:=by simp;omega
    cases r1 <;> go_wp2 <;> (go_ret;exact⟨by rw [<- hfin.out];rfl,hBw⟩)
   ·have d1:ZH ((k:Int)<(N:Int))=false:=by simp;omega
    cases r1 <;> go_wp2 <;> (go_ret;exact⟨by rw [<- hfin.out];rfl,hBw⟩)
theorem Zd (c:CH.Change) (v:ZC) (w:ZB) (hv:Gr w w v c.entry.names) : ZE prog 19 #[.agg #[↑c.kind,↑c.id,↑c.entry.id,v,↑c.pos]] w (Ret w (.bool (jg c))):=by
 have hB0:=fun o=>(Ac _ w).alloc nR o;have F:=fun o=>Bug c.entry v (w.alloc o) (by obtain⟨a,cap,h1,h2,h3,h4⟩:=hv;refine⟨a,cap,h1,h2,h3,fun hne=>?_⟩;obtain⟨b,off,e,hlt,hx⟩:=h4 hne;refine⟨b,off,e,by simp;omega,fun j n hj=>?_⟩;obtain⟨vw,c1,c2,c3⟩:=hx j n hj;exact⟨vw,((hB0 o).cell (p:=⟨b,off+j*2,none⟩) hlt).trans c1,((hB0 o).cell (p:=⟨b,off+j*2+1,none⟩) hlt).trans c2,(c3.below (hB0 o) nR).mono (hB0 o).size⟩);obtain⟨R,hR⟩:∃ R,Hid (jg c=R):=⟨_,Aa rfl⟩
 rw [hR.out];obtain⟨fe,hfe⟩:∃ fe,kH c.entry=fe:=⟨_,rfl⟩
 have hR1:Hid ((ZH (c.id.length<=100)&&fe)=R):=Aa (by rw [<- hfe];exact hR.out);rw [hfe] at F;have F:=Aa F;obtain⟨a,cap,rfl,hl,hcap,hne⟩:=hv;clear hne hR;generalize c.entry.names.length=N at *;obtain⟨m,hm⟩:∃ m,c.id.length=m:=⟨_,rfl⟩
 have e100:ZH ((m:Int)<=100)=ZH (c.id.length<=100):=by rw [hm,Ey];omega
 rw [<- e100] at hR1;obtain⟨r1,h1⟩:∃ r,ZH ((m:Int)<=100)=r:=⟨_,rfl⟩
 rw [h1] at hR1;clear e100;cases r1 with
 |false =>go_enter func19,ntmps19;go_wp2_with fail;go_ret;exact⟨by rw [<- hR1.out];rfl,hB0 _⟩
 |true =>go_enter func19,ntmps19;go_wp2_with fail;refine (F.out _).mono ?_;rintro e w1 ⟨rfl,hb1⟩;clear F;go_wp2;go_ret;exact⟨by rw [<- hR1.out];rfl,(hB0 _).trans (hb1.mono sM)⟩
end
section
open Go.Lib Go.Proofs.Tryz Go.RowKit Go.Shelf Go.Sort CH
attribute [local irreducible] wpQuiet
theorem Te (v v':ZC) (ls:List (List UInt8)) (w:ZB) (hv:Strs w w v ls) (hv':Strs w w v' ls) : ZE prog 66 #[v,v'] w (Ret w (.bool true)):=by
 obtain⟨a,cap,rfl,hl,hcap,hne⟩:=hv;obtain⟨a',cap',rfl,hl',hcap',hne'⟩:=hv';have hne:=Aa hne;have hne':=Aa hne';obtain⟨N,hN⟩:∃ N,ls.length=N:=⟨_,rfl⟩
 rw [hN] at hl hl' ⊢;have hN:=Aa hN;go_enter func66,ntmps66;exact FD3
theorem Uy (v v':ZC) (ls:List (List UInt8)) (w:ZB) (hv:Strs w w v ls) (hv':Strs w w v' ls) : ZE prog 248 #[v,v'] w (Ret w (.bool true)):=by
 obtain⟨a,cap,rfl,hl,hcap,hne⟩:=hv;obtain⟨a',cap',rfl,hl',hcap',hne'⟩:=hv';have hne:=Aa hne;have hne':=Aa hne';obtain⟨N,hN⟩:∃ N,ls.length=N:=⟨_,rfl⟩
 rw [hN] at hl hl' ⊢;have hN:=Aa hN;go_enter func248,ntmps248;exact FD3
theorem Tb (v v':ZC) (ls:List (List UInt8)) (w:ZB) (hv:Strs w w v ls) (hv':Strs w w v' ls) : ZE prog 130 #[v,v'] w (Ret w (.bool true)):=by
 obtain⟨a,cap,rfl,hl,hcap,hne⟩:=hv;obtain⟨a',cap',rfl,hl',hcap',hne'⟩:=hv';have hne:=Aa hne;have hne':=Aa hne';obtain⟨N,hN⟩:∃ N,ls.length=N:=⟨_,rfl⟩
 rw [hN] at hl hl' ⊢;have hN:=Aa hN;go_enter func130,ntmps130;exact FD3
theorem K8 (v v':ZC) (ls:List (List UInt8)) (w:ZB) (hv:Strs w w v ls) (hv':Strs w w v' ls) : ZE prog 129 #[v,v'] w (Ret w (.bool true)):=by
 obtain⟨a,cap,rfl,hl,hcap,hne⟩:=hv;obtain⟨a',cap',rfl,hl',hcap',hne'⟩:=hv';have hne:=Aa hne;have hne':=Aa hne';obtain⟨N,hN⟩:∃ N,ls.length=N:=⟨_,rfl⟩
 rw [hN] at hl hl' ⊢;have hN:=Aa hN;go_enter func129,ntmps129;exact FD3
theorem Gr.grow {w W:ZB} {v:ZC} {ns:List CH.Name} (h:Gr w w v ns) (hb:Below w w W):Gr W W v ns:=by obtain⟨a,cap,h1,h2,h3,h4⟩:=h;refine⟨a,cap,h1,h2,h3,fun hne=>?_⟩;obtain⟨b,off,e,hlt,hc⟩:=h4 hne;refine⟨b,off,e,Ai hlt hb.size,fun j n hj=>?_⟩;obtain⟨vw,c1,c2,c3⟩:=hc j n hj;exact⟨vw,(hb.cell (p:=⟨b,off+j*2,none⟩) hlt).trans c1,(hb.cell (p:=⟨b,off+j*2+1,none⟩) hlt).trans c2,(c3.below hb nR).mono hb.size⟩
theorem N6 (w:ZB) (o1 o2:Obj):((w.alloc o1).alloc o2).heap[w.heap.size]?=some o1/\((w.alloc o1).alloc o2).heap[w.heap.size+1]?=some o2 := ⟨(((Ac _ (w.alloc o1)).alloc nR o2).block w.heap.size sM).trans (Ap w o1),by have:=Ap (w.alloc o1) o2;simpa using this⟩
theorem Alx (sc:Int) (v v':ZC) (ls:List (List UInt8)) (w:ZB) (hv:Strs w w v ls) (hv':Strs w w v' ls) : ZE prog 190 #[.agg #[↑sc,v],.agg #[↑sc,v']] w (Ret w (.bool true)):=by have T:=Aa fun (W:ZB) (hb:Below w w W)=>Uy v v' ls W ((hv.below hb nR).mono hb.size) ((hv'.below hb nR).mono hb.size);have hB0:=Aa fun o o2=>((Ac _ w).alloc nR o).alloc sM o2;obtain⟨a,cap,rfl,_,_,_⟩:=hv;obtain⟨a',cap',rfl,_,_,_⟩:=hv';generalize ls.length=n at *;go_enter func190,ntmps190;go_wp2_with fail;refine (T.out _ (hB0.out _ _)).mono ?_;rintro e w1 ⟨rfl,hb1⟩;have hB1:=(hB0.out _ _).trans (hb1.mono (hB0.out _ _).size);clear T;exact FD30
theorem Oo (e:CH.Entry) (v v':ZC) (w:ZB) (hv:Gr w w v e.names) (hv':Gr w w v' e.names) : ZE prog 127 #[.agg #[↑e.id,v],.agg #[↑e.id,v']] w (Ret w (.bool true)):=by
 obtain⟨id,ls⟩:=e;obtain⟨a,cap,rfl,hl,hcap,hne⟩:=hv;obtain⟨a',cap',rfl,hl',hcap',hne'⟩:=hv';dsimp only at *;have hne:=Aa hne;have hne':=Aa hne';obtain⟨N,hN⟩:∃ N,ls.length=N:=⟨_,rfl⟩
 rw [hN] at hl hl' ⊢;have hN:=Aa hN;have hB0:=fun o o2=>((Ac _ w).alloc nR o).alloc sM o2;have A2:=N6 w;go_enter func127,ntmps127;go_wp2_with fail;generalize hWd:(w.alloc _).alloc _=W at *;have c1:W.cell? ⟨w,1,none⟩=some (.slice a N cap):=by rw [<- hWd];exact Ab (A2 _ _).1 1
 have c1':W.cell? ⟨w+1,1,none⟩=some (.slice a' N cap'):=by rw [<- hWd];exact Ab (A2 _ _).2 1
 have hBW:Below w w W:=by rw [<- hWd];exact hB0 _ _
 have hlW:w.heap.size+1<W.heap.size:=by rw [<- hWd];simp
 clear hWd hB0 A2;go_loopw [5] (fun i wr=>∃ k:Nat,k<=N/\i=↑k/\Hid (Below W W wr)) (fun i _=>N - (ZG i).toNat);case atStart=>exact⟨0,Bg _,rfl,Aa (Ac _ _)⟩
 case round =>
  obtain⟨k,hk,rfl,hBr⟩:=hrel;have k1:=(hBr.out.cell (p:=⟨w,1,none⟩) (by show w.heap.size<_;omega)).trans c1;have k1':=(hBr.out.cell (p:=⟨w+1,1,none⟩) hlW).trans c1';have hBw:Below w w wr:=hBW.trans (hBr.out.mono hBW.size);by_cases hlt:k<N
  ·obtain⟨b,off,rfl,hbl,hcells⟩:=hne.out (by intro h;have:=hN.out;simp [h] at this;omega);obtain⟨b',off',rfl,ig,hcells'⟩:=hne'.out (by intro h;have:=hN.out;simp [h] at this;omega);obtain⟨n,hn'⟩:∃ n,ls[k]?=some n:=⟨_,Ad (by rw [hN.out];exact hlt)⟩
   obtain⟨vw,d1,d2,d3⟩:=hcells k n hn';obtain⟨vw',d1',d2',d3'⟩:=hcells' k n hn';have e1:=(hBw.cell (p:=⟨b,off+k*2,none⟩) hbl).trans d1;have e2:=(hBw.cell (p:=⟨b,off+k*2+1,none⟩) hbl).trans d2;have e1':=(hBw.cell (p:=⟨b',off'+k*2,none⟩) ig).trans d1';have e2':=(hBw.cell (p:=⟨b',off'+k*2+1,none⟩) ig).trans d2';have F:=Aa fun (W:ZB) (hb:Below wr wr W)=>Alx n.script vw vw' n.words W ((d3.below (hBw.trans (hb.mono hBw.size)) nR).mono (Af hBw.size hb.size)) ((d3'.below (hBw.trans (hb.mono hBw.size)) nR).mono (Af hBw.size hb.size));clear hcells hcells' d1 d2 d1' d2' hn';obtain⟨vwa,vwc,rfl,_,_⟩:=d3;obtain⟨CW,CV,rfl,_,_⟩:=d3';generalize n.words.length=nw at *;have z0:(0:Int)<=(k:Int):=oM;have zk:((k:Int)).toNat=k:=oM;have hk':(k:Int)<(N:Int):=oM;have g0:∀ (d:Nat) (os:Array Obj),(grow (ZI wr d) os).cell? ⟨w,1,none⟩=some (.slice (some ⟨b,off,none⟩) N cap):=Ae k1;have g0':∀ (d:Nat) (os:Array Obj),(grow (ZI wr d) os).cell? ⟨w+1,1,none⟩=some (.slice (some ⟨b',off',none⟩) N cap'):=Ae k1';have g1:∀ (d:Nat) (os:Array Obj),(grow (ZI wr d) os).cell? ⟨b,off+k*2,none⟩=some ↑n.script:=Ae e1;have g2:∀ (d:Nat) (os:Array Obj),(grow (ZI wr d) os).cell? ⟨b,off+k*2+1,none⟩=some (.slice vwa nw vwc):=Ae e2;have g1':∀ (d:Nat) (os:Array Obj),(grow (ZI wr d) os).cell? ⟨b',off'+k*2,none⟩=some ↑n.script:=Ae e1';have g2':∀ (d:Nat) (os:Array Obj),(grow (ZI wr d) os).cell? ⟨b',off'+k*2+1,none⟩=some (.slice CW nw CV):=Ae e2';go_wp2_with fail;refine Bc kR kR ?_;repeat (quiet_step ((with_reducible exact Bd (F.out _ (Dq _ _ _)))))
   refine Cm ?_;intro wq hbq;replace hbq:=As hbq;clear F g0 g0' g1 g2 g1' g2' e1 e2 e1' e2' k1 k1';have hb1:=hbq;have hB1:Hid (Below W W wq):=Aa (hBr.out.trans (hb1.mono hBr.out.size));go_wp2;go_roundw;case rel=>exact⟨k+1,oM,by go_num,hB1⟩
   case measure=>simp [ZG];omega
  ·obtain rfl:k=N:=oM;go_wp2;go_ret;exact⟨rfl,hBw⟩
theorem O2 (c:CH.Change) (v v':ZC) (w:ZB) (hv:Gr w w v c.entry.names) (hv':Gr w w v' c.entry.names) : ZE prog 67 #[.agg #[↑c.kind,↑c.id,↑c.entry.id,v,↑c.pos],.agg #[↑c.kind,↑c.id,↑c.entry.id,v',↑c.pos]] w (Ret w (.bool true)):=by
 have hB0:=Aa fun o o2=>((Ac _ w).alloc nR o).alloc sM o2;have F:=Aa fun (W:ZB) (hb:Below w w W)=>Oo c.entry v v' W (hv.grow hb) (hv'.grow hb);have A2:=N6 w;obtain⟨a,cap,rfl,hl,hcap,_⟩:=hv;obtain⟨a',cap',rfl,hl',hcap',_⟩:=hv';generalize c.entry.names.length=N at *;go_enter func67,ntmps67;go_wp2_with fail;have B:=hB0.out;generalize hWd:(w.alloc _).alloc _=W at *;have c4:W.cell? ⟨w,4,none⟩=some ↑c.pos:=by rw [<- hWd];exact Ab (A2 _ _).1 4
 have c4':W.cell? ⟨w+1,4,none⟩=some ↑c.pos:=by rw [<- hWd];exact Ab (A2 _ _).2 4
 have hBW:Below w w W:=by rw [<- hWd];exact B _ _
 have hlW:w.heap.size+1<W.heap.size:=by rw [<- hWd];simp
 clear hWd hB0 A2 B;refine (F.out _ hBW).mono ?_;rintro e w1 ⟨rfl,hb1⟩;have k4:=(hb1.cell (p:=⟨w,4,none⟩) (by show w.heap.size<_;omega)).trans c4;have k4':=(hb1.cell (p:=⟨w+1,4,none⟩) hlW).trans c4';have hB1:=hBW.trans (hb1.mono hBW.size);clear F;exact FD30
end
end Go.Proofs.YtdgmgjeoikcgbaaGreatDoor
