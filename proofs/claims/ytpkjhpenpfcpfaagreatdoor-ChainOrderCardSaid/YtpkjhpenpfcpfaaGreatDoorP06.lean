/-
  ChainOrder: the proof, part 7 of 28.
-/
import Derived.Test.YtpkjhpenpfcpfaaGreatDoorP03
import Derived.StillTail
import Derived.Shelf.SlIter.Nil
import Derived.Shelf.SortM.Plain
set_option linter.unusedSimpArgs false
set_option linter.unusedVariables false
set_option maxHeartbeats 40000000
set_option maxRecDepth 100000
open Go renaming World -> ZB, Value -> ZC, Calls -> ZE, redrawn -> ZI
open Go.RowKit renaming intOf -> ZG
open Decidable renaming decide -> ZH
namespace Go.Proofs.YtpkjhpenpfcpfaaGreatDoor
section
open Go.Lib Go.Proofs.Tryz Go.RowKit Go.Shelf Go.Sort CH
section
open CH
variable {P:Program} {ops:Array Oper} {md:Region.Mode} {C:ZB->Prop}
def Rj (P:Program) (md:Region.Mode) (ops:Array Oper) (C:ZB->Prop) (n:Nat) (L:Array Bool->Act->Prop):Nat->Array Bool->Act->Prop
 |0,listed,a=>L listed a
 |f+1,listed,a=>Region.ready md ops listed≠[]/\∀ i∈Region.ready md ops listed,i<n/\qOp P ops C i (Rj P md ops C n L f (listed.setIfInBounds i true)) a
theorem Uv {n g:Nat} {L:Array Bool->Act->Prop} {Q:Exit->Act->ZB->Prop} (hL:∀ listed a w,C w->L listed a->wpAny P md ops Q g listed a w) :
  ∀ (f:Nat) (listed:Array Bool) (a:Act) (w:ZB),C w->Rj P md ops C n L f listed a->wpAny P md ops Q (f+g) listed a w
 |0,listed,a,w,hw,h=>by rw [Bh];exact hL _ _ _ hw h
 |f+1,listed,a,w,hw,h=>by
  rw [Nat.add_right_comm]
  exact⟨fun h0=>(h.1 h0).elim,fun i hi=>wpOp_of_qOp hw (fun a' w' hw' h'=>Uv hL f _ a' w' hw' h') (h.2 i hi).2⟩
theorem Zk {n i:Nat} {oi:Oper} {v:ZC} {L:Array Bool->Act->Prop} (hi:ops[i]?=some oi) (hsel:Region.noSelect ops=true) (hs:Region.sinkB md ops n=true) (hc:Region.chainB md ops n=true) (hn:n<ops.size) (hin:i<n) (hdone:∀ listed a,L listed a->∀ j∈Region.ready md ops listed,n<=j) : ∀ (f:Nat) (listed:Array Bool) (a:Act),HeadInv md ops n listed -> (∀ j oj,ops[j]?=some oj->j≠i->listed.getD j true=false->(∀ e∈oj.after,Region.binds md e=true->e.on≠i)->oi.apart ops oj=true) -> i∈Region.ready md ops listed->YieldsIn P ops C oi v a->Rj P md ops C n L f (listed.setIfInBounds i true) (a.put oi.dst v)->Rj P md ops C n L (f+1) listed a:=by
 intro f;induction f with
 |zero =>
  intro listed a inv _ hr hy H;refine⟨List.ne_nil_of_mem hr,fun j hj=>?_⟩;have hjn:j<n:=Nat.lt_of_not_le fun h=>tail_waits hs hc hn inv _ i rfl hin (G5.1 hr).1 j h hj;refine⟨hjn,?_⟩;by_cases hji:j=i;·subst hji;exact hy.qOp hi H
  ·exact absurd (hdone _ _ H j (ready_mono hj hji)) oM
 |succ f ih =>
  intro listed a inv hfree hr hy H;have hun:=(G5.1 hr).1;refine⟨List.ne_nil_of_mem hr,fun j hj=>?_⟩;have hjn:j<n:=Nat.lt_of_not_le fun h=>tail_waits hs hc hn inv _ i rfl hin hun j h hj;refine⟨hjn,?_⟩;by_cases hji:j=i;·subst hji;exact hy.qOp hi H
  ·obtain⟨hjun,oj,hoj,hall⟩:=G5.1 hj;have hnot:∀ e∈oj.after,Region.binds md e=true->e.on≠i:=fun e he hb heq=>by have h1:=hall e he hb;rw [heq,getD_both hun] at h1;cases h1
   have h2:=qOp_put hoj (hfree j oj hoj hji hjun hnot) (fun cs b=>Region.noSelect_spec hsel i oi cs b hi) (fun cs b=>Region.noSelect_spec hsel j oj cs b hoj) hy (H.2 j (ready_mono hj hji)).2;refine qOp_mono (fun a' h3=>ih (listed.setIfInBounds j true) a' (inv.set hj hjn) ?_ (ready_mono hr (Ne.symm hji)) h3.1 ?_) h2
   ·intro k ok hk hki DZ hno;refine hfree k ok hk hki ?_ hno;by_cases hjk:j=k;·subst hjk;exact hjun
    ·rwa [getD_set_ne true hjk] at DZ
   ·rw [Array.setIfInBounds_comm _ _ hji];exact h3.2
theorem Uo {n g:Nat} {Lq:Act->Prop} (hsel:Region.noSelect ops=true) (hs:Region.sinkB md ops n=true) (hc:Region.chainB md ops n=true) (hn:n<ops.size) :
  ∀ (l:List Oper) (k:Nat) (listed:Array Bool) (a:Act),(∀ j,j<l.length->l[j]?=ops[k+j]?)->k+l.length=n->HeadInv md ops n listed ->
  Region.lexHead md ops g l.length k listed=true->wpQuiet P ops C Lq l a->Rj P md ops C n (fun listed' a'=>Region.seqB md ops g n listed'=true/\Lq a') l.length listed a
 |[],k,listed,a,_,hk,_,hB,h=>by
  obtain rfl:k=n:=by simpa using hk
  exact⟨by simpa [Region.lexHead] using hB,h⟩
 |o::l,k,listed,a,hl,hk,inv,hB,h=>by
  have h0:ops[k]?=some o:=by simpa using (hl 0 sM).symm
  simp only [Az] at hk
  simp only [Az,Region.lexHead,Ar] at hB
  have hr:k∈Region.ready md ops listed:=by simpa using hB.1.1
  obtain⟨v,hy,hK⟩:=yieldsIn_of_qOp (C:=C) (K:=wpQuiet P ops C Lq l) h0 (by unfold qOp;simp only [h0];exact h)
  refine Zk h0 hsel hs hc hn oM (fun _ _ hL=>seqB_ready hL.1) l.length listed a inv (Region.free_spec h0 hB.1.2) hr hy ?_
  exact Uo hsel hs hc hn l (k+1) _ _ (fun j hj=>by have:=hl (j+1) (by simp;omega);simpa [Jc,Nat.add_comm 1 j] using this) oM (inv.set hr oM) hB.2 hK
theorem G4 {id:Nat} {Q:Exit->Act->ZB->Prop} {a:Act} {w:ZB} {l:List Oper} (n:Nat) (hm:P.follows .mixedOrders=true) (hB:Region.lexTailB .any l.toArray n=true) (h:wpQuiet P l.toArray (fun w'=>∃ p:Regrown,w'=grow (ZI w p.d) p.os) (fun a'=>∀ w',(∃ p:Regrown,w'=grow (ZI w p.d) p.os)->wpList P l.toArray Q (l.drop n) a' w') (l.take n) a):(Code.region id l.toArray true).wp P Q a w:=by
 simp only [Region.lexTailB,Ar,Bl] at hB;obtain⟨⟨⟨⟨hsel,hn⟩,hs⟩,hc⟩,hlex⟩:=hB;have hn':n<l.length:=by simpa using hn
 have htl:(l.take n).length=n:=by simp;omega
 have hdl:(l.drop n).length=l.toArray.size - n:=sM;have inv0:HeadInv .any l.toArray n (Array.replicate l.toArray.size false) := ⟨sM,fun j oj _ hl=>(by rw [getD_replicate_false] at hl;cases hl),fun t _ ht=>getD_in (by simpa using ht) (getD_replicate_false _ _)⟩
 have H:=Uo (md:=.any) (g:=l.toArray.size - n) hsel hs hc hn (l.take n) 0 _ a (fun j hj=>by
  have hj':j<n:=by rw [htl] at hj;exact hj
  simp [hj']) (by simpa using htl) inv0 (by rw [htl];exact hlex) h
 refine wp_region_any hm ?_;have:=Uv (Q:=Q) (g:=l.toArray.size - n) (fun listed a' w' hw' hL=>by have:=wpAny_of_seq (md:=.any) (Q':=Q) (l.drop n) n listed a' w' (fun j=>by simp [Ii]) (by rw [hdl];exact hL.1) (hL.2 w' hw');rwa [hdl] at this) _ _ _ _ ⟨⟨w.drawn+1,#[]⟩,by rw [grow_empty]⟩ H;rw [htl,show n+(l.toArray.size - n)=l.toArray.size by omega] at this;exact this
def S5 (listed:Array Bool):Nat:=(listed.toList.filter (!·)).length
theorem P8 {listed:Array Bool} {i:Nat} (h:listed.getD i true=false):S5 (listed.setIfInBounds i true)+1=S5 listed:=by
 obtain⟨l⟩:=listed;have hl:l[i]?=some false:=by
  cases e:l[i]? with
  |none=>simp [e] at h
  |some b=>simp [e] at h;rw [h]
 simp only [S5,List.setIfInBounds_toArray];clear h;induction l generalizing i with
 |nil=>simp at hl
 |cons b l ih =>
  cases i with
  |zero =>
   have hb:b=false:=by simpa using hl
   subst hb;simp
  |succ i =>have:=ih (by simpa using hl);cases b <;> simp [this]
theorem Ain {listed:Array Bool} (h:S5 listed=0):Region.ready md ops listed=[]:=by
 cases hr:Region.ready md ops listed with
 |nil=>rfl
 |cons i l =>
  have hi:i∈Region.ready md ops listed:=by rw [hr];simp
  have:=P8 (G5.1 hi).1;omega
end
end
section
open Go.Lib Go.Proofs.Tryz Go.RowKit Go.Shelf Go.Sort CH
def A4 (m:bC) (vk:ZC):List ZC := [↑m.id,↑m.authority,↑m.kind,↑m.target,↑m.aA.op,↑m.aA.name,↑m.aA.cmp,↑m.aA.n,vk,↑m.start,↑m.aF,↑m.dL]
theorem I57 (m:bC) (ak:Option Addr) (nk ck:Nat) (w:ZB) : ZE prog 87 #[.agg (A4 m (.slice ak nk ck)).toArray] w (Ret w (.bool (bg m))):=by
 obtain⟨r,hr⟩:∃ r,bg m=r:=⟨_,rfl⟩
 rw [hr];unfold bg at hr;dsimp only [A4];generalize m.aA=f at *;generalize m.id=id at *;generalize m.authority=au at *;generalize m.target=tg at *;generalize m.kind=kd at *;generalize m.start=st at *;generalize m.aF=un at *;generalize m.dL=wi at *;dsimp only at hr;obtain⟨wm,hwm⟩:∃ x:Int,(if kd=1 then (400:Int) else 0)=x:=⟨_,rfl⟩
 rw [hwm] at hr;obtain⟨b1,h1⟩:∃ b,(un==-1)=b:=⟨_,rfl⟩
 obtain⟨b2,h2⟩:∃ b,ZH (st<un)=b:=⟨_,rfl⟩
 obtain⟨b3,h3⟩:∃ b,ZH (un<=100000)=b:=⟨_,rfl⟩
 obtain⟨b4,h4⟩:∃ b,ZH (0<=st)=b:=⟨_,rfl⟩
 obtain⟨b5,h5⟩:∃ b,ZH (st<=100000)=b:=⟨_,rfl⟩
 obtain⟨b6,h6⟩:∃ b,ZH (0<=wi)=b:=⟨_,rfl⟩
 have hr':((b4&&(b5&&((b1||b2&&b3)&&(b6&&ZH (wi<=wm))))):Bool)=r:=by rw [<- hr,<- h1,<- h2,<- h3,<- h4,<- h5,<- h6]
 clear hr;replace hr':=Aa hr';go_enter func87,ntmps87;by_cases hk:kd=1
 ·have z1:(kd==1)=true:=by simpa using hk
  rw [Ap hk] at hwm;exact FD28
 ·have z1:(kd==1)=false:=by simpa using hk
  rw [Af hk] at hwm;exact FD28
end
end Go.Proofs.YtpkjhpenpfcpfaaGreatDoor
namespace Go.Proofs
section
open Go.Proofs.Tryz Go.Shelf CH
def Tryz.mZ:Go.Shelf.Ren:=⟨fun|7=>209|10=>264|n=>n,fun|23=>165|26=>9|3=>4|28=>262|0=>0|27=>261|33=>105|4=>4|n=>n,fun|n=>n⟩
theorem Tryz.rQ:Go.Proofs.SlLaysZ.n7 prog Tryz.mZ:={
 mixed:=by kernel_rfl
 f7:=⟨Tryz.f209.name,by decide,func209.trans (congrArg some (by kernel_rfl))⟩
 f10:=⟨Tryz.f264.name,by decide,func264.trans (congrArg some (by kernel_rfl))⟩
 t0:=underlying0
 a0:=isAgg0
 z0:=sizeOf0
 v0:=zeroValue0
 t4:=underlying4
 a4:=isAgg4
 z4:=sizeOf4
 v4:=zeroValue4
 t23:=underlying165
 a23:=isAgg165
 z23:=sizeOf165
 v23:=zeroValue165
 t26:=underlying9
 a26:=isAgg9
 z26:=sizeOf9
 v26:=zeroValue9
 t27:=underlying261
 a27:=isAgg261
 z27:=sizeOf261
 v27:=zeroValue261
 t28:=underlying262
 a28:=isAgg262
 z28:=sizeOf262
 v28:=zeroValue262
 t33:=underlying105
 a33:=isAgg105
 z33:=sizeOf105
 v33:=zeroValue105 }
def Tryz.kU:Go.Shelf.Ren:=⟨fun|6=>208|8=>262|9=>263|11=>291|13=>176|12=>292|23=>241|24=>242|14=>308|15=>309|16=>310|17=>311|18=>312|19=>313|20=>314|21=>315|22=>316|25=>324|26=>280|27=>281|28=>325|29=>326|30=>327|31=>335|n=>n,fun|26=>9|28=>262|24=>22|0=>0|3=>3|37=>182|48=>240|50=>143|4=>4|40=>275|39=>274|45=>279|5=>5|9=>9|51=>300|55=>304|57=>319|58=>257|33=>105|n=>n,fun|n=>n⟩
theorem Tryz.sQ:Go.Proofs.SlLaysZ.n6 prog Tryz.kU:={
 mixed:=by kernel_rfl
 f6:=⟨Tryz.f208.name,by decide,func208.trans (congrArg some (by kernel_rfl))⟩
 f8:=⟨Tryz.f262.name,by decide,func262.trans (congrArg some (by kernel_rfl))⟩
 f11:=⟨Tryz.f291.name,by decide,func291.trans (congrArg some (by kernel_rfl))⟩
 t0:=underlying0
 a0:=isAgg0
 z0:=sizeOf0
 v0:=zeroValue0
 t24:=underlying22
 a24:=isAgg22
 z24:=sizeOf22
 v24:=zeroValue22
 t26:=underlying9
 a26:=isAgg9
 z26:=sizeOf9
 v26:=zeroValue9
 t28:=underlying262
 a28:=isAgg262
 z28:=sizeOf262
 v28:=zeroValue262
 i26:=by kernel_rfl }
def Tryz.qx:Go.Shelf.Ren:=⟨fun|6=>263|8=>176|9=>292|19=>241|20=>242|21=>308|22=>309|23=>310|24=>311|25=>312|26=>313|27=>314|28=>315|29=>316|36=>324|31=>280|32=>281|37=>325|38=>326|39=>327|41=>335|n=>n,fun|27=>22|29=>9|3=>3|32=>182|26=>22|0=>0|44=>240|46=>143|4=>4|36=>275|35=>274|41=>279|5=>5|9=>9|53=>300|57=>304|63=>319|64=>257|n=>n,fun|n=>n⟩
theorem Tryz.rJ:Go.Proofs.SlLaysM.n6 prog Tryz.qx:={
 mixed:=by kernel_rfl
 f6:=⟨Tryz.f263.name,by decide,func263.trans (congrArg some (by kernel_rfl))⟩
 f8:=func176.trans (congrArg some (by kernel_rfl))
 f9:=⟨Tryz.f292.name,by decide,func292.trans (congrArg some (by kernel_rfl))⟩
 f19:=func241.trans (congrArg some (by kernel_rfl))
 f20:=func242.trans (congrArg some (by kernel_rfl))
 f21:=⟨Tryz.f308.name,by decide,func308.trans (congrArg some (by kernel_rfl))⟩
 f22:=⟨Tryz.f309.name,by decide,func309.trans (congrArg some (by kernel_rfl))⟩
 f23:=⟨Tryz.f310.name,by decide,func310.trans (congrArg some (by kernel_rfl))⟩
 f24:=⟨Tryz.f311.name,by decide,func311.trans (congrArg some (by kernel_rfl))⟩
 f25:=⟨Tryz.f312.name,by decide,func312.trans (congrArg some (by kernel_rfl))⟩
 f26:=⟨Tryz.f313.name,by decide,func313.trans (congrArg some (by kernel_rfl))⟩
 f27:=⟨Tryz.f314.name,by decide,func314.trans (congrArg some (by kernel_rfl))⟩
 f28:=⟨Tryz.f315.name,by decide,func315.trans (congrArg some (by kernel_rfl))⟩
 f29:=⟨Tryz.f316.name,by decide,func316.trans (congrArg some (by kernel_rfl))⟩
 f31:=func280.trans (congrArg some (by kernel_rfl))
 f32:=func281.trans (congrArg some (by kernel_rfl))
 f36:=⟨Tryz.f324.name,by decide,func324.trans (congrArg some (by kernel_rfl))⟩
 f37:=⟨Tryz.f325.name,by decide,func325.trans (congrArg some (by kernel_rfl))⟩
 f38:=⟨Tryz.f326.name,by decide,func326.trans (congrArg some (by kernel_rfl))⟩
 f39:=⟨Tryz.f327.name,by decide,func327.trans (congrArg some (by kernel_rfl))⟩
 f41:=⟨Tryz.f335.name,by decide,func335.trans (congrArg some (by kernel_rfl))⟩
 t0:=underlying0
 a0:=isAgg0
 z0:=sizeOf0
 v0:=zeroValue0
 t3:=underlying3
 a3:=isAgg3
 z3:=sizeOf3
 v3:=zeroValue3
 t4:=underlying4
 a4:=isAgg4
 z4:=sizeOf4
 v4:=zeroValue4
 t5:=underlying5
 a5:=isAgg5
 z5:=sizeOf5
 v5:=zeroValue5
 t9:=underlying9
 a9:=isAgg9
 z9:=sizeOf9
 v9:=zeroValue9
 t26:=underlying22
 a26:=isAgg22
 z26:=sizeOf22
 v26:=zeroValue22
 t27:=underlying22
 a27:=isAgg22
 z27:=sizeOf22
 v27:=zeroValue22
 t29:=underlying9
 a29:=isAgg9
 z29:=sizeOf9
 v29:=zeroValue9
 t32:=underlying182
 a32:=isAgg182
 z32:=sizeOf182
 v32:=zeroValue182
 t35:=underlying274
 a35:=isAgg274
 z35:=sizeOf274
 v35:=zeroValue274
 t36:=underlying275
 a36:=isAgg275
 z36:=sizeOf275
 v36:=zeroValue275
 t41:=underlying279
 a41:=isAgg279
 z41:=sizeOf279
 v41:=zeroValue279
 t44:=underlying240
 a44:=isAgg240
 z44:=sizeOf240
 v44:=zeroValue240
 t46:=underlying143
 a46:=isAgg143
 z46:=sizeOf143
 v46:=zeroValue143
 t53:=underlying300
 a53:=isAgg300
 z53:=sizeOf300
 v53:=zeroValue300
 t57:=underlying304
 a57:=isAgg304
 z57:=sizeOf304
 v57:=zeroValue304
 t63:=underlying319
 a63:=isAgg319
 z63:=sizeOf319
 v63:=zeroValue319
 t64:=underlying257
 a64:=isAgg257
 z64:=sizeOf257
 v64:=zeroValue257 }
open Go.RowKit Go.Maps Go.Sort Go.Shelf CH in
theorem Tryz.tZ (m:Nat):AnyZ.SortsIn prog Tryz.kU Fence.wide m := ⟨fun blk off cap ss W hH hblk hsz=>callsIn_wide.2 (AnyM.slices_Sort_string Tryz.rJ blk off cap ss W hH hblk hsz), fun p cap W=>callsIn_wide.2 (AnyM.slices_Sort_string_none Tryz.rJ p cap W)⟩
open Go.RowKit Go.Maps Go.Sort Go.Shelf CH in
theorem Tryz.oD (mb:Option Nat) (W:ZB):CallsIn Fence.wide 5 prog 209 #[.map mb] W fun e w'=>e=.returned (.func (.func 264) #[] #[.pointer (some ⟨W.heap.size,0,none⟩)])/\w'=W.alloc (.cells #[.map mb] 165) := AnyZ.keys_in Tryz.rQ Fence.wide 5 trivial rfl mb W
open Go.RowKit Go.Maps Go.Sort Go.Shelf CH in
theorem Tryz.jd {H:Type} (b nn:Nat) (D0:DataW H) (R:ZC->Option (DataW H × List MemPlace)) (w:ZB) (hown:w.ownsMap prog 9 R b nn D0) (hmax:Maps.size D0<=maxLen) (hbytes:Maps.size D0*16<=140737488355328) : CallsIn Fence.wide 5 prog 208 #[.func (.func 264) #[] #[.pointer (some ⟨w.heap.size,0,none⟩)]] (w.alloc (.cells #[.map (some b)] 165)) fun e w'=>∃ (v:ZC) (ss:List (List UInt8)),e=.returned v/\ss.Perm (strKeys D0) /\ w'.ownsRow (w.alloc (.cells #[.map (some b)] 165)).heap.size 9 1 v ss.length ((ss.mergeSort (fun x y=>ZH (x<=y))).map encStr)/\(v=.slice none 0 0↔ss=[])/\Below (w.alloc (.cells #[.map (some b)] 165)).heap.size (w.alloc (.cells #[.map (some b)] 165)) w':=by have hbl:=hown.lt;have hseq:SeqGives Fence.wide 2 prog 264 #[.pointer (some ⟨w.heap.size,0,none⟩)] encStr (fun ss=>ss.Perm (strKeys D0)) (Maps.size D0) (w.alloc (.cells #[.map (some b)] 165)) := AnyZ.keys_gives (ρ:=Tryz.mZ) { Tryz.rQ with } Fence.wide _ trivial rfl (by omega) w.heap.size b nn D0 _ (by simp) (by simp) (by obtain⟨es,clock,hb,Ft,hs,hD⟩:=hown;exact⟨es,clock,(Below.heap_alloc _ _ b hbl).trans hb,Ft,hs,hD⟩);exact AnyZ.sorted_in Tryz.sQ Fence.wide 5 trivial trivial trivial trivial rfl (by omega) (Tryz.tZ _) (enters_of func263 (by kernel_rfl) rfl) 264 #[.pointer (some ⟨w.heap.size,0,none⟩)] trivial (enters_of func264 (by kernel_rfl) rfl) _ _ hmax hbytes _ hseq
end
end Go.Proofs
namespace Go.Proofs.YtpkjhpenpfcpfaaGreatDoor
section
open Go.Lib Go.Proofs.Tryz Go.RowKit CH
theorem Hh {w:ZB} {b o:Nat} {l m:List ZC} (h:w.rangeAt b o (l++m)):w.rangeAt b o l:=fun j v hj=>h j v (by rw [Gh (lS hj)];exact hj)
theorem Dd {w:ZB} {b o:Nat} {l m:List ZC} (h:w.rangeAt b o (l++m)) (n:Nat) (hn:o+l.length=n):w.rangeAt b n m:=fun j v hj=>by have:=h (l.length+j) v (by rw [Fj oM,show l.length+j - l.length=j from by omega];exact hj);rw [<- hn,Jc];exact this
theorem Cg {w w':ZB} {B b o:Nat} {l:List ZC} (h:w.rangeAt b o l) (hb:Below B w w') (hlt:b<B):w'.rangeAt b o l:=fun j v hj=>(hb.cell (p:=⟨b,o+j,none⟩) hlt).trans (h j v hj)
theorem B7 (w:ZB) (l:List ZC) (T:TypeId):(w.alloc (.cells l.toArray T)).rangeAt w.heap.size 0 l:=fun j v hj=>by rw [Bh,Ab (Au w (.cells l.toArray T)) j];simpa using hj
theorem Nd {w:ZB} {b o:Nat} {l:List ZC} (h:w.rangeAt b o l) (x:Obj):(w.alloc x).rangeAt b o l:=fun j v hj=>by have hc:=h j v hj;exact (((Ac _ w).alloc nR x).cell (Ef w _ hc)).trans hc
theorem Qh (w:ZB) (T:TypeId):∀ (cs pre z:List ZC),z.length=cs.length->(w.alloc (.cells (pre++z).toArray T)).setCells w.heap.size pre.length cs=w.alloc (.cells (pre++cs).toArray T)
 |[],pre,z,h=>by
  have:z=[]:=Cb.1 (by simpa using h)
  subst this;rfl
 |v::cs,pre,z,h=>by
  cases z with
  |nil=>simp at h
  |cons u z =>
   rw [World.setCells,Jf _ _ _ _ _ rfl]
   have e:((pre++u::z).toArray.setIfInBounds pre.length v)=((pre++[v])++z).toArray:=sM
   rw [e]
   have:=Qh w T cs (pre++[v]) z (by simpa using h)
   rw [Aj,Dw] at this
   rw [this]
   simp
theorem Ca {P:Program} {ops:Array Oper} {rest:List Oper} {op:Oper} {a:Act} {w:ZB} {Q:Exit->Act->ZB->Prop} {z:Array ZC} {T:TypeId} (hgd:op.guard=none) (ty:TypeId) (x y:Operand) (ho:op.op=.store ty x y) (cs:List ZC) (hx:a.eval x=.pointer (some ⟨w,0,none⟩)) (hy:a.eval y=.agg cs.toArray) (hz:z.size=cs.length) (hi:(P.info? ty).map (·.size)=some cs.length) (h1:∀ v∈cs,v.oneCell'=true) (h:wpList P ops Q rest (a.put op.dst undef) (w.alloc (.cells cs.toArray T))):wpList P ops Q (op::rest) a (w.alloc (.cells z T)):=by
 refine Hg hgd ty x y ho w 0 cs.toArray hx hy (fun j hj=>?_) (by simpa using hi) (F9 h1) ?_;·rw [Bh];refine⟨?_,Bi (Au w _) j⟩;rw [Ab (Au w _) j,Ho (by rw [hz];simpa using hj)];rfl
 ·have:=Qh w T cs [] z.toList (by simpa using hz);simp only [Dp,Bj] at this;rw [show z=z.toList.toArray from by simp,this];exact h
theorem Ex2:∀ (cs pre z:List ZC),z.length=cs.length->List.foldl (fun (c:Array ZC) (x:ZC × Nat)=>c.setIfInBounds x.2 x.1) (pre++z).toArray (cs.zipIdx pre.length)=(pre++cs).toArray
 |[],pre,z,h=>by
  have:z=[]:=Cb.1 (by simpa using h)
  subst this;rfl
 |v::cs,pre,z,h=>by
  cases z with
  |nil=>simp at h
  |cons u z =>
   rw [List.zipIdx_cons,Nw]
   have e:((pre++u::z).toArray.setIfInBounds pre.length v)=((pre++[v])++z).toArray:=sM
   dsimp only
   rw [e]
   have:=Ex2 cs (pre++[v]) z (by simpa using h)
   rw [Aj,Dw] at this
   rw [this]
   simp
theorem Tu (cs:List ZC) (z:Array ZC) (h:z.size=cs.length):List.foldl (fun (c:Array ZC) (x:ZC × Nat)=>c.setIfInBounds x.2 x.1) z cs.zipIdx=cs.toArray:=by have:=Ex2 cs [] z.toList (by simpa using h);simpa using this
end
end Go.Proofs.YtpkjhpenpfcpfaaGreatDoor
namespace CH
section
open Go.Sort
section
variable {α:Type} [Inhabited α]
theorem Abn (l m:List α) (x y:α):swp (l++x::y::m).toArray (l.length+1) l.length=(l++y::x::m).toArray:=by have hx:(l++x::y::m).toArray[l.length]! =x:=sM;have hy:(l++x::y::m).toArray[l.length+1]! =y:=sM;unfold swp;rw [hx,hy];simp
theorem Aa1 (L:List α) (j:Nat) (h:j+1<L.length):∃ l x y m,L=l++x::y::m/\L.toArray[j]! =x/\L.toArray[j+1]! =y/\(swp L.toArray (j+1) j).toList=l++y::x::m:=by
 have e1:L=L.take j++L[j]::L[j+1]::L.drop (j+2):=by conv=>lhs;rw [<- En j L,Gx oM,Gx oM]
 have hx:L.toArray[j]! =L[j]:=by simp [show j<L.length from by omega]
 have hy:L.toArray[j+1]! =L[j+1]:=by simp [h]
 refine⟨L.take j,L[j],L[j+1],L.drop (j+2),e1,hx,hy,?_⟩;have ht:(L.take j).length=j:=by rw [Ec];omega
 have:=Abn (L.take j) (L.drop (j+2)) L[j] L[j+1];rw [<- e1,ht] at this;rw [this]
theorem Rh {lt:α->α->Bool} {I:List α->Prop} (hI:∀ (l m:List α) (x y:α),lt y x=true->I (l++x::y::m)->I (l++y::x::m)) (a:Nat):∀ (j:Nat) (L:List α),j<L.length->I L->I (insInner lt a j L.toArray).toList/\(insInner lt a j L.toArray).size=L.length
 |0,L,_,h=>⟨h,rfl⟩
 |j+1,L,hj,h=>by
  rw [insInner]
  split
  ·rename_i hc
   simp only [Ar,Bl] at hc
   obtain⟨l,x,y,m,e,hx,hy,hs⟩:=Aa1 L j hj
   rw [hx,hy] at hc
   have h':=hI l m x y hc.2 (e ▸ h)
   have hl:(l++y::x::m).length=L.length:=by rw [e];simp
   have:=Rh hI a j (l++y::x::m) oM h'
   rw [show swp L.toArray (j+1) j=(l++y::x::m).toArray from by rw [<- hs]]
   exact⟨this.1,this.2.trans hl⟩
  ·exact⟨h,rfl⟩
theorem Q9 {lt:α->α->Bool} {I:List α->Prop} (hI:∀ (l m:List α) (x y:α),lt y x=true->I (l++x::y::m)->I (l++y::x::m)) (a b:Nat):∀ (n i:Nat) (L:List α),b - i<=n->b<=L.length->I L->I (insOuter lt a b i L.toArray).toList
 |0,i,L,hn,hb,h=>by
  rw [insOuter,Af oM];exact h
 |n+1,i,L,hn,hb,h=>by
  rw [insOuter]
  split
  ·rename_i hi
   have h1:=Rh hI a i L oM h
   have:=Q9 hI a b n (i+1) (insInner lt a i L.toArray).toList oM (by rw [Ip];omega) h1.1
   exact this
  ·exact h
theorem fV {lt:α->α->Bool} {I:List α->Prop} (hI:∀ (l m:List α) (x y:α),lt y x=true->I (l++x::y::m)->I (l++y::x::m)) (L:List α) (h:I L):I (insertionSort lt L.toArray 0 L.length).toList := Q9 hI 0 L.length L.length 1 L oM nR h
end
theorem Aal {α:Type} [DecidableEq α]:∀ (l m:List α),l.Nodup->(∀ x∈l,x∈m)->l.length<=m.length
 |[],_,_,_=>Bd _
 |x::l,m,hn,h=>by
  have hx:x∈m:=h x sM
  have hn':=Ls.1 hn
  have:=Aal l (m.erase x) hn'.2 (fun y hy=>(List.mem_erase_of_ne (fun e=>hn'.1 (by rw [<- e];exact hy))).2 (h y (by simp [hy])))
  rw [List.length_erase_of_mem hx] at this
  have:=Kv hx
  simp only [Az]
  omega
def bH {β:Type} (p:Int × Int):List ((Int × Int) × β)->Option β
 |[]=>none
 |(q,x)::l=>if p==q then some x else bH p l
theorem iV {β:Type} {p:Int × Int} {x:β}:∀ {l:List ((Int × Int) × β)},bH p l=some x->(p,x)∈l
 |[],h=>by cases h
 |(q,y)::l,h=>by
  rw [bH] at h
  split at h
  ·rename_i e
   cases h
   rw [Dz.1 e]
   exact List.mem_cons_self
  ·exact Gj _ (iV h)
section
variable (msg:Version->Str) (chk:Version->Str->Bool)
def follow (known:List ((Int × Int) × Version)) (a:Int):Nat->List Version->Str->Int->List Version × Str
 |0,out,head,_=>(out,head)
 |f+1,out,head,last=>match bH (a,(out.length:Int)+1) known with
  |none=>(out,head)
  |some v=>if v.prev != head||ZH (v.pos<last) then (out,head) else follow known a f (out++[v]) (msg v) v.pos
structure Good (keys:List Str) (known:List ((Int × Int) × Version)):Prop where
 key:∀ p v,(p,v)∈known->p=(v.authority,v.number)
 number:∀ p v,(p,v)∈known->1<=v.number/\v.number<=200
 authority:∀ p v,(p,v)∈known->0<=v.authority/\v.authority<keys.length
 check:∀ p v,(p,v)∈known->chk v (keys.getD v.authority.toNat [])=true
def Aat (l:List Version):Str:=match l.getLast? with|none=>[]|some v=>msg v
structure Fol (known:List ((Int × Int) × Version)) (a:Int) (l:List Version) (h:Str) (last:Int):Prop where
 look:∀ (j:Nat) (v:Version),l[j]?=some v->bH (a,(j:Int)+1) known=some v
 prev:∀ (j:Nat) (v:Version),l[j]?=some v->v.prev=Aat msg (l.take j)
 sorted:l.Pairwise fun x y=>x.pos<=y.pos
 head:h=Aat msg l
 last:∀ v∈l,v.pos<=last
theorem Fol.nil (known:List ((Int × Int) × Version)) (a:Int):Fol msg known a [] [] 0:=⟨fun j v h=>by simp at h,fun j v h=>by simp at h,.nil,rfl,fun v h=>by cases h⟩
theorem Fol.snoc {known:List ((Int × Int) × Version)} {a:Int} {l:List Version} {h:Str} {last:Int} (F:Fol msg known a l h last) {v:Version} (hv:bH (a,(l.length:Int)+1) known=some v) (hp:v.prev=h) (hl:last<=v.pos):Fol msg known a (l++[v]) (msg v) v.pos:=by
 refine⟨fun j u hj=>?_,fun j u hj=>?_,?_,?_,fun u hu=>?_⟩
 ·rcases Kz j l.length with h1|h1|h1;·rw [Gh h1] at hj;exact F.look j u hj
  ·subst h1;simp at hj;subst hj;exact hv
  ·rw [Fj oM,Gm (by simp;omega)] at hj;cases hj
 ·rcases Kz j l.length with h1|h1|h1;·rw [Gh h1] at hj;rw [List.take_append_of_le_length oM];exact F.prev j u hj
  ·subst h1;simp at hj;subst hj;rw [List.take_left,hp];exact F.head
  ·rw [Fj oM,Gm (by simp;omega)] at hj;cases hj
 ·rw [Ju];refine⟨F.sorted,sM,fun x hx y hy=>?_⟩;cases Bv.1 hy;exact Int.le_trans (F.last x hx) hl
 ·simp [Aat]
 ·rcases Di.1 hu with h1|h1;·exact Int.le_trans (F.last u h1) hl
  ·cases Bv.1 h1;exact Int.le_refl _
theorem X6 {known:List ((Int × Int) × Version)} {a:Int}:∀ (f:Nat) (l:List Version) (h:Str) (last:Int),Fol msg known a l h last->∃ last',Fol msg known a (follow msg known a f l h last).1 (follow msg known a f l h last).2 last'
 |0,l,h,last,F=>⟨last,F⟩
 |f+1,l,h,last,F=>by
  rw [follow]
  split
  ·exact⟨last,F⟩
  ·rename_i v hv
   split
   ·exact⟨last,F⟩
   ·rename_i hc
    simp only [Dq,bne_iff_ne,Bl,Jy,Int.not_lt,ne_eq,Decidable.not_not] at hc
    exact X6 f _ _ _ (F.snoc msg hv hc.1 hc.2)
def fol (known:List ((Int × Int) × Version)) (a:Int):List Version × Str:=follow msg known a 201 [] [] 0
theorem Vq (known:List ((Int × Int) × Version)) (a:Int):∃ last,Fol msg known a (fol msg known a).1 (fol msg known a).2 last:=X6 msg 201 [] [] 0 (Fol.nil msg known a)
def bF (known:List ((Int × Int) × Version)):Nat->List Version
 |0=>[]
 |n+1=>bF known n++(fol msg known n).1
variable {msg chk} {keys:List Str} {known:List ((Int × Int) × Version)}
theorem N9 (hG:Good chk keys known) (a:Int):∀ v∈(fol msg known a).1,v.authority=a:=fun v hv=>by obtain⟨last,F⟩:=Vq msg known a;obtain⟨j,hj⟩:=Dy.1 hv;have:=hG.key _ _ (iV (F.look j v hj));exact (congrArg Prod.fst this).symm
theorem X9 (hG:Good chk keys known) (a:Int) (j:Nat) (v:Version) (hv:(fol msg known a).1[j]?=some v):v.number=j+1:=by obtain⟨last,F⟩:=Vq msg known a;have:=hG.key _ _ (iV (F.look j v hv));exact (congrArg Prod.snd this).symm
theorem Abr (a:Int):∀ v∈(fol msg known a).1,∃ p,(p,v)∈known:=fun v hv=>by obtain⟨last,F⟩:=Vq msg known a;obtain⟨j,hj⟩:=Dy.1 hv;exact⟨_,iV (F.look j v hj)⟩
theorem Pn:∀ (n:Nat),∀ v∈bF msg known n,∃ p,(p,v)∈known
 |0,v,h=>by cases h
 |n+1,v,h=>by
  rcases Di.1 h with h|h
  ·exact Pn n v h
  ·exact Abr _ v h
theorem Oo (hG:Good chk keys known):∀ (n:Nat),∀ v∈bF msg known n,v.authority<n
 |0,v,h=>by cases h
 |n+1,v,h=>by
  rcases Di.1 h with h|h
  ·have:=Oo hG n v h;omega
  ·have:=N9 hG _ v h;omega
def Aak (x y:Version):Prop:=x.authority<y.authority\/x.authority=y.authority/\x.number<y.number
theorem Ny (hG:Good chk keys known):∀ (n:Nat),(bF msg known n).Pairwise Aak
 |0=>.nil
 |n+1=>by
  unfold bF
  rw [Ju]
  refine⟨Ny hG n,?_,fun x hx y hy=>.inl ?_⟩
  ·rw [I5]
   intro i j hi hj hij
   refine .inr ⟨?_,?_⟩
   ·rw [N9 hG _ _ (J4 hi),N9 hG _ _ (J4 hj)]
   ·rw [X9 hG _ i _ (Ad hi),X9 hG _ j _ (Ad hj)]
    omega
  ·have h1:=Oo hG n x hx
   have h2:=N9 hG _ y hy
   omega
theorem oK (hG:Good chk keys known) (n:Nat):(bF msg known n).length<=known.length:=by
 have h:=Aal ((bF msg known n).map fun v=>(v.authority,v.number)) (known.map (·.1)) ?_ ?_;·simpa using h
 ·rw [List.nodup_iff_pairwise_ne,List.pairwise_map];refine (Ny hG n).imp ?_;rintro x y h e;simp only [Gg] at e;rcases h with h|h <;> omega
 ·intro p hp;obtain⟨v,hv,rfl⟩:=Eo.1 hp;obtain⟨p,hp⟩:=Pn n v hv;exact Eo.2 ⟨_,hp,hG.key _ _ hp⟩
theorem Po (hG:Good chk keys known) (a:Int) (n:Nat) (h:(n:Int)<=a):(bF msg known n).filter (fun v=>v.authority==a)=[]:=by rw [Kw];intro v hv;have:=Oo hG n v hv;simp;omega
theorem Aau (hG:Good chk keys known) (a b:Int):(fol msg known b).1.filter (fun v=>v.authority==a)=if a=b then (fol msg known b).1 else []:=by
 split;·rename_i e;rw [List.filter_eq_self];intro v hv;simp [N9 hG _ v hv,e]
 ·rename_i e;rw [Kw];intro v hv;simp [N9 hG _ v hv];omega
theorem Ov (hG:Good chk keys known) (a:Nat):∀ (n:Nat),a<n->(bF msg known n).filter (fun v=>v.authority==(a:Int))=(fol msg known a).1
 |0,h=>by omega
 |n+1,h=>by
  unfold bF
  rw [Na,Aau hG]
  by_cases e:a=n
  ·subst e
   rw [Ap rfl,Po hG _ _ (Int.le_refl _)]
   rfl
  ·rw [Af oM,Gy]
   exact Ov hG a n oM
theorem Oj (hG:Good chk keys known) (n:Nat) (a:Int):((bF msg known n).filter (fun v=>v.authority==a)).Pairwise fun x y=>x.pos<=y.pos:=by
 by_cases h:0<=a/\a<n
 ·obtain⟨k,rfl⟩:∃ k:Nat,a=k:=⟨a.toNat,oM⟩
  rw [Ov hG k n oM];obtain⟨last,F⟩:=Vq msg known k;exact F.sorted
 ·have:(bF msg known n).filter (fun v=>v.authority==a)=[]:=by rw [Kw];intro v hv;have h1:=Oo hG n v hv;obtain⟨p,hp⟩:=Pn n v hv;have h2:=(hG.authority _ _ hp).1;simp;omega
  rw [this];exact .nil
instance : Inhabited Version := ⟨⟨0, 0, 0, [], [], ⟨0, [], []⟩⟩⟩
def iM (x y:Version):Bool:=ZH (x.pos<y.pos)
def versions (msg:Version->Str) (known:List ((Int × Int) × Version)) (n:Nat):List Version:=(insertionSort iM (bF msg known n).toArray 0 (bF msg known n).length).toList
theorem Aa2:SWO iM:=by constructor;all_goals (intros;simp_all [iM];try omega)
structure Sorted (C L:List Version):Prop where
 filter:∀ a:Int,L.filter (fun v=>v.authority==a)=C.filter (fun v=>v.authority==a)
 stable:L.Pairwise fun x y=>x.pos=y.pos->x.authority<=y.authority
theorem Sorted.swap {C:List Version} (hC:∀ a:Int,(C.filter (fun v=>v.authority==a)).Pairwise fun x y=>x.pos<=y.pos) (l m:List Version) (x y:Version) (hlt:iM y x=true) (h:Sorted C (l++x::y::m)):Sorted C (l++y::x::m):=by
 have hlt':y.pos<x.pos:=by simpa [iM] using hlt
 refine⟨fun a=>?_,?_⟩
 ·rw [<- h.filter a];by_cases h1:x.authority=a <;> by_cases h2:y.authority=a;·exfalso;have h3:=hC a;rw [<- h.filter a,Na,List.filter_cons_of_pos (by simp [h1]),List.filter_cons_of_pos (by simp [h2]),Ju] at h3;have:=(Ji.1 h3.2.1).1 y sM;omega
  all_goals simp [Na,h1,h2]
 ·have h3:=h.stable;rw [Ju] at h3 ⊢;obtain⟨p1,p2,p3⟩:=h3;rw [Ji,Ji] at p2;refine⟨p1,?_,fun a ha b hb=>p3 a ha b ?_⟩
  ·rw [Ji,Ji];refine⟨fun b hb e=>?_,fun b hb=>p2.1 b (by simp [hb]),p2.2.2⟩;rcases A8.1 hb with rfl|hb;·omega
   ·exact p2.2.1 b hb e
  ·simp only [A8] at hb ⊢;rcases hb with h|h|h;·exact .inr (.inl h)
   ·exact .inl h
   ·exact .inr (.inr h)
theorem U2 (hG:Good chk keys known) (n:Nat):Sorted (bF msg known n) (versions msg known n):=by refine fV (I:=Sorted (bF msg known n)) (fun l m x y=>Sorted.swap (Oj hG n) l m x y) _ ⟨fun _=>rfl,(Ny hG n).imp ?_⟩;rintro x y h _;rcases h with h|h <;> omega
theorem Aah (known:List ((Int × Int) × Version)) (n:Nat):(versions msg known n).Pairwise fun x y=>x.pos<=y.pos:=by have h:=insertionSort_holds (lt:=iM) Aa2 (bF msg known n).toArray 0 (bF msg known n).length (Bd _) nR;have hs:=h.1.1;unfold versions;generalize insertionSort iM (bF msg known n).toArray 0 (bF msg known n).length=D at *;rw [I5];intro i j hi hj hij;rw [Ip] at hi hj;have:=h.2 i j (Bd _) hij (by rw [hs] at hj;simpa using hj);rw [getElem!_pos D i hi,getElem!_pos D j hj] at this;simp only [Array.getElem_toList];simpa [iM] using this
theorem dP {β:Type} (l:List β) (i:Nat) (x d:β) (h:i<l.length):(l.set i x).getD i d=x:=by simp [List.getD_eq_getElem?_getD,h]
theorem getD_set_ne {β:Type} (l:List β) (i j:Nat) (x d:β) (h:i≠j):(l.set i x).getD j d=l.getD j d:=by simp [List.getD_eq_getElem?_getD,h]
end
abbrev Known:=List ((Int × Int) × Version)
abbrev Forks:=List ((Int × Int) × (Version × Version))
def kM (p:Int × Int) (f:Version × Version) (forks:Forks):Forks:=match bH p forks with
 |none=>forks++[(p,f)]
 |some _=>forks
end
section
def gU (chk:Version->Str->Bool) (keys:List Str) (known:Known) (forks:Forks) (v:Version):Int × Known × Forks :=
 match dD v with
 |.error _=>(1,known,forks)
 |.ok _ =>
  if ZH (v.authority >= keys.length) then (1,known,forks)
  else if !chk v (keys.getD v.authority.toNat []) then (16,known,forks)
  else match bH (v.authority,v.number) known with
   |none=>(0,known++[((v.authority,v.number),v)],forks)
   |some old=>if (bare old).getD []==(bare v).getD [] then (0,known,forks)
    else (17,known,kM (v.authority,v.number) (old,v) forks)
theorem Z4 {n most:Int} (h:within n most=true):0<=n/\n<=most:=by simpa [within] using h
theorem Aae {v:Version} {u:Str} (h:bare v=some u):0<=v.authority/\1<=v.number/\v.number<=200:=by
 unfold bare at h;split at h;·cases h
 ·rename_i hc;simp only [Dq,Fg,Jy,Jb,Ar,Bl] at hc;obtain⟨⟨⟨⟨⟨h1,h2⟩,_⟩,_⟩,_⟩,_⟩:=hc;have:=Z4 h1;omega
theorem jH {v:Version} {t:Str} (h:dD v=.ok t):0<=v.authority/\1<=v.number/\v.number<=200:=by
 unfold dD at h;cases hb:bare v with
 |none=>rw [hb] at h;cases h
 |some u=>exact Aae hb
theorem Px {P:Int × Known × Forks->Prop} (chk:Version->Str->Bool) (keys:List Str) (known:Known) (forks:Forks) (v:Version) (h0:∀ e f,P (e,known,f)) (h1:∀ t,dD v=.ok t->v.authority<keys.length->chk v (keys.getD v.authority.toNat [])=true->bH (v.authority,v.number) known=none->P (0,known++[((v.authority,v.number),v)],forks)):P (gU chk keys known forks v):=by
 unfold gU;split;·exact h0 _ _
 ·rename_i t ht;split;·exact h0 _ _
  ·rename_i ha;split;·exact h0 _ _
   ·rename_i hc;split;·rename_i hl;exact h1 t ht (by simpa using ha) (by simpa using hc) hl
    ·split <;> exact h0 _ _
theorem Aba {chk:Version->Str->Bool} {keys:List Str} {known:Known} (hG:Good chk keys known) (forks:Forks) (v:Version):Good chk keys (gU chk keys known forks v).2.1:=by
 refine Px (P:=fun r=>Good chk keys r.2.1) chk keys known forks v (fun _ _=>hG) fun t ht ha hc _=>?_;have hn:=jH ht;have key:∀ p u,(p,u)∈known++[((v.authority,v.number),v)]->(p,u)∈known\/p=(v.authority,v.number)/\u=v:=fun p u hp=>by
  rcases Di.1 hp with h|h;·exact .inl h
  ·cases Bv.1 h;exact .inr ⟨rfl,rfl⟩
 refine⟨fun p u hp=>?_,fun p u hp=>?_,fun p u hp=>?_,fun p u hp=>?_⟩;all_goals rcases key p u hp with h|⟨rfl,rfl⟩
 ·exact hG.key _ _ h
 ·rfl
 ·exact hG.number _ _ h
 ·exact⟨hn.2.1,hn.2.2⟩
 ·exact hG.authority _ _ h
 ·exact⟨hn.1,ha⟩
 ·exact hG.check _ _ h
 ·exact hc
theorem Aaq (chk:Version->Str->Bool) (keys:List Str) (known:Known) (forks:Forks) (v:Version):(gU chk keys known forks v).2.1.length<=known.length+1 := Px (P:=fun r=>r.2.1.length<=known.length+1) chk keys known forks v (fun _ _=>Iu _) fun _ _ _ _ _=>by simp
def dM (chk:Version->Str->Bool) (keys:List Str):List Version->Known->Forks->Known × Forks
 |[],known,forks=>(known,forks)
 |v::l,known,forks=>dM chk keys l (gU chk keys known forks v).2.1 (gU chk keys known forks v).2.2
theorem iG {chk:Version->Str->Bool} {keys:List Str}:∀ (l:List Version) (known:Known) (forks:Forks),Good chk keys known->Good chk keys (dM chk keys l known forks).1
 |[],_,_,h=>h
 |v::l,_,forks,h=>iG l _ _ (Aba h forks v)
theorem kX {chk:Version->Str->Bool} {keys:List Str}:∀ (l:List Version) (known:Known) (forks:Forks),(dM chk keys l known forks).1.length<=known.length+l.length
 |[],_,_=>Bo _
 |v::l,known,forks=>by
  have h1:=kX (chk:=chk) (keys:=keys) l (gU chk keys known forks v).2.1 (gU chk keys known forks v).2.2
  have h2:=Aaq chk keys known forks v
  rw [dM,Az]
  omega
theorem ni (chk:Version->Str->Bool) (keys:List Str):∀ (l:List Version) (v:Version) (known:Known) (forks:Forks),dM chk keys (l++[v]) known forks=(gU chk keys (dM chk keys l known forks).1 (dM chk keys l known forks).2 v).2
 |[],_,_,_=>rfl
 |_::l,v,_,_=>ni chk keys l v _ _
theorem l7 (chk:Version->Str->Bool) (keys:List Str):Good chk keys []:=⟨fun _ _ h=>(by cases h),fun _ _ h=>(by cases h),fun _ _ h=>(by cases h),fun _ _ h=>(by cases h)⟩
end
end CH
namespace CH
def eF (l:List Str) (most:Nat):Bool:=l.all (fun s=>ZH (s.length<=60))&&ZH (l.length<=most)
def iR (n:Name):Bool:=(n.words.take 20).all (fun s=>ZH (s.length<=100))&&ZH (n.words.length<=20)
def kD (e:Entry):Bool:=(e.names.take 10).all iR&&(ZH (e.id.length<=100)&&ZH (e.names.length<=10))
def iY (c:Change):Bool:=ZH (c.id.length<=100)&&kD c.entry
theorem fK {α:Type} (p:α->Bool) (l:List α) (k:Nat) (x:α) (h:l[k]?=some x):(l.take (k+1)).all p=((l.take k).all p&&p x):=by rw [CH.aK l k x h,Io];simp
theorem gy {α:Type} (p:α->Bool) (l:List α) (k:Nat) (x:α) (h:l[k]?=some x) (hp:p x=false):l.all p=false:=by rw [Jr];exact⟨x,Aw h,by simp [hp]⟩
end CH
namespace Go.Proofs.YtpkjhpenpfcpfaaGreatDoor
open Go.RowKit Go.Lib CH
theorem Q4 (v:ZC) (ls:List (List UInt8)) (most:Nat) (w:ZB) (hv:Strs w w v ls) : ZE Tryz.prog 19 #[v,↑most] w (Ret w (.bool (eF ls most))):=by
 obtain⟨a,cap,rfl,hl,hcap,hne⟩:=hv;obtain⟨R,hR⟩:∃ R,Hid (eF ls most=R):=⟨_,Aa rfl⟩
 rw [hR.out];have hne:=Aa hne;obtain⟨N,hN⟩:∃ N,ls.length=N:=⟨_,rfl⟩
 rw [hN] at hl ⊢;have hN:=Aa hN;go_enter Tryz.func19,Tryz.ntmps19;go_wp2_with fail;go_loopw [5] (fun i wr=>∃ k:Nat,k<=N/\i=↑k/\wr=w/\Hid ((ls.take k).all (fun s=>ZH (s.length<=60))=true)) (fun i _=>N - (ZG i).toNat);case atStart=>exact⟨0,Bd _,rfl,rfl,Aa rfl⟩
 case round =>
  obtain⟨k,hk,rfl,rfl,hI⟩:=hrel;by_cases hlt:k<N
  ·obtain⟨b,off,rfl,hbl,hcells⟩:=hne.out (by intro h;have:=hN.out;simp [h] at this;omega);obtain⟨l,hl'⟩:∃ l,ls[k]?=some l:=⟨_,Ad (by rw [hN.out];exact hlt)⟩
   have hcell:=hcells k l hl';clear hcells;have hl':=Aa hl';obtain⟨m,hm⟩:∃ m,l.length=m:=⟨_,rfl⟩
   by_cases h60:m<=60
   ·have d:ZH ((60:Int)<(m:Int))=false:=by simp;omega
    have hI':Hid ((ls.take (k+1)).all (fun s=>ZH (s.length<=60))=true):=Aa (by rw [fK _ ls k l hl'.out,hI.out,hm];simpa using h60);go_wp2;go_roundw;case rel=>exact⟨k+1,oM,by go_num,by first|rfl|trivial,hI'⟩
    case measure=>simp [ZG];omega
   ·have d:ZH ((60:Int)<(m:Int))=true:=by simp;omega
    go_wp2;go_ret;exact⟨by rw [<- hR.out];unfold eF;rw [gy _ ls k l hl'.out (by rw [hm];simpa using h60)];rfl,Below.refl _ _⟩
  ·obtain rfl:k=N:=oM;have hall:ls.all (fun s=>ZH (s.length<=60))=true:=by have:=hI.out;rwa [<- hN.out,Dv] at this
   go_wp2;go_ret;refine⟨?_,Ac _ _⟩;rw [<- hR.out];unfold eF;rw [hall,hN.out,a_Bool_true_and];congr 2;try (rw [Em];omega)
theorem E3a (sc:Int) (v:ZC) (ls:List (List UInt8)) (w:ZB) (hv:Strs w w v ls) : ZE Tryz.prog 155 #[.agg #[↑sc,v]] w (Ret w (.bool (iR ⟨sc,ls⟩))):=by
 obtain⟨a,cap,rfl,hl,hcap,hne⟩:=hv;obtain⟨R,hR⟩:∃ R,Hid (iR ⟨sc,ls⟩=R):=⟨_,Aa rfl⟩
 rw [hR.out];have hR1:Hid (((ls.take 20).all (fun s=>ZH (s.length<=100))&&ZH (ls.length<=20))=R):=Aa hR.out;clear hR;have hne:=Aa hne;obtain⟨N,hN⟩:∃ N,ls.length=N:=⟨_,rfl⟩
 rw [hN] at hl hR1 ⊢;have hN:=Aa hN;have hB0:=fun o=>(Ac _ w).alloc nR o;go_enter Tryz.func155,Tryz.ntmps155;go_wp2_with fail;generalize hWd:w.alloc _=W at *;have c1:W.cell? ⟨w,1,none⟩=some (.slice a N cap):=by rw [<- hWd];exact Ab (Au w _) 1
 have hBW:Below w w W:=by rw [<- hWd];exact hB0 _
 clear hWd hB0;go_loopw [3] (fun i wr=>∃ k:Nat,k<=N/\k<=20/\i=↑k/\wr=W/\Hid ((ls.take k).all (fun s=>ZH (s.length<=100))=true)) (fun i _=>20 - (ZG i).toNat);case atStart=>exact⟨0,Bd _,Bd _,rfl,rfl,Aa rfl⟩
 case round =>
  obtain⟨k,hk,JI,rfl,rfl,hI⟩:=hrel;by_cases hlt:k<N/\k<20
  ·obtain⟨hlt,zy⟩:=hlt;obtain⟨b,off,rfl,hbl,hcells⟩:=hne.out (by intro h;have:=hN.out;simp [h] at this;omega);obtain⟨l,hl'⟩:∃ l,ls[k]?=some l:=⟨_,Ad (by rw [hN.out];exact hlt)⟩
   have hcell:=(hBW.cell (p:=⟨b,off+k,none⟩) hbl).trans (hcells k l hl');clear hcells;have hl':=Aa hl';obtain⟨m,hm⟩:∃ m,l.length=m:=⟨_,rfl⟩
   have d1:ZH ((k:Int)<(N:Int))=true:=by simp;omega
   have d2:ZH ((k:Int)<20)=true:=by simp;omega
   by_cases h60:m<=100
   ·have d:ZH ((100:Int)<(m:Int))=false:=by simp;omega
    have hI':Hid ((ls.take (k+1)).all (fun s=>ZH (s.length<=100))=true):=Aa (by rw [fK _ ls k l hl'.out,hI.out,hm];simpa using h60);go_wp2;go_roundw;case rel=>exact⟨k+1,oM,oM,by go_num,by first|rfl|trivial,hI'⟩
    case measure=>simp [ZG];omega
   ·have d:ZH ((100:Int)<(m:Int))=true:=by simp;omega
    go_wp2;go_ret;refine⟨?_,hBW⟩;rw [<- hR1.out,gy _ (ls.take 20) k l (by rw [Ja zy];exact hl'.out) (by rw [hm];simpa using h60)];rfl
  ·have hall:(ls.take 20).all (fun s=>ZH (s.length<=100))=true:=by
    have hi:=hI.out;by_cases h20:k=20;·rwa [h20] at hi
    ·exact FD131
   have hfin:Hid (ZH (N<=20)=R):=Aa (by rw [<- hR1.out,hall];rfl);have e20:ZH ((N:Int)<=20)=ZH (N<=20):=by rw [Em];omega
   by_cases h1:k<N
   ·have d1:ZH ((k:Int)<(N:Int))=true:=by simp;omega
    have d2:ZH ((k:Int)<20)=false:=by simp;omega
    go_wp2;go_ret;exact⟨by rw [<- hfin.out,<- e20];rfl,hBW⟩
   ·have d1:ZH ((k:Int)<(N:Int))=false:=by simp;omega
    go_wp2;go_ret;exact⟨by rw [<- hfin.out,<- e20];rfl,hBW⟩
end Go.Proofs.YtpkjhpenpfcpfaaGreatDoor
namespace Go.Proofs.YtpkjhpenpfcpfaaGreatDoor
section
open Go.Lib Go.Proofs.Tryz Go.RowKit CH
def Ge (B:Nat) (w:ZB) (v:ZC) (ns:List CH.Name):Prop := ∃ a cap,v=.slice a ns.length cap/\ns.length<=cap/\cap<=9223372036854775807 /\ (ns≠[]->∃ b off,a=some ⟨b,off,none⟩/\b<B/\∀ j n,ns[j]?=some n->∃ vw,w.cell? ⟨b,off+j*2,none⟩=some ↑n.script/\w.cell? ⟨b,off+j*2+1,none⟩=some vw/\Strs B w vw n.words)
theorem B11 (e:CH.Entry) (v:ZC) (w:ZB) (hv:Ge w w v e.names) : ZE prog 97 #[.agg #[↑e.id,v]] w (Ret w (.bool (kD e))):=by
 obtain⟨id,ls⟩:=e;obtain⟨a,cap,rfl,hl,hcap,hne⟩:=hv;dsimp only at *;obtain⟨R,hR⟩:∃ R,Hid (kD ⟨id,ls⟩=R):=⟨_,Aa rfl⟩
 rw [hR.out];have hR1:Hid (((ls.take 10).all iR&&(ZH (id.length<=100)&&ZH (ls.length<=10)))=R):=Aa hR.out;clear hR;have hne:=Aa hne;obtain⟨N,hN⟩:∃ N,ls.length=N:=⟨_,rfl⟩
 rw [hN] at hl hR1 ⊢;have hN:=Aa hN;have hB0:=fun o=>(Ac _ w).alloc nR o;go_enter func97,ntmps97;go_wp2_with fail;generalize hWd:w.alloc _=W at *;have c0:W.cell? ⟨w,0,none⟩=some ↑id:=by rw [<- hWd];exact Ab (Au w _) 0
 have c1:W.cell? ⟨w,1,none⟩=some (.slice a N cap):=by rw [<- hWd];exact Ab (Au w _) 1
 have hBW:Below w w W:=by rw [<- hWd];exact hB0 _
 have hlW:w.heap.size<W.heap.size:=by rw [<- hWd];simp
 clear hWd hB0;go_loopw [3] (fun i wr=>∃ k:Nat,k<=N/\k<=10/\i=↑k/\Hid (Below W W wr)/\Hid ((ls.take k).all iR=true)) (fun i _=>10 - (ZG i).toNat);case atStart=>exact⟨0,Bd _,Bd _,rfl,Aa (Ac _ _),Aa rfl⟩
 case round =>
  obtain⟨k,hk,hk10,rfl,hBr,hI⟩:=hrel;have k0:=(hBr.out.cell (p:=⟨w,0,none⟩) hlW).trans c0;have k1:=(hBr.out.cell (p:=⟨w,1,none⟩) hlW).trans c1;have hBw:Below w w wr:=hBW.trans (hBr.out.mono hBW.size);by_cases hlt:k<N/\k<10
  ·obtain⟨hlt,zB⟩:=hlt;obtain⟨b,off,rfl,hbl,hcells⟩:=hne.out (by intro h;have:=hN.out;simp [h] at this;omega);obtain⟨n,hn'⟩:∃ n,ls[k]?=some n:=⟨_,Ad (by rw [hN.out];exact hlt)⟩
   obtain⟨vw,d1,d2,d3⟩:=hcells k n hn';have e1:=(hBw.cell (p:=⟨b,off+k*2,none⟩) hbl).trans d1;have e2:=(hBw.cell (p:=⟨b,off+k*2+1,none⟩) hbl).trans d2;have F:=Aa (E3a n.script vw n.words wr ((d3.below hBw nR).mono hBw.size));clear hcells d1 d2;have hn':=Aa hn';have q1:ZH ((k:Int)<(N:Int))=true:=by simp;omega
   have q2:ZH ((k:Int)<10)=true:=by simp;omega
   obtain⟨fb,hfb⟩:∃ fb,Hid (iR n=fb):=⟨_,Aa rfl⟩
   have F:Hid (ZE prog 155 #[.agg #[↑n.script,vw]] wr (Ret wr (.bool fb))):=Aa (by rw [<- hfb.out];exact F.out);obtain⟨vwa,vwc,rfl,_,_⟩:=d3;generalize n.words.length=nw at *;go_wp2_with fail;refine F.out.mono ?_;rintro e w1 ⟨rfl,hb1⟩;clear F;cases fb with
   |true =>
    have hI':Hid ((ls.take (k+1)).all iR=true):=Aa (by rw [fK _ ls k n hn'.out,hI.out,hfb.out];rfl);have hB1:Hid (Below W W w1):=Aa (hBr.out.trans (hb1.mono hBr.out.size));go_wp2;go_roundw;case rel=>exact⟨k+1,oM,oM,by go_num,hB1,hI'⟩
    case measure=>simp [ZG];omega
   |false =>go_wp2;go_ret;refine⟨?_,hBw.trans (hb1.mono hBw.size)⟩;rw [<- hR1.out,gy _ (ls.take 10) k n (by rw [Ja zB];exact hn'.out) hfb.out];rfl
  ·have hall:(ls.take 10).all iR=true:=by
    have hi:=hI.out;by_cases h10:k=10;·rwa [h10] at hi
    ·exact FD131
   have e10:ZH ((N:Int)<=10)=ZH (N<=10):=by rw [Em];omega
   obtain⟨m,hm⟩:∃ m,id.length=m:=⟨_,rfl⟩
   have e100:ZH ((m:Int)<=100)=ZH (id.length<=100):=by rw [hm,Em];omega
   have hfin:Hid ((ZH ((m:Int)<=100)&&ZH ((N:Int)<=10))=R):=Aa (by rw [<- hR1.out,hall,e10,e100];rfl);obtain⟨r1,h1⟩:∃ r,ZH ((m:Int)<=100)=r:=⟨_,rfl⟩
   rw [h1] at hfin;clear e10 e100;by_cases h1:k<N
   ·have d1:ZH ((k:Int)<(N:Int))=true:=by simp;omega
    have d2:ZH ((k:Int)<10)=false:=by simp;omega
    cases r1 <;> go_wp2 <;> (go_ret;exact⟨by rw [<- hfin.out];rfl,hBw⟩)
   ·have d1:ZH ((k:Int)<(N:Int))=false:=by simp;omega
    cases r1 <;> go_wp2 <;> (go_ret;exact⟨by rw [<- hfin.out];rfl,hBw⟩)
theorem Zr (c:CH.Change) (v:ZC) (w:ZB) (hv:Ge w w v c.entry.names) : ZE prog 44 #[.agg #[↑c.kind,↑c.id,↑c.entry.id,v,↑c.pos]] w (Ret w (.bool (iY c))):=by
 have hB0:=fun o=>(Ac _ w).alloc nR o;have F:=fun o=>B11 c.entry v (w.alloc o) (by obtain⟨a,cap,h1,h2,h3,h4⟩:=hv;refine⟨a,cap,h1,h2,h3,fun hne=>?_⟩;obtain⟨b,off,e,hlt,hx⟩:=h4 hne;refine⟨b,off,e,by simp;omega,fun j n hj=>?_⟩;obtain⟨vw,c1,c2,c3⟩:=hx j n hj;exact⟨vw,((hB0 o).cell (p:=⟨b,off+j*2,none⟩) hlt).trans c1,((hB0 o).cell (p:=⟨b,off+j*2+1,none⟩) hlt).trans c2,(c3.below (hB0 o) nR).mono (hB0 o).size⟩);obtain⟨R,hR⟩:∃ R,Hid (iY c=R):=⟨_,Aa rfl⟩
 rw [hR.out];obtain⟨fe,hfe⟩:∃ fe,kD c.entry=fe:=⟨_,rfl⟩
 have hR1:Hid ((ZH (c.id.length<=100)&&fe)=R):=Aa (by rw [<- hfe];exact hR.out);rw [hfe] at F;have F:=Aa F;obtain⟨a,cap,rfl,hl,hcap,hne⟩:=hv;clear hne hR;generalize c.entry.names.length=N at *;obtain⟨m,hm⟩:∃ m,c.id.length=m:=⟨_,rfl⟩
 have e100:ZH ((m:Int)<=100)=ZH (c.id.length<=100):=by rw [hm,Em];omega
 rw [<- e100] at hR1;obtain⟨r1,h1⟩:∃ r,ZH ((m:Int)<=100)=r:=⟨_,rfl⟩
 rw [h1] at hR1;clear e100;cases r1 with
 |false =>go_enter func44,ntmps44;go_wp2_with fail;go_ret;exact⟨by rw [<- hR1.out];rfl,hB0 _⟩
 |true =>go_enter func44,ntmps44;go_wp2_with fail;refine (F.out _).mono ?_;rintro e w1 ⟨rfl,hb1⟩;clear F;go_wp2;go_ret;exact⟨by rw [<- hR1.out];rfl,(hB0 _).trans (hb1.mono sM)⟩
end
section
open Go.Lib Go.Proofs.Tryz Go.RowKit Go.Shelf Go.Sort CH
attribute [local irreducible] wpQuiet
theorem U5 (v v':ZC) (ls:List (List UInt8)) (w:ZB) (hv:Strs w w v ls) (hv':Strs w w v' ls) : ZE prog 320 #[v,v'] w (Ret w (.bool true)):=by
 obtain⟨a,cap,rfl,hl,hcap,hne⟩:=hv;obtain⟨a',cap',rfl,hl',hcap',hne'⟩:=hv';have hne:=Aa hne;have hne':=Aa hne';obtain⟨N,hN⟩:∃ N,ls.length=N:=⟨_,rfl⟩
 rw [hN] at hl hl' ⊢;have hN:=Aa hN;go_enter func320,ntmps320;exact FD3
theorem Sq (v v':ZC) (ls:List (List UInt8)) (w:ZB) (hv:Strs w w v ls) (hv':Strs w w v' ls) : ZE prog 273 #[v,v'] w (Ret w (.bool true)):=by
 obtain⟨a,cap,rfl,hl,hcap,hne⟩:=hv;obtain⟨a',cap',rfl,hl',hcap',hne'⟩:=hv';have hne:=Aa hne;have hne':=Aa hne';obtain⟨N,hN⟩:∃ N,ls.length=N:=⟨_,rfl⟩
 rw [hN] at hl hl' ⊢;have hN:=Aa hN;go_enter func273,ntmps273;exact FD3
theorem K9 (v v':ZC) (ls:List (List UInt8)) (w:ZB) (hv:Strs w w v ls) (hv':Strs w w v' ls) : ZE prog 272 #[v,v'] w (Ret w (.bool true)):=by
 obtain⟨a,cap,rfl,hl,hcap,hne⟩:=hv;obtain⟨a',cap',rfl,hl',hcap',hne'⟩:=hv';have hne:=Aa hne;have hne':=Aa hne';obtain⟨N,hN⟩:∃ N,ls.length=N:=⟨_,rfl⟩
 rw [hN] at hl hl' ⊢;have hN:=Aa hN;go_enter func272,ntmps272;exact FD3
theorem Ge.grow {w W:ZB} {v:ZC} {ns:List CH.Name} (h:Ge w w v ns) (hb:Below w w W):Ge W W v ns:=by obtain⟨a,cap,h1,h2,h3,h4⟩:=h;refine⟨a,cap,h1,h2,h3,fun hne=>?_⟩;obtain⟨b,off,e,hlt,hc⟩:=h4 hne;refine⟨b,off,e,Ai hlt hb.size,fun j n hj=>?_⟩;obtain⟨vw,c1,c2,c3⟩:=hc j n hj;exact⟨vw,(hb.cell (p:=⟨b,off+j*2,none⟩) hlt).trans c1,(hb.cell (p:=⟨b,off+j*2+1,none⟩) hlt).trans c2,(c3.below hb nR).mono hb.size⟩
theorem Ni (w:ZB) (o1 o2:Obj):((w.alloc o1).alloc o2).heap[w.heap.size]?=some o1/\((w.alloc o1).alloc o2).heap[w.heap.size+1]?=some o2 := ⟨(((Ac _ (w.alloc o1)).alloc nR o2).block w.heap.size sM).trans (Au w o1),by have:=Au (w.alloc o1) o2;simpa using this⟩
theorem Bad (sc:Int) (v v':ZC) (ls:List (List UInt8)) (w:ZB) (hv:Strs w w v ls) (hv':Strs w w v' ls) : ZE prog 302 #[.agg #[↑sc,v],.agg #[↑sc,v']] w (Ret w (.bool true)):=by have T:=Aa fun (W:ZB) (hb:Below w w W)=>U5 v v' ls W ((hv.below hb nR).mono hb.size) ((hv'.below hb nR).mono hb.size);have hB0:=Aa fun o o2=>((Ac _ w).alloc nR o).alloc sM o2;obtain⟨a,cap,rfl,_,_,_⟩:=hv;obtain⟨a',cap',rfl,_,_,_⟩:=hv';generalize ls.length=n at *;go_enter func302,ntmps302;go_wp2_with fail;refine (T.out _ (hB0.out _ _)).mono ?_;rintro e w1 ⟨rfl,hb1⟩;have hB1:=(hB0.out _ _).trans (hb1.mono (hB0.out _ _).size);clear T;exact FD25
theorem W7 (e:CH.Entry) (v v':ZC) (w:ZB) (hv:Ge w w v e.names) (hv':Ge w w v' e.names) : ZE prog 270 #[.agg #[↑e.id,v],.agg #[↑e.id,v']] w (Ret w (.bool true)):=by
 obtain⟨id,ls⟩:=e;obtain⟨a,cap,rfl,hl,hcap,hne⟩:=hv;obtain⟨a',cap',rfl,hl',hcap',hne'⟩:=hv';dsimp only at *;have hne:=Aa hne;have hne':=Aa hne';obtain⟨N,hN⟩:∃ N,ls.length=N:=⟨_,rfl⟩
 rw [hN] at hl hl' ⊢;have hN:=Aa hN;have hB0:=fun o o2=>((Ac _ w).alloc nR o).alloc sM o2;have A2:=Ni w;go_enter func270,ntmps270;go_wp2_with fail;generalize hWd:(w.alloc _).alloc _=W at *;have c1:W.cell? ⟨w,1,none⟩=some (.slice a N cap):=by rw [<- hWd];exact Ab (A2 _ _).1 1
 have c1':W.cell? ⟨w+1,1,none⟩=some (.slice a' N cap'):=by rw [<- hWd];exact Ab (A2 _ _).2 1
 have hBW:Below w w W:=by rw [<- hWd];exact hB0 _ _
 have hlW:w.heap.size+1<W.heap.size:=by rw [<- hWd];simp
 clear hWd hB0 A2;go_loopw [5] (fun i wr=>∃ k:Nat,k<=N/\i=↑k/\Hid (Below W W wr)) (fun i _=>N - (ZG i).toNat);case atStart=>exact⟨0,Bd _,rfl,Aa (Ac _ _)⟩
 case round =>
  obtain⟨k,hk,rfl,hBr⟩:=hrel;have k1:=(hBr.out.cell (p:=⟨w,1,none⟩) (by show w.heap.size<_;omega)).trans c1;have k1':=(hBr.out.cell (p:=⟨w+1,1,none⟩) hlW).trans c1';have hBw:Below w w wr:=hBW.trans (hBr.out.mono hBW.size);by_cases hlt:k<N
  ·obtain⟨b,off,rfl,hbl,hcells⟩:=hne.out (by intro h;have:=hN.out;simp [h] at this;omega);obtain⟨b',off',rfl,iL,hcells'⟩:=hne'.out (by intro h;have:=hN.out;simp [h] at this;omega);obtain⟨n,hn'⟩:∃ n,ls[k]?=some n:=⟨_,Ad (by rw [hN.out];exact hlt)⟩
   obtain⟨vw,d1,d2,d3⟩:=hcells k n hn';obtain⟨vw',d1',d2',d3'⟩:=hcells' k n hn';have e1:=(hBw.cell (p:=⟨b,off+k*2,none⟩) hbl).trans d1;have e2:=(hBw.cell (p:=⟨b,off+k*2+1,none⟩) hbl).trans d2;have e1':=(hBw.cell (p:=⟨b',off'+k*2,none⟩) iL).trans d1';have e2':=(hBw.cell (p:=⟨b',off'+k*2+1,none⟩) iL).trans d2';have F:=Aa fun (W:ZB) (hb:Below wr wr W)=>Bad n.script vw vw' n.words W ((d3.below (hBw.trans (hb.mono hBw.size)) nR).mono (Ag hBw.size hb.size)) ((d3'.below (hBw.trans (hb.mono hBw.size)) nR).mono (Ag hBw.size hb.size));clear hcells hcells' d1 d2 d1' d2' hn';obtain⟨vwa,vwc,rfl,_,_⟩:=d3;obtain⟨CQ,CP,rfl,_,_⟩:=d3';generalize n.words.length=nw at *;have z0:(0:Int)<=(k:Int):=oM;have zk:((k:Int)).toNat=k:=oM;have hk':(k:Int)<(N:Int):=oM;have g0:∀ (d:Nat) (os:Array Obj),(grow (ZI wr d) os).cell? ⟨w,1,none⟩=some (.slice (some ⟨b,off,none⟩) N cap):=Ae k1;have g0':∀ (d:Nat) (os:Array Obj),(grow (ZI wr d) os).cell? ⟨w+1,1,none⟩=some (.slice (some ⟨b',off',none⟩) N cap'):=Ae k1';have g1:∀ (d:Nat) (os:Array Obj),(grow (ZI wr d) os).cell? ⟨b,off+k*2,none⟩=some ↑n.script:=Ae e1;have g2:∀ (d:Nat) (os:Array Obj),(grow (ZI wr d) os).cell? ⟨b,off+k*2+1,none⟩=some (.slice vwa nw vwc):=Ae e2;have g1':∀ (d:Nat) (os:Array Obj),(grow (ZI wr d) os).cell? ⟨b',off'+k*2,none⟩=some ↑n.script:=Ae e1';have g2':∀ (d:Nat) (os:Array Obj),(grow (ZI wr d) os).cell? ⟨b',off'+k*2+1,none⟩=some (.slice CQ nw CP):=Ae e2';go_wp2_with fail;refine Ba kR kR ?_;repeat (quiet_step ((with_reducible exact Bg (F.out _ (Dx _ _ _)))))
   refine Cj ?_;intro wq hbq;replace hbq:=As hbq;clear F g0 g0' g1 g2 g1' g2' e1 e2 e1' e2' k1 k1';have hb1:=hbq;have hB1:Hid (Below W W wq):=Aa (hBr.out.trans (hb1.mono hBr.out.size));go_wp2;go_roundw;case rel=>exact⟨k+1,oM,by go_num,hB1⟩
   case measure=>simp [ZG];omega
  ·obtain rfl:k=N:=oM;go_wp2;go_ret;exact⟨rfl,hBw⟩
theorem S8 (c:CH.Change) (v v':ZC) (w:ZB) (hv:Ge w w v c.entry.names) (hv':Ge w w v' c.entry.names) : ZE prog 216 #[.agg #[↑c.kind,↑c.id,↑c.entry.id,v,↑c.pos],.agg #[↑c.kind,↑c.id,↑c.entry.id,v',↑c.pos]] w (Ret w (.bool true)):=by
 have hB0:=Aa fun o o2=>((Ac _ w).alloc nR o).alloc sM o2;have F:=Aa fun (W:ZB) (hb:Below w w W)=>W7 c.entry v v' W (hv.grow hb) (hv'.grow hb);have A2:=Ni w;obtain⟨a,cap,rfl,hl,hcap,_⟩:=hv;obtain⟨a',cap',rfl,hl',hcap',_⟩:=hv';generalize c.entry.names.length=N at *;go_enter func216,ntmps216;go_wp2_with fail;have B:=hB0.out;generalize hWd:(w.alloc _).alloc _=W at *;have c4:W.cell? ⟨w,4,none⟩=some ↑c.pos:=by rw [<- hWd];exact Ab (A2 _ _).1 4
 have c4':W.cell? ⟨w+1,4,none⟩=some ↑c.pos:=by rw [<- hWd];exact Ab (A2 _ _).2 4
 have hBW:Below w w W:=by rw [<- hWd];exact B _ _
 have hlW:w.heap.size+1<W.heap.size:=by rw [<- hWd];simp
 clear hWd hB0 A2 B;refine (F.out _ hBW).mono ?_;rintro e w1 ⟨rfl,hb1⟩;have k4:=(hb1.cell (p:=⟨w,4,none⟩) (by show w.heap.size<_;omega)).trans c4;have k4':=(hb1.cell (p:=⟨w+1,4,none⟩) hlW).trans c4';have hB1:=hBW.trans (hb1.mono hBW.size);clear F;exact FD25
end
end Go.Proofs.YtpkjhpenpfcpfaaGreatDoor
