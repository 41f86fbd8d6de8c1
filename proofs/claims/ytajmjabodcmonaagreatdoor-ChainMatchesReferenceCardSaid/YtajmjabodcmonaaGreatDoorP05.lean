/- ChainMatch, part 6 of 26. -/
import Derived.Test.YtajmjabodcmonaaGreatDoorP02
import Derived.StillTail
import Derived.Shelf.SlIter.Nil
import Derived.Shelf.SortM.Plain
import Derived.Shelf.SortM.SortNone
set_option linter.all false
set_option maxHeartbeats 40000000
set_option maxRecDepth 100000
open Go renaming World -> ZB, Value -> ZC, Calls -> ZE, redrawn -> ZI
open Go.RowKit renaming intOf -> ZG
open Decidable renaming decide -> ZH
namespace Go.Proofs.Y
section
open Go.Lib Go.Proofs.Tryz Go.RowKit Go.Shelf Go.Sort CH
section
open CH
variable {P:Program} {ops:Array Oper} {md:Region.Mode} {C:ZB->Prop}
def Rz (P:Program) (md:Region.Mode) (ops:Array Oper) (C:ZB->Prop) (n:Nat) (L:Array Bool->Act->Prop):Nat->Array Bool->Act->Prop
 |0,jz,a=>L jz a
 |f+1,jz,a=>Region.ready md ops jz≠[]/\∀ i∈Region.ready md ops jz,i<n/\qOp P ops C i (Rz P md ops C n L f (jz.setIfInBounds i true)) a
theorem V0 {n g:Nat} {L:Array Bool->Act->Prop} {Q:Exit->Act->ZB->Prop} (hL:∀ jz a w,C w->L jz a->wpAny P md ops Q g jz a w) :
  ∀ (f:Nat) (jz:Array Bool) (a:Act) (w:ZB),C w->Rz P md ops C n L f jz a->wpAny P md ops Q (f+g) jz a w
 |0,jz,a,w,hw,h=>by rw [Bf];exact hL _ _ _ hw h
 |f+1,jz,a,w,hw,h=>by
  rw [Nat.add_right_comm]
  exact⟨fun h0=>(h.1 h0).elim,fun i hi=>wpOp_of_qOp hw (fun a' w' hw' h'=>V0 hL f _ a' w' hw' h') (h.2 i hi).2⟩
theorem Ans {n i:Nat} {oi:Oper} {v:ZC} {L:Array Bool->Act->Prop} (hi:ops[i]?=some oi) (hsel:Region.noSelect ops=true) (hs:Region.sinkB md ops n=true) (hc:Region.chainB md ops n=true) (hn:n<ops.size) (hin:i<n) (hdone:∀ jz a,L jz a->∀ j∈Region.ready md ops jz,n<=j) : ∀ (f:Nat) (jz:Array Bool) (a:Act),HeadInv md ops n jz -> (∀ j oj,ops[j]?=some oj->j≠i->jz.getD j true=false->(∀ e∈oj.after,Region.binds md e=true->e.on≠i)->oi.apart ops oj=true) -> i∈Region.ready md ops jz->YieldsIn P ops C oi v a->Rz P md ops C n L f (jz.setIfInBounds i true) (a.put oi.dst v)->Rz P md ops C n L (f+1) jz a:=by
 intro f;induction f with
 |zero =>
  intro jz a inv _ hr hy H;refine⟨List.ne_nil_of_mem hr,fun j hj=>?_⟩;have hjn:j<n:=Nat.lt_of_not_le fun h=>tail_waits hs hc hn inv _ i rfl hin (Jo.1 hr).1 j h hj;refine⟨hjn,?_⟩;by_cases hji:j=i;·subst hji;exact hy.qOp hi H
  ·exact absurd (hdone _ _ H j (ready_mono hj hji)) oM
 |succ f ih =>
  intro jz a inv hfree hr hy H;have hun:=(Jo.1 hr).1;refine⟨List.ne_nil_of_mem hr,fun j hj=>?_⟩;have hjn:j<n:=Nat.lt_of_not_le fun h=>tail_waits hs hc hn inv _ i rfl hin hun j h hj;refine⟨hjn,?_⟩;by_cases hji:j=i;·subst hji;exact hy.qOp hi H
  ·obtain⟨hjun,oj,hoj,hall⟩:=Jo.1 hj;have hnot:∀ e∈oj.after,Region.binds md e=true->e.on≠i:=fun e he hb heq=>by have h1:=hall e he hb;rw [heq,getD_both hun] at h1;cases h1
   have h2:=qOp_put hoj (hfree j oj hoj hji hjun hnot) (fun cs b=>Region.noSelect_spec hsel i oi cs b hi) (fun cs b=>Region.noSelect_spec hsel j oj cs b hoj) hy (H.2 j (ready_mono hj hji)).2;refine qOp_mono (fun a' h3=>ih (jz.setIfInBounds j true) a' (inv.set hj hjn) ?_ (ready_mono hr (Ne.symm hji)) h3.1 ?_) h2
   ·intro k ok hk hki JF hno;refine hfree k ok hk hki ?_ hno;by_cases hjk:j=k;·subst hjk;exact hjun
    ·rwa [getD_set_ne true hjk] at JF
   ·rw [Array.setIfInBounds_comm _ _ hji];exact h3.2
theorem U2 {n g:Nat} {Lq:Act->Prop} (hsel:Region.noSelect ops=true) (hs:Region.sinkB md ops n=true) (hc:Region.chainB md ops n=true) (hn:n<ops.size) :
  ∀ (l:List Oper) (k:Nat) (jz:Array Bool) (a:Act),(∀ j,j<l.length->l[j]?=ops[k+j]?)->k+l.length=n->HeadInv md ops n jz ->
  Region.lexHead md ops g l.length k jz=true->wpQuiet P ops C Lq l a->Rz P md ops C n (fun listed' a'=>Region.seqB md ops g n listed'=true/\Lq a') l.length jz a
 |[],k,jz,a,_,hk,_,hB,h=>by
  obtain rfl:k=n:=by simpa using hk
  exact⟨by simpa [Region.lexHead] using hB,h⟩
 |o::l,k,jz,a,hl,hk,inv,hB,h=>by
  have h0:ops[k]?=some o:=by simpa using (hl 0 sM).symm
  simp only [A8] at hk
  simp only [A8,Region.lexHead,Ba] at hB
  have hr:k∈Region.ready md ops jz:=by simpa using hB.1.1
  obtain⟨v,hy,hK⟩:=yieldsIn_of_qOp (C:=C) (K:=wpQuiet P ops C Lq l) h0 (by unfold qOp;simp only [h0];exact h)
  refine Ans h0 hsel hs hc hn oM (fun _ _ hL=>seqB_ready hL.1) l.length jz a inv (Region.free_spec h0 hB.1.2) hr hy ?_
  exact U2 hsel hs hc hn l (k+1) _ _ (fun j hj=>by have:=hl (j+1) (by simp;omega);simpa [La,Nat.add_comm 1 j] using this) oM (inv.set hr oM) hB.2 hK
theorem Gk {id:Nat} {Q:Exit->Act->ZB->Prop} {a:Act} {w:ZB} {l:List Oper} (n:Nat) (hm:P.follows .mixedOrders=true) (hB:Region.lexTailB .any l.toArray n=true) (h:wpQuiet P l.toArray (fun w'=>∃ p:Regrown,w'=grow (ZI w p.d) p.os) (fun a'=>∀ w',(∃ p:Regrown,w'=grow (ZI w p.d) p.os)->wpList P l.toArray Q (l.drop n) a' w') (l.take n) a):(Code.region id l.toArray true).wp P Q a w:=by
 simp only [Region.lexTailB,Ba,Bq] at hB;obtain⟨⟨⟨⟨hsel,hn⟩,hs⟩,hc⟩,hlex⟩:=hB;have hn':n<l.length:=by simpa using hn
 have htl:(l.take n).length=n:=by simp;omega
 have hdl:(l.drop n).length=l.toArray.size - n:=sM;have inv0:HeadInv .any l.toArray n (Array.replicate l.toArray.size false) := ⟨sM,fun j oj _ hl=>(by rw [getD_replicate_false] at hl;cases hl),fun t _ ht=>getD_in (by simpa using ht) (getD_replicate_false _ _)⟩
 have H:=U2 (md:=.any) (g:=l.toArray.size - n) hsel hs hc hn (l.take n) 0 _ a (fun j hj=>by
  have hj':j<n:=by rw [htl] at hj;exact hj
  simp [hj']) (by simpa using htl) inv0 (by rw [htl];exact hlex) h
 refine wp_region_any hm ?_;have:=V0 (Q:=Q) (g:=l.toArray.size - n) (fun jz a' w' hw' hL=>by have:=wpAny_of_seq (md:=.any) (Q':=Q) (l.drop n) n jz a' w' (fun j=>by simp [Gu]) (by rw [hdl];exact hL.1) (hL.2 w' hw');rwa [hdl] at this) _ _ _ _ ⟨⟨w.drawn+1,#[]⟩,by rw [grow_empty]⟩ H;rw [htl,show n+(l.toArray.size - n)=l.toArray.size by omega] at this;exact this
def Ta (jz:Array Bool):Nat:=(jz.toList.filter (!·)).length
theorem Qo {jz:Array Bool} {i:Nat} (h:jz.getD i true=false):Ta (jz.setIfInBounds i true)+1=Ta jz:=by
 obtain⟨l⟩:=jz;have hl:l[i]?=some false:=by
  cases e:l[i]? with
  |none=>simp [e] at h
  |some b=>simp [e] at h;rw [h]
 simp only [Ta,List.setIfInBounds_toArray];clear h;induction l generalizing i with
 |nil=>simp at hl
 |cons b l ih =>
  cases i with
  |zero =>
   have hb:b=false:=by simpa using hl
   subst hb;simp
  |succ i =>have:=ih (by simpa using hl);cases b <;> simp [this]
theorem Bin {jz:Array Bool} (h:Ta jz=0):Region.ready md ops jz=[]:=by
 cases hr:Region.ready md ops jz with
 |nil=>rfl
 |cons i l =>
  have hi:i∈Region.ready md ops jz:=by rw [hr];simp
  have:=Qo (Jo.1 hi).1;omega
end
end
section
open Go.Lib Go.Proofs.Tryz Go.RowKit Go.Shelf Go.Sort CH
def Av (m:bD) (vk:ZC):List ZC := [↑m.id,↑m.authority,↑m.kind,↑m.target,↑m.aB.op,↑m.aB.name,↑m.aB.cmp,↑m.aB.n,vk,↑m.start,↑m.aF,↑m.dP]
theorem Lzv (m:bD) (ak:Option Addr) (nk ck:Nat) (w:ZB) : ZE prog 105 #[.agg (Av m (.slice ak nk ck)).toArray] w (Ret w (.bool (bg m))):=by
 obtain⟨r,hr⟩:∃ r,bg m=r:=⟨_,rfl⟩
 rw [hr];unfold bg at hr;dsimp only [Av];generalize m.aB=f at *;generalize m.id=id at *;generalize m.authority=au at *;generalize m.target=tg at *;generalize m.kind=kd at *;generalize m.start=st at *;generalize m.aF=un at *;generalize m.dP=wi at *;dsimp only at hr;obtain⟨wm,hwm⟩:∃ x:Int,(if kd=1 then (400:Int) else 0)=x:=⟨_,rfl⟩
 rw [hwm] at hr;obtain⟨b1,h1⟩:∃ b,(un==-1)=b:=⟨_,rfl⟩
 obtain⟨b2,h2⟩:∃ b,ZH (st<un)=b:=⟨_,rfl⟩
 obtain⟨b3,h3⟩:∃ b,ZH (un<=100000)=b:=⟨_,rfl⟩
 obtain⟨b4,h4⟩:∃ b,ZH (0<=st)=b:=⟨_,rfl⟩
 obtain⟨b5,h5⟩:∃ b,ZH (st<=100000)=b:=⟨_,rfl⟩
 obtain⟨b6,h6⟩:∃ b,ZH (0<=wi)=b:=⟨_,rfl⟩
 have hr':((b4&&(b5&&((b1||b2&&b3)&&(b6&&ZH (wi<=wm))))):Bool)=r:=by rw [<- hr,<- h1,<- h2,<- h3,<- h4,<- h5,<- h6]
 clear hr;replace hr':=Aa hr';go_enter func105,ntmps105;by_cases hk:kd=1
 ·have z1:(kd==1)=true:=by simpa using hk
  rw [Au hk] at hwm;exact FD28
 ·have z1:(kd==1)=false:=by simpa using hk
  rw [Ai hk] at hwm;exact FD28
end
end Go.Proofs.Y
namespace Go.Proofs
section
open Go.Proofs.Tryz Go.Shelf CH
def Tryz.oH:Go.Shelf.Ren:=⟨fun|7=>245|10=>299|n=>n,fun|23=>175|26=>9|3=>4|28=>277|0=>0|27=>276|33=>116|4=>4|n=>n,fun|n=>n⟩
theorem Tryz.uw:Go.Proofs.SlLaysZ.n7 prog Tryz.oH:={
 mixed:=by kernel_rfl
 f7:=⟨Tryz.f245.name,by decide,func245.trans (congrArg some (by kernel_rfl))⟩
 f10:=⟨Tryz.f299.name,by decide,func299.trans (congrArg some (by kernel_rfl))⟩
 t0:=underlying0
 a0:=isAgg0
 z0:=sizeOf0
 v0:=zeroValue0
 t4:=underlying4
 a4:=isAgg4
 z4:=sizeOf4
 v4:=zeroValue4
 t23:=underlying175
 a23:=isAgg175
 z23:=sizeOf175
 v23:=zeroValue175
 t26:=underlying9
 a26:=isAgg9
 z26:=sizeOf9
 v26:=zeroValue9
 t27:=underlying276
 a27:=isAgg276
 z27:=sizeOf276
 v27:=zeroValue276
 t28:=underlying277
 a28:=isAgg277
 z28:=sizeOf277
 v28:=zeroValue277
 t33:=underlying116
 a33:=isAgg116
 z33:=sizeOf116
 v33:=zeroValue116 }
def Tryz.lN:Go.Shelf.Ren:=⟨fun|6=>244|8=>297|9=>298|11=>322|13=>224|12=>323|23=>283|24=>284|14=>338|15=>339|16=>340|17=>341|18=>342|19=>343|20=>344|21=>345|22=>346|25=>353|26=>314|27=>315|28=>354|29=>355|30=>356|31=>364|n=>n,fun|26=>9|28=>277|24=>22|0=>0|3=>3|37=>201|48=>261|50=>155|4=>4|40=>292|39=>291|45=>296|5=>5|9=>9|51=>312|55=>316|57=>333|58=>272|33=>116|n=>n,fun|n=>n⟩
theorem Tryz.uY:Go.Proofs.SlLaysZ.n6 prog Tryz.lN:={
 mixed:=by kernel_rfl
 f6:=⟨Tryz.f244.name,by decide,func244.trans (congrArg some (by kernel_rfl))⟩
 f8:=⟨Tryz.f297.name,by decide,func297.trans (congrArg some (by kernel_rfl))⟩
 f11:=⟨Tryz.f322.name,by decide,func322.trans (congrArg some (by kernel_rfl))⟩
 t0:=underlying0
 a0:=isAgg0
 z0:=sizeOf0
 v0:=zeroValue0
 t24:=underlying22
 a24:=isAgg22
 z24:=sizeOf22
 v24:=zeroValue22
 t26:=underlying9
 a26:=isAgg9
 z26:=sizeOf9
 v26:=zeroValue9
 t28:=underlying277
 a28:=isAgg277
 z28:=sizeOf277
 v28:=zeroValue277
 i26:=by kernel_rfl }
def Tryz.rH:Go.Shelf.Ren:=⟨fun|6=>298|8=>224|9=>323|19=>283|20=>284|21=>338|22=>339|23=>340|24=>341|25=>342|26=>343|27=>344|28=>345|29=>346|36=>353|31=>314|32=>315|37=>354|38=>355|39=>356|41=>364|n=>n,fun|27=>22|29=>9|3=>3|32=>201|26=>22|0=>0|44=>261|46=>155|4=>4|36=>292|35=>291|41=>296|5=>5|9=>9|53=>312|57=>316|63=>333|64=>272|n=>n,fun|n=>n⟩
theorem Tryz.uj:Go.Proofs.SlLaysM.n6 prog Tryz.rH:={
 mixed:=by kernel_rfl
 f6:=⟨Tryz.f298.name,by decide,func298.trans (congrArg some (by kernel_rfl))⟩
 f8:=func224.trans (congrArg some (by kernel_rfl))
 f9:=⟨Tryz.f323.name,by decide,func323.trans (congrArg some (by kernel_rfl))⟩
 f19:=func283.trans (congrArg some (by kernel_rfl))
 f20:=func284.trans (congrArg some (by kernel_rfl))
 f21:=⟨Tryz.f338.name,by decide,func338.trans (congrArg some (by kernel_rfl))⟩
 f22:=⟨Tryz.f339.name,by decide,func339.trans (congrArg some (by kernel_rfl))⟩
 f23:=⟨Tryz.f340.name,by decide,func340.trans (congrArg some (by kernel_rfl))⟩
 f24:=⟨Tryz.f341.name,by decide,func341.trans (congrArg some (by kernel_rfl))⟩
 f25:=⟨Tryz.f342.name,by decide,func342.trans (congrArg some (by kernel_rfl))⟩
 f26:=⟨Tryz.f343.name,by decide,func343.trans (congrArg some (by kernel_rfl))⟩
 f27:=⟨Tryz.f344.name,by decide,func344.trans (congrArg some (by kernel_rfl))⟩
 f28:=⟨Tryz.f345.name,by decide,func345.trans (congrArg some (by kernel_rfl))⟩
 f29:=⟨Tryz.f346.name,by decide,func346.trans (congrArg some (by kernel_rfl))⟩
 f31:=func314.trans (congrArg some (by kernel_rfl))
 f32:=func315.trans (congrArg some (by kernel_rfl))
 f36:=⟨Tryz.f353.name,by decide,func353.trans (congrArg some (by kernel_rfl))⟩
 f37:=⟨Tryz.f354.name,by decide,func354.trans (congrArg some (by kernel_rfl))⟩
 f38:=⟨Tryz.f355.name,by decide,func355.trans (congrArg some (by kernel_rfl))⟩
 f39:=⟨Tryz.f356.name,by decide,func356.trans (congrArg some (by kernel_rfl))⟩
 f41:=⟨Tryz.f364.name,by decide,func364.trans (congrArg some (by kernel_rfl))⟩
 t0:=underlying0
 a0:=isAgg0
 z0:=sizeOf0
 v0:=zeroValue0
 t3:=underlying3
 a3:=isAgg3
 z3:=sizeOf3
 v3:=zeroValue3
 t4:=underlying4
 a4:=isAgg4
 z4:=sizeOf4
 v4:=zeroValue4
 t5:=underlying5
 a5:=isAgg5
 z5:=sizeOf5
 v5:=zeroValue5
 t9:=underlying9
 a9:=isAgg9
 z9:=sizeOf9
 v9:=zeroValue9
 t26:=underlying22
 a26:=isAgg22
 z26:=sizeOf22
 v26:=zeroValue22
 t27:=underlying22
 a27:=isAgg22
 z27:=sizeOf22
 v27:=zeroValue22
 t29:=underlying9
 a29:=isAgg9
 z29:=sizeOf9
 v29:=zeroValue9
 t32:=underlying201
 a32:=isAgg201
 z32:=sizeOf201
 v32:=zeroValue201
 t35:=underlying291
 a35:=isAgg291
 z35:=sizeOf291
 v35:=zeroValue291
 t36:=underlying292
 a36:=isAgg292
 z36:=sizeOf292
 v36:=zeroValue292
 t41:=underlying296
 a41:=isAgg296
 z41:=sizeOf296
 v41:=zeroValue296
 t44:=underlying261
 a44:=isAgg261
 z44:=sizeOf261
 v44:=zeroValue261
 t46:=underlying155
 a46:=isAgg155
 z46:=sizeOf155
 v46:=zeroValue155
 t53:=underlying312
 a53:=isAgg312
 z53:=sizeOf312
 v53:=zeroValue312
 t57:=underlying316
 a57:=isAgg316
 z57:=sizeOf316
 v57:=zeroValue316
 t63:=underlying333
 a63:=isAgg333
 z63:=sizeOf333
 v63:=zeroValue333
 t64:=underlying272
 a64:=isAgg272
 z64:=sizeOf272
 v64:=zeroValue272 }
open Go.RowKit Go.Maps Go.Sort Go.Shelf CH in
theorem Tryz.vN (m:Nat):AnyZ.SortsIn prog Tryz.lN Fence.wide m := ⟨fun blk off cap ss W hH hblk hsz=>callsIn_wide.2 (AnyM.slices_Sort_string Tryz.uj blk off cap ss W hH hblk hsz), fun p cap W=>callsIn_wide.2 (AnyM.slices_Sort_string_none Tryz.uj p cap W)⟩
open Go.RowKit Go.Maps Go.Sort Go.Shelf CH in
theorem Tryz.qc (mb:Option Nat) (W:ZB):CallsIn Fence.wide 5 prog 245 #[.map mb] W fun e w'=>e=.returned (.func (.func 299) #[] #[.pointer (some ⟨W.heap.size,0,none⟩)])/\w'=W.alloc (.cells #[.map mb] 175) := AnyZ.keys_in Tryz.uw Fence.wide 5 trivial rfl mb W
open Go.RowKit Go.Maps Go.Sort Go.Shelf CH in
theorem Tryz.jl {H:Type} (b nn:Nat) (D0:DataW H) (R:ZC->Option (DataW H × List MemPlace)) (w:ZB) (hown:w.ownsMap prog 9 R b nn D0) (hmax:Maps.size D0<=maxLen) (hbytes:Maps.size D0*16<=140737488355328) : CallsIn Fence.wide 5 prog 244 #[.func (.func 299) #[] #[.pointer (some ⟨w.heap.size,0,none⟩)]] (w.alloc (.cells #[.map (some b)] 175)) fun e w'=>∃ (v:ZC) (ss:List Q00),e=.returned v/\ss.Perm (strKeys D0) /\ w'.ownsRow (w.alloc (.cells #[.map (some b)] 175)).heap.size 9 1 v ss.length ((ss.mergeSort (fun x y=>ZH (x<=y))).map encStr)/\(v=.slice none 0 0↔ss=[])/\Below (w.alloc (.cells #[.map (some b)] 175)).heap.size (w.alloc (.cells #[.map (some b)] 175)) w':=by have hbl:=hown.lt;have hseq:SeqGives Fence.wide 2 prog 299 #[.pointer (some ⟨w.heap.size,0,none⟩)] encStr (fun ss=>ss.Perm (strKeys D0)) (Maps.size D0) (w.alloc (.cells #[.map (some b)] 175)) := AnyZ.keys_gives (ρ:=Tryz.oH) { Tryz.uw with } Fence.wide _ trivial rfl (by omega) w.heap.size b nn D0 _ (by simp) (by simp) (by obtain⟨es,clock,hb,Ft,hs,hD⟩:=hown;exact⟨es,clock,(Below.heap_alloc _ _ b hbl).trans hb,Ft,hs,hD⟩);exact AnyZ.sorted_in Tryz.uY Fence.wide 5 trivial trivial trivial trivial rfl (by omega) (Tryz.vN _) (enters_of func298 (by kernel_rfl) rfl) 299 #[.pointer (some ⟨w.heap.size,0,none⟩)] trivial (enters_of func299 (by kernel_rfl) rfl) _ _ hmax hbytes _ hseq
end
end Go.Proofs
namespace Go.Proofs.Y
section
open Go.Lib Go.Proofs.Tryz Go.RowKit CH
variable {w:ZB} {b o:Nat} {l:List ZC}
theorem G1 {m:List ZC} (h:w.rangeAt b o (l++m)):w.rangeAt b o l:=fun j v hj=>h j v (by rw [Eu (lS hj)];exact hj)
theorem Cx {m:List ZC} (h:w.rangeAt b o (l++m)) (n:Nat) (hn:o+l.length=n):w.rangeAt b n m:=fun j v hj=>by have:=h (l.length+j) v (by rw [Em oM,show l.length+j - l.length=j from by omega];exact hj);rw [<- hn,La];exact this
theorem A6 {w':ZB} {B:Nat} (h:w.rangeAt b o l) (hb:Below B w w') (hlt:b<B):w'.rangeAt b o l:=fun j v hj=>(hb.cell (p:=⟨b,o+j,none⟩) hlt).trans (h j v hj)
theorem Bp (w:ZB) (l:List ZC) (T:TypeId):(w.alloc (.cells l.toArray T)).rangeAt w.heap.size 0 l:=fun j v hj=>by rw [Bf,Ab (Aw w (.cells l.toArray T)) j];simpa using hj
theorem M4 (h:w.rangeAt b o l) (x:Obj):(w.alloc x).rangeAt b o l:=fun j v hj=>by have hc:=h j v hj;exact (((Ac _ w).alloc nR x).cell (Ez w _ hc)).trans hc
theorem Qu (w:ZB) (T:TypeId):∀ (cs pre z:List ZC),z.length=cs.length->(w.alloc (.cells (pre++z).toArray T)).setCells w.heap.size pre.length cs=w.alloc (.cells (pre++cs).toArray T)
 |[],pre,z,h=>by
  have:z=[]:=Bo.1 (by simpa using h)
  subst this;rfl
 |v::cs,pre,z,h=>by
  cases z with
  |nil=>simp at h
  |cons u z =>
   rw [World.setCells,Jy _ _ _ _ _ rfl]
   have e:((pre++u::z).toArray.setIfInBounds pre.length v)=((pre++[v])++z).toArray:=sM
   rw [e]
   have:=Qu w T cs (pre++[v]) z (by simpa using h)
   rw [Ah,Di] at this
   rw [this]
   simp
theorem Bw {P:Program} {ops:Array Oper} {rest:List Oper} {op:Oper} {a:Act} {Q:Exit->Act->ZB->Prop} {z:Array ZC} {T:TypeId} (hgd:op.guard=none) (ty:TypeId) (x y:Operand) (ho:op.op=.store ty x y) (cs:List ZC) (hx:a.eval x=.pointer (some ⟨w,0,none⟩)) (hy:a.eval y=.agg cs.toArray) (hz:z.size=cs.length) (hi:(P.info? ty).map (·.size)=some cs.length) (h1:∀ v∈cs,v.oneCell'=true) (h:wpList P ops Q rest (a.put op.dst undef) (w.alloc (.cells cs.toArray T))):wpList P ops Q (op::rest) a (w.alloc (.cells z T)):=by
 refine Ih hgd ty x y ho w 0 cs.toArray hx hy (fun j hj=>?_) (by simpa using hi) (Gh h1) ?_;·rw [Bf];refine⟨?_,Bb (Aw w _) j⟩;rw [Ab (Aw w _) j,F7 (by rw [hz];simpa using hj)];rfl
 ·have:=Qu w T cs [] z.toList (by simpa using hz);simp only [Dl,Bj] at this;rw [show z=z.toList.toArray from by simp,this];exact h
theorem Ggt:∀ (cs pre z:List ZC),z.length=cs.length->List.foldl (fun (c:Array ZC) (x:ZC × Nat)=>c.setIfInBounds x.2 x.1) (pre++z).toArray (cs.zipIdx pre.length)=(pre++cs).toArray
 |[],pre,z,h=>by
  have:z=[]:=Bo.1 (by simpa using h)
  subst this;rfl
 |v::cs,pre,z,h=>by
  cases z with
  |nil=>simp at h
  |cons u z =>
   rw [List.zipIdx_cons,Nl]
   have e:((pre++u::z).toArray.setIfInBounds pre.length v)=((pre++[v])++z).toArray:=sM
   dsimp only
   rw [e]
   have:=Ggt cs (pre++[v]) z (by simpa using h)
   rw [Ah,Di] at this
   rw [this]
   simp
theorem Kk (cs:List ZC) (z:Array ZC) (h:z.size=cs.length):List.foldl (fun (c:Array ZC) (x:ZC × Nat)=>c.setIfInBounds x.2 x.1) z cs.zipIdx=cs.toArray:=by have:=Ggt cs [] z.toList (by simpa using h);exact FD159
end
end Go.Proofs.Y
namespace CH
section
open Go.Sort
section
variable {α:Type} [Inhabited α]
theorem Aa8 (l m:List α) (x y:α):swp (l++x::y::m).toArray (l.length+1) l.length=(l++y::x::m).toArray:=by have hx:(l++x::y::m).toArray[l.length]! =x:=sM;have hy:(l++x::y::m).toArray[l.length+1]! =y:=sM;unfold swp;rw [hx,hy];simp
theorem Aar (L:List α) (j:Nat) (h:j+1<L.length):∃ l x y m,L=l++x::y::m/\L.toArray[j]! =x/\L.toArray[j+1]! =y/\(swp L.toArray (j+1) j).toList=l++y::x::m:=by
 have e1:L=L.take j++L[j]::L[j+1]::L.drop (j+2):=by conv=>lhs;rw [<- D8 j L,Ij oM,Ij oM]
 have hx:L.toArray[j]! =L[j]:=by simp [show j<L.length from by omega]
 have hy:L.toArray[j+1]! =L[j+1]:=by simp [h]
 refine⟨L.take j,L[j],L[j+1],L.drop (j+2),e1,hx,hy,?_⟩;have ht:(L.take j).length=j:=by rw [C9];omega
 have:=Aa8 (L.take j) (L.drop (j+2)) L[j] L[j+1];rw [<- e1,ht] at this;rw [this]
theorem Rx {lt:α->α->Bool} {I:List α->Prop} (hI:∀ (l m:List α) (x y:α),lt y x=true->I (l++x::y::m)->I (l++y::x::m)) (a:Nat):∀ (j:Nat) (L:List α),j<L.length->I L->I (insInner lt a j L.toArray).toList/\(insInner lt a j L.toArray).size=L.length
 |0,L,_,h=>⟨h,rfl⟩
 |j+1,L,hj,h=>by
  rw [insInner]
  split
  ·rename_i hc
   simp only [Ba,Bq] at hc
   obtain⟨l,x,y,m,e,hx,hy,hs⟩:=Aar L j hj
   rw [hx,hy] at hc
   have h':=hI l m x y hc.2 (e ▸ h)
   have hl:(l++y::x::m).length=L.length:=by rw [e];simp
   have:=Rx hI a j (l++y::x::m) oM h'
   rw [show swp L.toArray (j+1) j=(l++y::x::m).toArray from by rw [<- hs]]
   exact⟨this.1,this.2.trans hl⟩
  ·exact⟨h,rfl⟩
theorem Ru {lt:α->α->Bool} {I:List α->Prop} (hI:∀ (l m:List α) (x y:α),lt y x=true->I (l++x::y::m)->I (l++y::x::m)) (a b:Nat):∀ (n i:Nat) (L:List α),b - i<=n->b<=L.length->I L->I (insOuter lt a b i L.toArray).toList
 |0,i,L,hn,hb,h=>by
  rw [insOuter,Ai oM];exact h
 |n+1,i,L,hn,hb,h=>by
  rw [insOuter]
  split
  ·rename_i hi
   have h1:=Rx hI a i L oM h
   have:=Ru hI a b n (i+1) (insInner lt a i L.toArray).toList oM (by rw [I9];omega) h1.1
   exact this
  ·exact h
theorem fU {lt:α->α->Bool} {I:List α->Prop} (hI:∀ (l m:List α) (x y:α),lt y x=true->I (l++x::y::m)->I (l++y::x::m)) (L:List α) (h:I L):I (insertionSort lt L.toArray 0 L.length).toList := Ru hI 0 L.length L.length 1 L oM nR h
end
theorem mV {α:Type} [DecidableEq α]:∀ (l m:List α),l.Nodup->(∀ x∈l,x∈m)->l.length<=m.length
 |[],_,_,_=>Az _
 |x::l,m,hn,h=>by
  have hx:x∈m:=h x sM
  have hn':=Oa.1 hn
  have:=mV l (m.erase x) hn'.2 (fun y hy=>(List.mem_erase_of_ne (fun e=>hn'.1 (by rw [<- e];exact hy))).2 (h y (by simp [hy])))
  rw [List.length_erase_of_mem hx] at this
  have:=Ll hx
  simp only [A8]
  omega
def bH {β:Type} (p:Int × Int):List ((Int × Int) × β)->Option β
 |[]=>none
 |(q,x)::l=>if p==q then some x else bH p l
theorem gG {β:Type} {p:Int × Int} {x:β}:∀ {l:List ((Int × Int) × β)},bH p l=some x->(p,x)∈l
 |[],h=>by cases h
 |(q,y)::l,h=>by
  rw [bH] at h
  split at h
  ·rename_i e
   cases h
   rw [Eb.1 e]
   exact List.mem_cons_self
  ·exact Gm _ (gG h)
section
variable (msg:Version->Str) (chk:Version->Str->Bool)
def follow (known:List ((Int × Int) × Version)) (a:Int):Nat->List Version->Str->Int->List Version × Str
 |0,out,head,_=>(out,head)
 |f+1,out,head,last=>match bH (a,(out.length:Int)+1) known with
  |none=>(out,head)
  |some v=>if v.prev != head||ZH (v.pos<last) then (out,head) else follow known a f (out++[v]) (msg v) v.pos
structure Good (keys:List Str) (known:List ((Int × Int) × Version)):Prop where
 key:∀ p v,(p,v)∈known->p=(v.authority,v.number)
 number:∀ p v,(p,v)∈known->1<=v.number/\v.number<=200
 authority:∀ p v,(p,v)∈known->0<=v.authority/\v.authority<keys.length
 check:∀ p v,(p,v)∈known->chk v (keys.getD v.authority.toNat [])=true
def qQ (l:List Version):Str:=match l.getLast? with|none=>[]|some v=>msg v
structure Fol (known:List ((Int × Int) × Version)) (a:Int) (l:List Version) (h:Str) (last:Int):Prop where
 look:∀ (j:Nat) (v:Version),l[j]?=some v->bH (a,(j:Int)+1) known=some v
 prev:∀ (j:Nat) (v:Version),l[j]?=some v->v.prev=qQ msg (l.take j)
 sorted:l.Pairwise fun x y=>x.pos<=y.pos
 head:h=qQ msg l
 last:∀ v∈l,v.pos<=last
theorem Fol.nil (known:List ((Int × Int) × Version)) (a:Int):Fol msg known a [] [] 0:=⟨fun j v h=>by simp at h,fun j v h=>by simp at h,.nil,rfl,fun v h=>by cases h⟩
theorem Fol.snoc {known:List ((Int × Int) × Version)} {a:Int} {l:List Version} {h:Str} {last:Int} (F:Fol msg known a l h last) {v:Version} (hv:bH (a,(l.length:Int)+1) known=some v) (hp:v.prev=h) (hl:last<=v.pos):Fol msg known a (l++[v]) (msg v) v.pos:=by
 refine⟨fun j u hj=>?_,fun j u hj=>?_,?_,?_,fun u hu=>?_⟩
 ·rcases Lr j l.length with h1|h1|h1;·rw [Eu h1] at hj;exact F.look j u hj
  ·subst h1;simp at hj;subst hj;exact hv
  ·rw [Em oM,F8 (by simp;omega)] at hj;cases hj
 ·rcases Lr j l.length with h1|h1|h1;·rw [Eu h1] at hj;rw [List.take_append_of_le_length oM];exact F.prev j u hj
  ·subst h1;simp at hj;subst hj;rw [List.take_left,hp];exact F.head
  ·rw [Em oM,F8 (by simp;omega)] at hj;cases hj
 ·rw [Ib];refine⟨F.sorted,sM,fun x hx y hy=>?_⟩;cases Ce.1 hy;exact Int.le_trans (F.last x hx) hl
 ·simp [qQ]
 ·rcases Dp.1 hu with h1|h1;·exact Int.le_trans (F.last u h1) hl
  ·cases Ce.1 h1;exact Int.le_refl _
theorem Ym {known:List ((Int × Int) × Version)} {a:Int}:∀ (f:Nat) (l:List Version) (h:Str) (last:Int),Fol msg known a l h last->∃ last',Fol msg known a (follow msg known a f l h last).1 (follow msg known a f l h last).2 last'
 |0,l,h,last,F=>⟨last,F⟩
 |f+1,l,h,last,F=>by
  rw [follow]
  split
  ·exact⟨last,F⟩
  ·rename_i v hv
   split
   ·exact⟨last,F⟩
   ·rename_i hc
    simp only [Ec,bne_iff_ne,Bq,Lu,Int.not_lt,ne_eq,Decidable.not_not] at hc
    exact Ym f _ _ _ (F.snoc msg hv hc.1 hc.2)
def fol (known:List ((Int × Int) × Version)) (a:Int):List Version × Str:=follow msg known a 201 [] [] 0
theorem nN (known:List ((Int × Int) × Version)) (a:Int):∃ last,Fol msg known a (fol msg known a).1 (fol msg known a).2 last:=Ym msg 201 [] [] 0 (Fol.nil msg known a)
def bF (known:List ((Int × Int) × Version)):Nat->List Version
 |0=>[]
 |n+1=>bF known n++(fol msg known n).1
variable {msg chk} {keys:List Str} {known:List ((Int × Int) × Version)}
theorem Oe (hG:Good chk keys known) (a:Int):∀ v∈(fol msg known a).1,v.authority=a:=fun v hv=>by obtain⟨last,F⟩:=nN msg known a;obtain⟨j,hj⟩:=Dj.1 hv;have:=hG.key _ _ (gG (F.look j v hj));exact (congrArg Prod.fst this).symm
theorem Yq (hG:Good chk keys known) (a:Int) (j:Nat) (v:Version) (hv:(fol msg known a).1[j]?=some v):v.number=j+1:=by obtain⟨last,F⟩:=nN msg known a;have:=hG.key _ _ (gG (F.look j v hv));exact (congrArg Prod.snd this).symm
theorem Abb (a:Int):∀ v∈(fol msg known a).1,∃ p,(p,v)∈known:=fun v hv=>by obtain⟨last,F⟩:=nN msg known a;obtain⟨j,hj⟩:=Dj.1 hv;exact⟨_,gG (F.look j v hj)⟩
theorem Qh:∀ (n:Nat),∀ v∈bF msg known n,∃ p,(p,v)∈known
 |0,v,h=>by cases h
 |n+1,v,h=>by
  rcases Dp.1 h with h|h
  ·exact Qh n v h
  ·exact Abb _ v h
theorem Ot (hG:Good chk keys known):∀ (n:Nat),∀ v∈bF msg known n,v.authority<n
 |0,v,h=>by cases h
 |n+1,v,h=>by
  rcases Dp.1 h with h|h
  ·have:=Ot hG n v h;omega
  ·have:=Oe hG _ v h;omega
def Oo (x y:Version):Prop:=x.authority<y.authority\/x.authority=y.authority/\x.number<y.number
theorem Nv (hG:Good chk keys known):∀ (n:Nat),(bF msg known n).Pairwise Oo
 |0=>.nil
 |n+1=>by
  unfold bF
  rw [Ib]
  refine⟨Nv hG n,?_,fun x hx y hy=>.inl ?_⟩
  ·rw [Gn]
   intro i j hi hj hij
   refine .inr ⟨?_,?_⟩
   ·rw [Oe hG _ _ (Jm hi),Oe hG _ _ (Jm hj)]
   ·rw [Yq hG _ i _ (Ad hi),Yq hG _ j _ (Ad hj)]
    omega
  ·have h1:=Ot hG n x hx
   have h2:=Oe hG _ y hy
   omega
theorem lU (hG:Good chk keys known) (n:Nat):(bF msg known n).length<=known.length:=by
 have h:=mV ((bF msg known n).map fun v=>(v.authority,v.number)) (known.map (·.1)) ?_ ?_;·simpa using h
 ·rw [List.nodup_iff_pairwise_ne,List.pairwise_map];refine (Nv hG n).imp ?_;rintro x y h e;simp only [Hu] at e;rcases h with h|h <;> omega
 ·intro p hp;obtain⟨v,hv,rfl⟩:=Dz.1 hp;obtain⟨p,hp⟩:=Qh n v hv;exact Dz.2 ⟨_,hp,hG.key _ _ hp⟩
theorem Qi (hG:Good chk keys known) (a:Int) (n:Nat) (h:(n:Int)<=a):(bF msg known n).filter (fun v=>v.authority==a)=[]:=by rw [Lm];intro v hv;have:=Ot hG n v hv;simp;omega
theorem Aan (hG:Good chk keys known) (a b:Int):(fol msg known b).1.filter (fun v=>v.authority==a)=if a=b then (fol msg known b).1 else []:=by
 split;·rename_i e;rw [List.filter_eq_self];intro v hv;simp [Oe hG _ v hv,e]
 ·rename_i e;rw [Lm];intro v hv;simp [Oe hG _ v hv];omega
theorem Pg (hG:Good chk keys known) (a:Nat):∀ (n:Nat),a<n->(bF msg known n).filter (fun v=>v.authority==(a:Int))=(fol msg known a).1
 |0,h=>by omega
 |n+1,h=>by
  unfold bF
  rw [Nr,Aan hG]
  by_cases e:a=n
  ·subst e
   rw [Au rfl,Qi hG _ _ (Int.le_refl _)]
   rfl
  ·rw [Ai oM,Gg]
   exact Pg hG a n oM
theorem Om (hG:Good chk keys known) (n:Nat) (a:Int):((bF msg known n).filter (fun v=>v.authority==a)).Pairwise fun x y=>x.pos<=y.pos:=by
 by_cases h:0<=a/\a<n
 ·obtain⟨k,rfl⟩:∃ k:Nat,a=k:=⟨a.toNat,oM⟩
  rw [Pg hG k n oM];obtain⟨last,F⟩:=nN msg known k;exact F.sorted
 ·have:(bF msg known n).filter (fun v=>v.authority==a)=[]:=by rw [Lm];intro v hv;have h1:=Ot hG n v hv;obtain⟨p,hp⟩:=Qh n v hv;have h2:=(hG.authority _ _ hp).1;simp;omega
  rw [this];exact .nil
instance : Inhabited Version := ⟨⟨0, 0, 0, [], [], ⟨0, [], []⟩⟩⟩
def iW (x y:Version):Bool:=ZH (x.pos<y.pos)
def versions (msg:Version->Str) (known:List ((Int × Int) × Version)) (n:Nat):List Version:=(insertionSort iW (bF msg known n).toArray 0 (bF msg known n).length).toList
theorem Aas:SWO iW:=by constructor;all_goals (intros;simp_all [iW];try omega)
structure Sorted (C L:List Version):Prop where
 filter:∀ a:Int,L.filter (fun v=>v.authority==a)=C.filter (fun v=>v.authority==a)
 stable:L.Pairwise fun x y=>x.pos=y.pos->x.authority<=y.authority
theorem Sorted.swap {C:List Version} (hC:∀ a:Int,(C.filter (fun v=>v.authority==a)).Pairwise fun x y=>x.pos<=y.pos) (l m:List Version) (x y:Version) (hlt:iW y x=true) (h:Sorted C (l++x::y::m)):Sorted C (l++y::x::m):=by
 have hlt':y.pos<x.pos:=by simpa [iW] using hlt
 refine⟨fun a=>?_,?_⟩
 ·rw [<- h.filter a];by_cases h1:x.authority=a <;> by_cases h2:y.authority=a;·exfalso;have h3:=hC a;rw [<- h.filter a,Nr,List.filter_cons_of_pos (by simp [h1]),List.filter_cons_of_pos (by simp [h2]),Ib] at h3;have:=(Ht.1 h3.2.1).1 y sM;omega
  all_goals simp [Nr,h1,h2]
 ·have h3:=h.stable;rw [Ib] at h3 ⊢;obtain⟨p1,p2,p3⟩:=h3;rw [Ht,Ht] at p2;refine⟨p1,?_,fun a ha b hb=>p3 a ha b ?_⟩
  ·rw [Ht,Ht];refine⟨fun b hb e=>?_,fun b hb=>p2.1 b (by simp [hb]),p2.2.2⟩;rcases Bl.1 hb with rfl|hb;·omega
   ·exact p2.2.1 b hb e
  ·simp only [Bl] at hb ⊢;rcases hb with h|h|h;·exact .inr (.inl h)
   ·exact .inl h
   ·exact .inr (.inr h)
theorem Vd (hG:Good chk keys known) (n:Nat):Sorted (bF msg known n) (versions msg known n):=by refine fU (I:=Sorted (bF msg known n)) (fun l m x y=>Sorted.swap (Om hG n) l m x y) _ ⟨fun _=>rfl,(Nv hG n).imp ?_⟩;rintro x y h _;rcases h with h|h <;> omega
theorem Aad (known:List ((Int × Int) × Version)) (n:Nat):(versions msg known n).Pairwise fun x y=>x.pos<=y.pos:=by have h:=insertionSort_holds (lt:=iW) Aas (bF msg known n).toArray 0 (bF msg known n).length (Az _) nR;have hs:=h.1.1;unfold versions;generalize insertionSort iW (bF msg known n).toArray 0 (bF msg known n).length=D at *;rw [Gn];intro i j hi hj hij;rw [I9] at hi hj;have:=h.2 i j (Az _) hij (by rw [hs] at hj;simpa using hj);rw [getElem!_pos D i hi,getElem!_pos D j hj] at this;simp only [Array.getElem_toList];simpa [iW] using this
theorem gW {β:Type} (l:List β) (i:Nat) (x d:β) (h:i<l.length):(l.set i x).getD i d=x:=by simp [List.getD_eq_getElem?_getD,h]
theorem getD_set_ne {β:Type} (l:List β) (i j:Nat) (x d:β) (h:i≠j):(l.set i x).getD j d=l.getD j d:=by simp [List.getD_eq_getElem?_getD,h]
end
abbrev Known:=List ((Int × Int) × Version)
abbrev Forks:=List ((Int × Int) × (Version × Version))
def iL (p:Int × Int) (f:Version × Version) (forks:Forks):Forks:=match bH p forks with
 |none=>forks++[(p,f)]
 |some _=>forks
end
section
variable {chk:Version->Str->Bool} {known:Known} {forks:Forks} {v:Version} {t:Str}
def dV (chk:Version->Str->Bool) (keys:List Str) (known:Known) (forks:Forks) (v:Version):Int × Known × Forks :=
 match bY v with
 |.error _=>(1,known,forks)
 |.ok _ =>
  if ZH (v.authority >= keys.length) then (1,known,forks)
  else if !chk v (keys.getD v.authority.toNat []) then (16,known,forks)
  else match bH (v.authority,v.number) known with
   |none=>(0,known++[((v.authority,v.number),v)],forks)
   |some old=>if (bare old).getD []==(bare v).getD [] then (0,known,forks)
    else (17,known,iL (v.authority,v.number) (old,v) forks)
theorem sD {keys:List Str} (ht:bY v=.ok t) (ha:v.authority<(keys.length:Int)) (hk:chk v (keys.getD v.authority.toNat [])=false):dV chk keys known forks v=(16,known,forks):=by unfold dV;rw [ht];dsimp only;rw [Ak oM,Ai sM,hk];rfl
theorem qC {keys:List Str} (ht:bY v=.ok t) (ha:v.authority<(keys.length:Int)) (hk:chk v (keys.getD v.authority.toNat [])=true) (hl:bH (v.authority,v.number) known=none) : dV chk keys known forks v=(0,known++[((v.authority,v.number),v)],forks):=by unfold dV;rw [ht];dsimp only;rw [Ak oM,Ai sM,hk,Ai sM,hl]
theorem pJ {keys:List Str} {x:Version} (ht:bY v=.ok t) (ha:v.authority<(keys.length:Int)) (hk:chk v (keys.getD v.authority.toNat [])=true) (hl:bH (v.authority,v.number) known=some x) : dV chk keys known forks v=if (bare x).getD []==(bare v).getD [] then (0,known,forks) else (17,known,iL (v.authority,v.number) (x,v) forks):=by unfold dV;rw [ht];dsimp only;rw [Ak oM,Ai sM,hk,Ai sM,hl]
theorem Aaq {n most:Int} (h:within n most=true):0<=n/\n<=most:=by simpa [within] using h
theorem Aay {u:Str} (h:bare v=some u):0<=v.authority/\1<=v.number/\v.number<=200:=by
 unfold bare at h;split at h;·cases h
 ·rename_i hc;simp only [Ec,F9,Lu,Ko,Ba,Bq] at hc;obtain⟨⟨⟨⟨⟨h1,h2⟩,_⟩,_⟩,_⟩,_⟩:=hc;have:=Aaq h1;omega
theorem lX (h:bY v=.ok t):0<=v.authority/\1<=v.number/\v.number<=200:=by
 unfold bY at h;cases hb:bare v with
 |none=>rw [hb] at h;cases h
 |some u=>exact Aay hb
theorem Zb {P:Int × Known × Forks->Prop} (chk:Version->Str->Bool) (keys:List Str) (known:Known) (forks:Forks) (v:Version) (h0:∀ e f,P (e,known,f)) (h1:∀ t,bY v=.ok t->v.authority<keys.length->chk v (keys.getD v.authority.toNat [])=true->bH (v.authority,v.number) known=none->P (0,known++[((v.authority,v.number),v)],forks)):P (dV chk keys known forks v):=by
 unfold dV;split;·exact h0 _ _
 ·rename_i t ht;split;·exact h0 _ _
  ·rename_i ha;split;·exact h0 _ _
   ·rename_i hc;split;·rename_i hl;exact h1 t ht (by simpa using ha) (by simpa using hc) hl
    ·split <;> exact h0 _ _
theorem Aaz {keys:List Str} (hG:Good chk keys known) (forks:Forks) (v:Version):Good chk keys (dV chk keys known forks v).2.1:=by
 refine Zb (P:=fun r=>Good chk keys r.2.1) chk keys known forks v (fun _ _=>hG) fun t ht ha hc _=>?_;have hn:=lX ht;have key:∀ p u,(p,u)∈known++[((v.authority,v.number),v)]->(p,u)∈known\/p=(v.authority,v.number)/\u=v:=fun p u hp=>by
  rcases Dp.1 hp with h|h;·exact .inl h
  ·cases Ce.1 h;exact .inr ⟨rfl,rfl⟩
 refine⟨fun p u hp=>?_,fun p u hp=>?_,fun p u hp=>?_,fun p u hp=>?_⟩;all_goals rcases key p u hp with h|⟨rfl,rfl⟩
 ·exact hG.key _ _ h
 ·rfl
 ·exact hG.number _ _ h
 ·exact⟨hn.2.1,hn.2.2⟩
 ·exact hG.authority _ _ h
 ·exact⟨hn.1,ha⟩
 ·exact hG.check _ _ h
 ·exact hc
theorem Aaj (chk:Version->Str->Bool) (keys:List Str) (known:Known) (forks:Forks) (v:Version):(dV chk keys known forks v).2.1.length<=known.length+1 := Zb (P:=fun r=>r.2.1.length<=known.length+1) chk keys known forks v (fun _ _=>Hq _) fun _ _ _ _ _=>by simp
def iE (chk:Version->Str->Bool) (keys:List Str):List Version->Known->Forks->Known × Forks
 |[],known,forks=>(known,forks)
 |v::l,known,forks=>iE chk keys l (dV chk keys known forks v).2.1 (dV chk keys known forks v).2.2
theorem jE {keys:List Str}:∀ (l:List Version) (known:Known) (forks:Forks),Good chk keys known->Good chk keys (iE chk keys l known forks).1
 |[],_,_,h=>h
 |v::l,_,forks,h=>jE l _ _ (Aaz h forks v)
theorem jJ {chk:Version->Str->Bool} {keys:List Str}:∀ (l:List Version) (known:Known) (forks:Forks),(iE chk keys l known forks).1.length<=known.length+l.length
 |[],_,_=>Bg _
 |v::l,known,forks=>by
  have h1:=jJ (chk:=chk) (keys:=keys) l (dV chk keys known forks v).2.1 (dV chk keys known forks v).2.2
  have h2:=Aaj chk keys known forks v
  rw [iE,A8]
  omega
theorem oJ (chk:Version->Str->Bool) (keys:List Str):∀ (l:List Version) (v:Version) (known:Known) (forks:Forks),iE chk keys (l++[v]) known forks=(dV chk keys (iE chk keys l known forks).1 (iE chk keys l known forks).2 v).2
 |[],_,_,_=>rfl
 |_::l,v,_,_=>oJ chk keys l v _ _
theorem pG (chk:Version->Str->Bool) (keys:List Str):Good chk keys []:=⟨fun _ _ h=>(by cases h),fun _ _ h=>(by cases h),fun _ _ h=>(by cases h),fun _ _ h=>(by cases h)⟩
end
end CH
namespace CH
def eH (l:List Str) (most:Nat):Bool:=l.all (fun s=>ZH (s.length<=60))&&ZH (l.length<=most)
def jd (n:Name):Bool:=(n.words.take 20).all (fun s=>ZH (s.length<=100))&&ZH (n.words.length<=20)
def kT (e:Entry):Bool:=(e.names.take 10).all jd&&(ZH (e.id.length<=100)&&ZH (e.names.length<=10))
def jg (c:Change):Bool:=ZH (c.id.length<=100)&&kT c.entry
theorem fJ {α:Type} (p:α->Bool) (l:List α) (k:Nat) (x:α) (h:l[k]?=some x):(l.take (k+1)).all p=((l.take k).all p&&p x):=by rw [CH.aI l k x h,Jg];simp
theorem gJ {α:Type} (p:α->Bool) (l:List α) (k:Nat) (x:α) (h:l[k]?=some x) (hp:p x=false):l.all p=false:=by rw [J9];exact⟨x,Ap h,by simp [hp]⟩
end CH
namespace Go.Proofs.Y
open Go.RowKit Go.Lib CH
theorem Rb (v:ZC) (ls:List Q00) (most:Nat) (w:ZB) (hv:Strs w w v ls) : ZE Tryz.prog 28 #[v,↑most] w (Ret w (.bool (eH ls most))):=by
 obtain⟨a,cap,rfl,hl,hcap,hne⟩:=hv;obtain⟨R,hR⟩:∃ R,Hid (eH ls most=R):=⟨_,Aa rfl⟩
 rw [hR.out];have hne:=Aa hne;obtain⟨N,hN⟩:∃ N,ls.length=N:=⟨_,rfl⟩
 rw [hN] at hl ⊢;have hN:=Aa hN;go_enter Tryz.func28,Tryz.ntmps28;go_wp2_with fail;go_loopw [5] (fun i wr=>∃ k:Nat,k<=N/\i=↑k/\wr=w/\Hid ((ls.take k).all (fun s=>ZH (s.length<=60))=true)) (fun i _=>N - (ZG i).toNat);case atStart=>exact⟨0,Az _,rfl,rfl,Aa rfl⟩
 case round =>
  obtain⟨k,hk,rfl,rfl,hI⟩:=hrel;by_cases hlt:k<N
  ·obtain⟨b,off,rfl,hbl,kj⟩:=hne.out (by intro h;have:=hN.out;simp [h] at this;omega);obtain⟨l,hl'⟩:∃ l,ls[k]?=some l:=⟨_,Ad (by rw [hN.out];exact hlt)⟩
   have hcell:=kj k l hl';clear kj;have hl':=Aa hl';obtain⟨m,hm⟩:∃ m,l.length=m:=⟨_,rfl⟩
   by_cases h60:m<=60
   ·have d:ZH ((60:Int)<(m:Int))=false:=by simp;omega
    have hI':Hid ((ls.take (k+1)).all (fun s=>ZH (s.length<=60))=true):=Aa (by rw [fJ _ ls k l hl'.out,hI.out,hm];simpa using h60);go_wp2;go_roundw;case rel=>exact⟨k+1,oM,by go_num,by first|rfl|trivial,hI'⟩
    case measure=>simp [ZG];omega
   ·have d:ZH ((60:Int)<(m:Int))=true:=by simp;omega
    go_wp2;go_ret;exact⟨by rw [<- hR.out];unfold eH;rw [gJ _ ls k l hl'.out (by rw [hm];simpa using h60)];rfl,Below.refl _ _⟩
  ·obtain rfl:k=N:=oM;have hall:ls.all (fun s=>ZH (s.length<=60))=true:=by have:=hI.out;rwa [<- hN.out,Dn] at this
   go_wp2;go_ret;refine⟨?_,Ac _ _⟩;rw [<- hR.out];unfold eH;rw [hall,hN.out,a_Bool_true_and];congr 2;try (rw [Eh];omega)
theorem Ggu (sc:Int) (v:ZC) (ls:List Q00) (w:ZB) (hv:Strs w w v ls) : ZE Tryz.prog 184 #[.agg #[↑sc,v]] w (Ret w (.bool (jd ⟨sc,ls⟩))):=by
 obtain⟨a,cap,rfl,hl,hcap,hne⟩:=hv;obtain⟨R,hR⟩:∃ R,Hid (jd ⟨sc,ls⟩=R):=⟨_,Aa rfl⟩
 rw [hR.out];have hR1:Hid (((ls.take 20).all (fun s=>ZH (s.length<=100))&&ZH (ls.length<=20))=R):=Aa hR.out;clear hR;have hne:=Aa hne;obtain⟨N,hN⟩:∃ N,ls.length=N:=⟨_,rfl⟩
 rw [hN] at hl hR1 ⊢;have hN:=Aa hN;have hB0:=fun o=>(Ac _ w).alloc nR o;go_enter Tryz.func184,Tryz.ntmps184;go_wp2_with fail;generalize hWd:w.alloc _=W at *;have c1:W.cell? ⟨w,1,none⟩=some (.slice a N cap):=by rw [<- hWd];exact Ab (Aw w _) 1
 have hBW:Below w w W:=by rw [<- hWd];exact hB0 _
 clear hWd hB0;go_loopw [3] (fun i wr=>∃ k:Nat,k<=N/\k<=20/\i=↑k/\wr=W/\Hid ((ls.take k).all (fun s=>ZH (s.length<=100))=true)) (fun i _=>20 - (ZG i).toNat);case atStart=>exact⟨0,Az _,Az _,rfl,rfl,Aa rfl⟩
 case round =>
  obtain⟨k,hk,OA,rfl,rfl,hI⟩:=hrel;by_cases hlt:k<N/\k<20
  ·obtain⟨hlt,DL⟩:=hlt;obtain⟨b,off,rfl,hbl,kj⟩:=hne.out (by intro h;have:=hN.out;simp [h] at this;omega);obtain⟨l,hl'⟩:∃ l,ls[k]?=some l:=⟨_,Ad (by rw [hN.out];exact hlt)⟩
   have hcell:=(hBW.cell (p:=⟨b,off+k,none⟩) hbl).trans (kj k l hl');clear kj;have hl':=Aa hl';obtain⟨m,hm⟩:∃ m,l.length=m:=⟨_,rfl⟩
   have d1:ZH ((k:Int)<(N:Int))=true:=by simp;omega
   have d2:ZH ((k:Int)<20)=true:=by simp;omega
   by_cases h60:m<=100
   ·have d:ZH ((100:Int)<(m:Int))=false:=by simp;omega
    have hI':Hid ((ls.take (k+1)).all (fun s=>ZH (s.length<=100))=true):=Aa (by rw [fJ _ ls k l hl'.out,hI.out,hm];simpa using h60);go_wp2;go_roundw;case rel=>exact⟨k+1,oM,oM,by go_num,by first|rfl|trivial,hI'⟩
    case measure=>simp [ZG];omega
   ·have d:ZH ((100:Int)<(m:Int))=true:=by simp;omega
    go_wp2;go_ret;refine⟨?_,hBW⟩;rw [<- hR1.out,gJ _ (ls.take 20) k l (by rw [Hw DL];exact hl'.out) (by rw [hm];simpa using h60)];rfl
  ·have hall:(ls.take 20).all (fun s=>ZH (s.length<=100))=true:=by
    have hi:=hI.out;by_cases h20:k=20;·rwa [h20] at hi
    ·exact FD153
   have hfin:Hid (ZH (N<=20)=R):=Aa (by rw [<- hR1.out,hall];rfl);have e20:ZH ((N:Int)<=20)=ZH (N<=20):=by rw [Eh];omega
   by_cases h1:k<N
   ·have d1:ZH ((k:Int)<(N:Int))=true:=by simp;omega
    have d2:ZH ((k:Int)<20)=false:=by simp;omega
    go_wp2;go_ret;exact⟨by rw [<- hfin.out,<- e20];rfl,hBW⟩
   ·have d1:ZH ((k:Int)<(N:Int))=false:=by simp;omega
    go_wp2;go_ret;exact⟨by rw [<- hfin.out,<- e20];rfl,hBW⟩
end Go.Proofs.Y
namespace Go.Proofs.Y
section
open Go.Lib Go.Proofs.Tryz Go.RowKit CH
def Fs (B:Nat) (w:ZB) (v:ZC) (ns:List Q05):Prop := ∃ a cap,v=.slice a ns.length cap/\ns.length<=cap/\cap<=9223372036854775807 /\ (ns≠[]->∃ b off,a=some ⟨b,off,none⟩/\b<B/\∀ j n,ns[j]?=some n->∃ vw,w.cell? ⟨b,off+j*2,none⟩=some ↑n.script/\w.cell? ⟨b,off+j*2+1,none⟩=some vw/\Strs B w vw n.words)
theorem Dcy (e:CH.Entry) (v:ZC) (w:ZB) (hv:Fs w w v e.names) : ZE prog 115 #[.agg #[↑e.id,v]] w (Ret w (.bool (kT e))):=by
 obtain⟨id,ls⟩:=e;obtain⟨a,cap,rfl,hl,hcap,hne⟩:=hv;dsimp only at *;obtain⟨R,hR⟩:∃ R,Hid (kT ⟨id,ls⟩=R):=⟨_,Aa rfl⟩
 rw [hR.out];have hR1:Hid (((ls.take 10).all jd&&(ZH (id.length<=100)&&ZH (ls.length<=10)))=R):=Aa hR.out;clear hR;have hne:=Aa hne;obtain⟨N,hN⟩:∃ N,ls.length=N:=⟨_,rfl⟩
 rw [hN] at hl hR1 ⊢;have hN:=Aa hN;have hB0:=fun o=>(Ac _ w).alloc nR o;go_enter func115,ntmps115;go_wp2_with fail;generalize hWd:w.alloc _=W at *;have c0:W.cell? ⟨w,0,none⟩=some ↑id:=by rw [<- hWd];exact Ab (Aw w _) 0
 have c1:W.cell? ⟨w,1,none⟩=some (.slice a N cap):=by rw [<- hWd];exact Ab (Aw w _) 1
 have hBW:Below w w W:=by rw [<- hWd];exact hB0 _
 have hlW:w.heap.size<W.heap.size:=by rw [<- hWd];simp
 clear hWd hB0;go_loopw [3] (fun i wr=>∃ k:Nat,k<=N/\k<=10/\i=↑k/\Hid (Below W W wr)/\Hid ((ls.take k).all jd=true)) (fun i _=>10 - (ZG i).toNat);case atStart=>exact⟨0,Az _,Az _,rfl,Aa (Ac _ _),Aa rfl⟩
 case round =>
  obtain⟨k,hk,hk10,rfl,hBr,hI⟩:=hrel;have k0:=(hBr.out.cell (p:=⟨w,0,none⟩) hlW).trans c0;have k1:=(hBr.out.cell (p:=⟨w,1,none⟩) hlW).trans c1;have hBw:Below w w wr:=hBW.trans (hBr.out.mono hBW.size);by_cases hlt:k<N/\k<10
  ·obtain⟨hlt,DN⟩:=hlt;obtain⟨b,off,rfl,hbl,kj⟩:=hne.out (by intro h;have:=hN.out;simp [h] at this;omega);obtain⟨n,hn'⟩:∃ n,ls[k]?=some n:=⟨_,Ad (by rw [hN.out];exact hlt)⟩
   obtain⟨vw,d1,d2,d3⟩:=kj k n hn';have e1:=(hBw.cell (p:=⟨b,off+k*2,none⟩) hbl).trans d1;have e2:=(hBw.cell (p:=⟨b,off+k*2+1,none⟩) hbl).trans d2;have F:=Aa (Ggu n.script vw n.words wr ((d3.below hBw nR).mono hBw.size));clear kj d1 d2;have hn':=Aa hn';have q1:ZH ((k:Int)<(N:Int))=true:=by simp;omega
   have q2:ZH ((k:Int)<10)=true:=by simp;omega
   obtain⟨fb,hfb⟩:∃ fb,Hid (jd n=fb):=⟨_,Aa rfl⟩
   have F:Hid (ZE prog 184 #[.agg #[↑n.script,vw]] wr (Ret wr (.bool fb))):=Aa (by rw [<- hfb.out];exact F.out);obtain⟨vwa,vwc,rfl,_,_⟩:=d3;generalize n.words.length=nw at *;go_wp2_with fail;refine CmZ F.out fun w1 hb1=>?_;clear F;cases fb with
   |true =>
    have hI':Hid ((ls.take (k+1)).all jd=true):=Aa (by rw [fJ _ ls k n hn'.out,hI.out,hfb.out];rfl);have hB1:Hid (Below W W w1):=Aa (hBr.out.trans (hb1.mono hBr.out.size));go_wp2;go_roundw;case rel=>exact⟨k+1,oM,oM,by go_num,hB1,hI'⟩
    case measure=>simp [ZG];omega
   |false =>go_wp2;go_ret;refine⟨?_,hBw.trans (hb1.mono hBw.size)⟩;rw [<- hR1.out,gJ _ (ls.take 10) k n (by rw [Hw DN];exact hn'.out) hfb.out];rfl
  ·have hall:(ls.take 10).all jd=true:=by
    have hi:=hI.out;by_cases h10:k=10;·rwa [h10] at hi
    ·exact FD153
   have e10:ZH ((N:Int)<=10)=ZH (N<=10):=by rw [Eh];omega
   obtain⟨m,hm⟩:∃ m,id.length=m:=⟨_,rfl⟩
   have e100:ZH ((m:Int)<=100)=ZH (id.length<=100):=by rw [hm,Eh];omega
   have hfin:Hid ((ZH ((m:Int)<=100)&&ZH ((N:Int)<=10))=R):=Aa (by rw [<- hR1.out,hall,e10,e100];rfl);obtain⟨r1,h1⟩:∃ r,ZH ((m:Int)<=100)=r:=⟨_,rfl⟩
   rw [h1] at hfin;clear e10 e100;by_cases h1:k<N
   ·have d1:ZH ((k:Int)<(N:Int))=true:=by simp;omega
    have d2:ZH ((k:Int)<10)=false:=by simp;omega
    cases r1 <;> go_wp2 <;> (go_ret;exact⟨by rw [<- hfin.out];rfl,hBw⟩)
   ·have d1:ZH ((k:Int)<(N:Int))=false:=by simp;omega
    cases r1 <;> go_wp2 <;> (go_ret;exact⟨by rw [<- hfin.out];rfl,hBw⟩)
theorem Arg (c:CH.Change) (v:ZC) (w:ZB) (hv:Fs w w v c.entry.names) : ZE prog 60 #[.agg #[↑c.kind,↑c.id,↑c.entry.id,v,↑c.pos]] w (Ret w (.bool (jg c))):=by
 have hB0:=fun o=>(Ac _ w).alloc nR o;have F:=fun o=>Dcy c.entry v (w.alloc o) (by obtain⟨a,cap,h1,h2,h3,h4⟩:=hv;refine⟨a,cap,h1,h2,h3,fun hne=>?_⟩;obtain⟨b,off,e,hlt,hx⟩:=h4 hne;refine⟨b,off,e,by simp;omega,fun j n hj=>?_⟩;obtain⟨vw,c1,c2,c3⟩:=hx j n hj;exact⟨vw,((hB0 o).cell (p:=⟨b,off+j*2,none⟩) hlt).trans c1,((hB0 o).cell (p:=⟨b,off+j*2+1,none⟩) hlt).trans c2,(c3.below (hB0 o) nR).mono (hB0 o).size⟩);obtain⟨R,hR⟩:∃ R,Hid (jg c=R):=⟨_,Aa rfl⟩
 rw [hR.out];obtain⟨fe,hfe⟩:∃ fe,kT c.entry=fe:=⟨_,rfl⟩
 have hR1:Hid ((ZH (c.id.length<=100)&&fe)=R):=Aa (by rw [<- hfe];exact hR.out);rw [hfe] at F;have F:=Aa F;obtain⟨a,cap,rfl,hl,hcap,hne⟩:=hv;clear hne hR;generalize c.entry.names.length=N at *;obtain⟨m,hm⟩:∃ m,c.id.length=m:=⟨_,rfl⟩
 have e100:ZH ((m:Int)<=100)=ZH (c.id.length<=100):=by rw [hm,Eh];omega
 rw [<- e100] at hR1;obtain⟨r1,h1⟩:∃ r,ZH ((m:Int)<=100)=r:=⟨_,rfl⟩
 rw [h1] at hR1;clear e100;cases r1 with
 |false =>go_enter func60,ntmps60;go_wp2_with fail;go_ret;exact⟨by rw [<- hR1.out];rfl,hB0 _⟩
 |true =>go_enter func60,ntmps60;go_wp2_with fail;refine CmZ (F.out _) fun w1 hb1=>?_;clear F;go_wp2;go_ret;exact⟨by rw [<- hR1.out];rfl,(hB0 _).trans (hb1.mono sM)⟩
end
section
open Go.Lib Go.Proofs.Tryz Go.RowKit Go.Shelf Go.Sort CH
attribute [local irreducible] wpQuiet
theorem S3 (v v':ZC) (ls:List Q00) (w:ZB) (hv:Strs w w v ls) (hv':Strs w w v' ls) : ZE prog 138 #[v,v'] w (Ret w (.bool true)):=by
 obtain⟨a,cap,rfl,hl,hcap,hne⟩:=hv;obtain⟨a',cap',rfl,hl',hcap',hne'⟩:=hv';have hne:=Aa hne;have hne':=Aa hne';obtain⟨N,hN⟩:∃ N,ls.length=N:=⟨_,rfl⟩
 rw [hN] at hl hl' ⊢;have hN:=Aa hN;go_enter func138,ntmps138;exact FD3
theorem Vh (v v':ZC) (ls:List Q00) (w:ZB) (hv:Strs w w v ls) (hv':Strs w w v' ls) : ZE prog 312 #[v,v'] w (Ret w (.bool true)):=by
 obtain⟨a,cap,rfl,hl,hcap,hne⟩:=hv;obtain⟨a',cap',rfl,hl',hcap',hne'⟩:=hv';have hne:=Aa hne;have hne':=Aa hne';obtain⟨N,hN⟩:∃ N,ls.length=N:=⟨_,rfl⟩
 rw [hN] at hl hl' ⊢;have hN:=Aa hN;go_enter func312,ntmps312;exact FD3
theorem Sy (v v':ZC) (ls:List Q00) (w:ZB) (hv:Strs w w v ls) (hv':Strs w w v' ls) : ZE prog 220 #[v,v'] w (Ret w (.bool true)):=by
 obtain⟨a,cap,rfl,hl,hcap,hne⟩:=hv;obtain⟨a',cap',rfl,hl',hcap',hne'⟩:=hv';have hne:=Aa hne;have hne':=Aa hne';obtain⟨N,hN⟩:∃ N,ls.length=N:=⟨_,rfl⟩
 rw [hN] at hl hl' ⊢;have hN:=Aa hN;go_enter func220,ntmps220;exact FD3
theorem Kl (v v':ZC) (ls:List Q00) (w:ZB) (hv:Strs w w v ls) (hv':Strs w w v' ls) : ZE prog 219 #[v,v'] w (Ret w (.bool true)):=by
 obtain⟨a,cap,rfl,hl,hcap,hne⟩:=hv;obtain⟨a',cap',rfl,hl',hcap',hne'⟩:=hv';have hne:=Aa hne;have hne':=Aa hne';obtain⟨N,hN⟩:∃ N,ls.length=N:=⟨_,rfl⟩
 rw [hN] at hl hl' ⊢;have hN:=Aa hN;go_enter func219,ntmps219;exact FD3
theorem Fs.grow {w W:ZB} {v:ZC} {ns:List Q05} (h:Fs w w v ns) (hb:Below w w W):Fs W W v ns:=by obtain⟨a,cap,h1,h2,h3,h4⟩:=h;refine⟨a,cap,h1,h2,h3,fun hne=>?_⟩;obtain⟨b,off,e,hlt,hc⟩:=h4 hne;refine⟨b,off,e,Ae hlt hb.size,fun j n hj=>?_⟩;obtain⟨vw,c1,c2,c3⟩:=hc j n hj;exact⟨vw,(hb.cell (p:=⟨b,off+j*2,none⟩) hlt).trans c1,(hb.cell (p:=⟨b,off+j*2+1,none⟩) hlt).trans c2,(c3.below hb nR).mono hb.size⟩
theorem M7 (w:ZB) (o1 o2:Obj):((w.alloc o1).alloc o2).heap[w.heap.size]?=some o1/\((w.alloc o1).alloc o2).heap[w.heap.size+1]?=some o2 := ⟨(((Ac _ (w.alloc o1)).alloc nR o2).block w.heap.size sM).trans (Aw w o1),by have:=Aw (w.alloc o1) o2;simpa using this⟩
theorem Cal (sc:Int) (v v':ZC) (ls:List Q00) (w:ZB) (hv:Strs w w v ls) (hv':Strs w w v' ls) : ZE prog 273 #[.agg #[↑sc,v],.agg #[↑sc,v']] w (Ret w (.bool true)):=by have T:=Aa fun (W:ZB) (hb:Below w w W)=>Vh v v' ls W ((hv.below hb nR).mono hb.size) ((hv'.below hb nR).mono hb.size);have hB0:=Aa fun o o2=>((Ac _ w).alloc nR o).alloc sM o2;obtain⟨a,cap,rfl,_,_,_⟩:=hv;obtain⟨a',cap',rfl,_,_,_⟩:=hv';generalize ls.length=n at *;go_enter func273,ntmps273;go_wp2_with fail;refine CmZ (T.out _ (hB0.out _ _)) fun w1 hb1=>?_;have hB1:=(hB0.out _ _).trans (hb1.mono (hB0.out _ _).size);clear T;exact FD25
theorem Z6 (e:CH.Entry) (v v':ZC) (w:ZB) (hv:Fs w w v e.names) (hv':Fs w w v' e.names) : ZE prog 217 #[.agg #[↑e.id,v],.agg #[↑e.id,v']] w (Ret w (.bool true)):=by
 obtain⟨id,ls⟩:=e;obtain⟨a,cap,rfl,hl,hcap,hne⟩:=hv;obtain⟨a',cap',rfl,hl',hcap',hne'⟩:=hv';dsimp only at *;have hne:=Aa hne;have hne':=Aa hne';obtain⟨N,hN⟩:∃ N,ls.length=N:=⟨_,rfl⟩
 rw [hN] at hl hl' ⊢;have hN:=Aa hN;have hB0:=fun o o2=>((Ac _ w).alloc nR o).alloc sM o2;have A2:=M7 w;go_enter func217,ntmps217;go_wp2_with fail;generalize hWd:(w.alloc _).alloc _=W at *;have c1:W.cell? ⟨w,1,none⟩=some (.slice a N cap):=by rw [<- hWd];exact Ab (A2 _ _).1 1
 have c1':W.cell? ⟨w+1,1,none⟩=some (.slice a' N cap'):=by rw [<- hWd];exact Ab (A2 _ _).2 1
 have hBW:Below w w W:=by rw [<- hWd];exact hB0 _ _
 have hlW:w.heap.size+1<W.heap.size:=by rw [<- hWd];simp
 clear hWd hB0 A2;go_loopw [5] (fun i wr=>∃ k:Nat,k<=N/\i=↑k/\Hid (Below W W wr)) (fun i _=>N - (ZG i).toNat);case atStart=>exact⟨0,Az _,rfl,Aa (Ac _ _)⟩
 case round =>
  obtain⟨k,hk,rfl,hBr⟩:=hrel;have k1:=(hBr.out.cell (p:=⟨w,1,none⟩) (by show w.heap.size<_;omega)).trans c1;have k1':=(hBr.out.cell (p:=⟨w+1,1,none⟩) hlW).trans c1';have hBw:Below w w wr:=hBW.trans (hBr.out.mono hBW.size);by_cases hlt:k<N
  ·obtain⟨b,off,rfl,hbl,kj⟩:=hne.out (by intro h;have:=hN.out;simp [h] at this;omega);obtain⟨b',off',rfl,gV,hcells'⟩:=hne'.out (by intro h;have:=hN.out;simp [h] at this;omega);obtain⟨n,hn'⟩:∃ n,ls[k]?=some n:=⟨_,Ad (by rw [hN.out];exact hlt)⟩
   obtain⟨vw,d1,d2,d3⟩:=kj k n hn';obtain⟨vw',d1',d2',d3'⟩:=hcells' k n hn';have e1:=(hBw.cell (p:=⟨b,off+k*2,none⟩) hbl).trans d1;have e2:=(hBw.cell (p:=⟨b,off+k*2+1,none⟩) hbl).trans d2;have e1':=(hBw.cell (p:=⟨b',off'+k*2,none⟩) gV).trans d1';have e2':=(hBw.cell (p:=⟨b',off'+k*2+1,none⟩) gV).trans d2';have F:=Aa fun (W:ZB) (hb:Below wr wr W)=>Cal n.script vw vw' n.words W ((d3.below (hBw.trans (hb.mono hBw.size)) nR).mono (Af hBw.size hb.size)) ((d3'.below (hBw.trans (hb.mono hBw.size)) nR).mono (Af hBw.size hb.size));clear kj hcells' d1 d2 d1' d2' hn';obtain⟨vwa,vwc,rfl,_,_⟩:=d3;obtain⟨IC,GZ,rfl,_,_⟩:=d3';generalize n.words.length=nw at *;have z0:(0:Int)<=(k:Int):=oM;have zk:((k:Int)).toNat=k:=oM;have hk':(k:Int)<(N:Int):=oM;have g0:∀ (d:Nat) (os:Array Obj),(grow (ZI wr d) os).cell? ⟨w,1,none⟩=some (.slice (some ⟨b,off,none⟩) N cap):=Ag k1;have g0':∀ (d:Nat) (os:Array Obj),(grow (ZI wr d) os).cell? ⟨w+1,1,none⟩=some (.slice (some ⟨b',off',none⟩) N cap'):=Ag k1';have g1:∀ (d:Nat) (os:Array Obj),(grow (ZI wr d) os).cell? ⟨b,off+k*2,none⟩=some ↑n.script:=Ag e1;have g2:∀ (d:Nat) (os:Array Obj),(grow (ZI wr d) os).cell? ⟨b,off+k*2+1,none⟩=some (.slice vwa nw vwc):=Ag e2;have g1':∀ (d:Nat) (os:Array Obj),(grow (ZI wr d) os).cell? ⟨b',off'+k*2,none⟩=some ↑n.script:=Ag e1';have g2':∀ (d:Nat) (os:Array Obj),(grow (ZI wr d) os).cell? ⟨b',off'+k*2+1,none⟩=some (.slice IC nw GZ):=Ag e2';go_wp2_with fail;refine Ar kR kR ?_;repeat (quiet_step ((with_reducible exact Bc (F.out _ (D6 _ _ _)))))
   refine Bv ?_;intro wq hbq;replace hbq:=An hbq;clear F g0 g0' g1 g2 g1' g2' e1 e2 e1' e2' k1 k1';have hb1:=hbq;have hB1:Hid (Below W W wq):=Aa (hBr.out.trans (hb1.mono hBr.out.size));go_wp2;go_roundw;case rel=>exact⟨k+1,oM,by go_num,hB1⟩
   case measure=>simp [ZG];omega
  ·obtain rfl:k=N:=oM;go_wp2;go_ret;exact⟨rfl,hBw⟩
theorem Ng (c:CH.Change) (v v':ZC) (w:ZB) (hv:Fs w w v c.entry.names) (hv':Fs w w v' c.entry.names) : ZE prog 139 #[.agg #[↑c.kind,↑c.id,↑c.entry.id,v,↑c.pos],.agg #[↑c.kind,↑c.id,↑c.entry.id,v',↑c.pos]] w (Ret w (.bool true)):=by
 have hB0:=Aa fun o o2=>((Ac _ w).alloc nR o).alloc sM o2;have F:=Aa fun (W:ZB) (hb:Below w w W)=>Z6 c.entry v v' W (hv.grow hb) (hv'.grow hb);have A2:=M7 w;obtain⟨a,cap,rfl,hl,hcap,_⟩:=hv;obtain⟨a',cap',rfl,hl',hcap',_⟩:=hv';generalize c.entry.names.length=N at *;go_enter func139,ntmps139;go_wp2_with fail;have B:=hB0.out;generalize hWd:(w.alloc _).alloc _=W at *;have c4:W.cell? ⟨w,4,none⟩=some ↑c.pos:=by rw [<- hWd];exact Ab (A2 _ _).1 4
 have c4':W.cell? ⟨w+1,4,none⟩=some ↑c.pos:=by rw [<- hWd];exact Ab (A2 _ _).2 4
 have hBW:Below w w W:=by rw [<- hWd];exact B _ _
 have hlW:w.heap.size+1<W.heap.size:=by rw [<- hWd];simp
 clear hWd hB0 A2 B;refine CmZ (F.out _ hBW) fun w1 hb1=>?_;have k4:=(hb1.cell (p:=⟨w,4,none⟩) (by show w.heap.size<_;omega)).trans c4;have k4':=(hb1.cell (p:=⟨w+1,4,none⟩) hlW).trans c4';have hB1:=hBW.trans (hb1.mono hBW.size);clear F;exact FD25
end
end Go.Proofs.Y
abbrev Q03:=CH.Forks
abbrev Q04:=CH.Known
