/- ChainTexts, part 6 of 31. -/
import Derived.Test.YtkboocifdaebgaaGreatDoorP02
import Derived.StillTail
import Derived.Shelf.SlIter.Nil
import Derived.Shelf.SortM.Plain
import Derived.Shelf.SortM.SortNone
set_option linter.all false
set_option maxHeartbeats 40000000
set_option maxRecDepth 100000
open Go renaming World -> ZB, Value -> ZC
open Go.RowKit renaming intOf -> ZG
open Decidable renaming decide -> ZH
namespace Go.Proofs.Y
section
open Go.Lib Go.Proofs.Tryz Go.RowKit Go.Shelf Go.Sort CH
section
open CH
variable {P:Program} {ops:Array Oper} {md:Region.Mode} {C:ZB->Prop}
def U7 (P:Program) (md:Region.Mode) (ops:Array Oper) (C:ZB->Prop) (n:Nat) (L:Array Bool->Act->Prop):Nat->Array Bool->Act->Prop
 |0,kx,a=>L kx a
 |f+1,kx,a=>Region.ready md ops kx≠[]/\∀ i∈Region.ready md ops kx,i<n/\qOp P ops C i (U7 P md ops C n L f (kx.setIfInBounds i true)) a
theorem Xs {n g:Nat} {L:Array Bool->Act->Prop} {Q:Exit->Act->ZB->Prop} (hL:∀ kx a w,C w->L kx a->wpAny P md ops Q g kx a w) :
  ∀ (f:Nat) (kx:Array Bool) (a:Act) (w:ZB),C w->U7 P md ops C n L f kx a->wpAny P md ops Q (f+g) kx a w
 |0,kx,a,w,hw,h=>by rw [Ba];exact hL _ _ _ hw h
 |f+1,kx,a,w,hw,h=>by
  rw [Nat.add_right_comm]
  exact⟨fun h0=>(h.1 h0).elim,fun i hi=>wpOp_of_qOp hw (fun a' w' hw' h'=>Xs hL f _ a' w' hw' h') (h.2 i hi).2⟩
theorem B7c {n i:Nat} {oi:Oper} {v:ZC} {L:Array Bool->Act->Prop} (hi:ops[i]?=some oi) (hsel:Region.noSelect ops=true) (hs:Region.sinkB md ops n=true) (hc:Region.chainB md ops n=true) (hn:n<ops.size) (hin:i<n) (hdone:∀ kx a,L kx a->∀ j∈Region.ready md ops kx,n<=j) : ∀ (f:Nat) (kx:Array Bool) (a:Act),HeadInv md ops n kx -> (∀ j oj,ops[j]?=some oj->j≠i->kx.getD j true=false->(∀ e∈oj.after,Region.binds md e=true->e.on≠i)->oi.apart ops oj=true) -> i∈Region.ready md ops kx->YieldsIn P ops C oi v a->U7 P md ops C n L f (kx.setIfInBounds i true) (a.put oi.dst v)->U7 P md ops C n L (f+1) kx a:=by
 intro f;induction f with
 |zero =>
  intro kx a inv _ hr hy H;refine⟨List.ne_nil_of_mem hr,fun j hj=>?_⟩;have hjn:j<n:=Nat.lt_of_not_le fun h=>tail_waits hs hc hn inv _ i rfl hin (Jd.1 hr).1 j h hj;refine⟨hjn,?_⟩;by_cases hji:j=i;·subst hji;exact hy.qOp hi H
  ·exact absurd (hdone _ _ H j (ready_mono hj hji)) oM
 |succ f ih =>
  intro kx a inv hfree hr hy H;have hun:=(Jd.1 hr).1;refine⟨List.ne_nil_of_mem hr,fun j hj=>?_⟩;have hjn:j<n:=Nat.lt_of_not_le fun h=>tail_waits hs hc hn inv _ i rfl hin hun j h hj;refine⟨hjn,?_⟩;by_cases hji:j=i;·subst hji;exact hy.qOp hi H
  ·obtain⟨hjun,oj,hoj,hall⟩:=Jd.1 hj;have hnot:∀ e∈oj.after,Region.binds md e=true->e.on≠i:=fun e he hb heq=>by have h1:=hall e he hb;rw [heq,getD_both hun] at h1;cases h1
   have h2:=qOp_put hoj (hfree j oj hoj hji hjun hnot) (fun cs b=>Region.noSelect_spec hsel i oi cs b hi) (fun cs b=>Region.noSelect_spec hsel j oj cs b hoj) hy (H.2 j (ready_mono hj hji)).2;refine qOp_mono (fun a' h3=>ih (kx.setIfInBounds j true) a' (inv.set hj hjn) ?_ (ready_mono hr (Ne.symm hji)) h3.1 ?_) h2
   ·intro k ok hk hki OG hno;refine hfree k ok hk hki ?_ hno;by_cases hjk:j=k;·subst hjk;exact hjun
    ·rwa [getD_set_ne true hjk] at OG
   ·rw [Array.setIfInBounds_comm _ _ hji];exact h3.2
theorem X5 {n g:Nat} {Lq:Act->Prop} (hsel:Region.noSelect ops=true) (hs:Region.sinkB md ops n=true) (hc:Region.chainB md ops n=true) (hn:n<ops.size) :
  ∀ (l:List Oper) (k:Nat) (kx:Array Bool) (a:Act),(∀ j,j<l.length->l[j]?=ops[k+j]?)->k+l.length=n->HeadInv md ops n kx ->
  Region.lexHead md ops g l.length k kx=true->wpQuiet P ops C Lq l a->U7 P md ops C n (fun listed' a'=>Region.seqB md ops g n listed'=true/\Lq a') l.length kx a
 |[],k,kx,a,_,hk,_,hB,h=>by
  obtain rfl:k=n:=by simpa using hk
  exact⟨by simpa [Region.lexHead] using hB,h⟩
 |o::l,k,kx,a,hl,hk,inv,hB,h=>by
  have h0:ops[k]?=some o:=by simpa using (hl 0 sM).symm
  simp only [Ap] at hk
  simp only [Ap,Region.lexHead,Aq] at hB
  have hr:k∈Region.ready md ops kx:=by simpa using hB.1.1
  obtain⟨v,hy,hK⟩:=yieldsIn_of_qOp (C:=C) (K:=wpQuiet P ops C Lq l) h0 (by unfold qOp;simp only [h0];exact h)
  refine B7c h0 hsel hs hc hn oM (fun _ _ hL=>seqB_ready hL.1) l.length kx a inv (Region.free_spec h0 hB.1.2) hr hy ?_
  exact X5 hsel hs hc hn l (k+1) _ _ (fun j hj=>by have:=hl (j+1) naf;simpa [Lu,Nat.add_comm 1 j] using this) oM (inv.set hr oM) hB.2 hK
theorem Ha {id:Nat} {Q:Exit->Act->ZB->Prop} {a:Act} {w:ZB} {l:List Oper} (n:Nat) (hm:P.follows .mixedOrders=true) (hB:Region.lexTailB .any l.toArray n=true) (h:wpQuiet P l.toArray (fun w'=>∃ p:Regrown,w'=grow (redrawn w p.d) p.os) (fun a'=>∀ w',(∃ p:Regrown,w'=grow (redrawn w p.d) p.os)->wpList P l.toArray Q (l.drop n) a' w') (l.take n) a):(Code.region id l.toArray true).wp P Q a w:=by
 simp only [Region.lexTailB,Aq,Bj] at hB;obtain⟨⟨⟨⟨hsel,hn⟩,hs⟩,hc⟩,hlex⟩:=hB;have hn':n<l.length:=by simpa using hn
 have htl:(l.take n).length=n:=naf;have hdl:(l.drop n).length=l.toArray.size - n:=sM;have inv0:HeadInv .any l.toArray n (Array.replicate l.toArray.size false) := ⟨sM,fun j oj _ hl=>(by rw [getD_replicate_false] at hl;cases hl),fun t _ ht=>getD_in (by simpa using ht) (getD_replicate_false _ _)⟩
 have H:=X5 (md:=.any) (g:=l.toArray.size - n) hsel hs hc hn (l.take n) 0 _ a (fun j hj=>by
  have hj':j<n:=by rw [htl] at hj;exact hj
  simp [hj']) (by simpa using htl) inv0 (by rw [htl];exact hlex) h
 refine wp_region_any hm ?_;have:=Xs (Q:=Q) (g:=l.toArray.size - n) (fun kx a' w' hw' hL=>by have:=wpAny_of_seq (md:=.any) (Q':=Q) (l.drop n) n kx a' w' (fun j=>by simp [Ht]) (by rw [hdl];exact hL.1) (hL.2 w' hw');rwa [hdl] at this) _ _ _ _ ⟨⟨w.drawn+1,#[]⟩,by rw [grow_empty]⟩ H;rw [htl,show n+(l.toArray.size - n)=l.toArray.size by omega] at this;exact this
def Wb (kx:Array Bool):Nat:=(kx.toList.filter (!·)).length
theorem Un {kx:Array Bool} {i:Nat} (h:kx.getD i true=false):Wb (kx.setIfInBounds i true)+1=Wb kx:=by
 obtain⟨l⟩:=kx;have hl:l[i]?=some false:=by
  cases e:l[i]? with
  |none=>simp [e] at h
  |some b=>simp [e] at h;rw [h]
 simp only [Wb,List.setIfInBounds_toArray];clear h;induction l generalizing i with
 |nil=>simp at hl
 |cons b l ih =>
  cases i with
  |zero =>
   have hb:b=false:=by simpa using hl
   subst hb;simp
  |succ i =>have:=ih (by simpa using hl);cases b <;> simp [this]
theorem Col {kx:Array Bool} (h:Wb kx=0):Region.ready md ops kx=[]:=by
 cases hr:Region.ready md ops kx with
 |nil=>rfl
 |cons i l =>
  have hi:i∈Region.ready md ops kx:=by rw [hr];simp
  have:=Un (Jd.1 hi).1;omega
end
end
section
open Go.Lib Go.Proofs.Tryz Go.RowKit Go.Shelf Go.Sort CH
def A6 (m:aC) (vk:ZC):List ZC := [↑m.id,↑m.authority,↑m.kind,↑m.target,↑m.aB.op,↑m.aB.name,↑m.aB.cmp,↑m.aB.n,vk,↑m.start,↑m.aF,↑m.aQ]
theorem Let (m:aC) (ak:Option Addr) (nk ck:Nat) (w:ZB) : Calls prog 108 #[.agg (A6 m (.slice ak nk ck)).toArray] w (Ret w (.bool (dM m))):=by
 obtain⟨r,hr⟩:=naa (dM m);rw [hr];unfold dM at hr;dsimp only [A6];generalize m.aB=f at *;generalize m.id=id at *;generalize m.authority=au at *;generalize m.target=tg at *;generalize m.kind=kd at *;generalize m.start=st at *;generalize m.aF=un at *;generalize m.aQ=wi at *;dsimp only at hr;obtain⟨wm,hwm⟩:=naa ((if kd=1 then (400:Int) else 0):Int);rw [hwm] at hr;obtain⟨b1,h1⟩:=naa (un==-1);obtain⟨b2,h2⟩:=naa (ZH (st<un));obtain⟨b3,h3⟩:=naa (ZH (un<=100000));obtain⟨b4,h4⟩:=naa (ZH (0<=st));obtain⟨b5,h5⟩:=naa (ZH (st<=100000));obtain⟨b6,h6⟩:=naa (ZH (0<=wi));have hr':((b4&&(b5&&((b1||b2&&b3)&&(b6&&ZH (wi<=wm))))):Bool)=r:=by rw [<- hr,<- h1,<- h2,<- h3,<- h4,<- h5,<- h6]
 clear hr;replace hr':=Aa hr';go_in;by_cases hk:kd=1
 ·have z1:(kd==1)=true:=by simpa using hk
  rw [Ah hk] at hwm;exact FD22
 ·have z1:(kd==1)=false:=by simpa using hk
  rw [Ai hk] at hwm;exact FD22
end
end Go.Proofs.Y
namespace Go.Proofs
section
open Go.Proofs.Tryz Go.Shelf CH
def Tryz.qx:Go.Shelf.Ren:=⟨fun|7=>243|10=>287|n=>n,fun|23=>183|26=>9|3=>4|28=>276|0=>0|27=>275|33=>112|4=>4|n=>n,fun|n=>n⟩
theorem Tryz.xB:Go.Proofs.SlLaysZ.n7 prog Tryz.qx:={
 mixed:=by kernel_rfl
 f7:=⟨Tryz.f243.name,by decide,func243.trans (congrArg some (by kernel_rfl))⟩
 f10:=⟨Tryz.f287.name,by decide,func287.trans (congrArg some (by kernel_rfl))⟩
 t0:=underlying0
 a0:=isAgg0
 z0:=sizeOf0
 v0:=zeroValue0
 t4:=underlying4
 a4:=isAgg4
 z4:=sizeOf4
 v4:=zeroValue4
 t23:=underlying183
 a23:=isAgg183
 z23:=sizeOf183
 v23:=zeroValue183
 t26:=underlying9
 a26:=isAgg9
 z26:=sizeOf9
 v26:=zeroValue9
 t27:=underlying275
 a27:=isAgg275
 z27:=sizeOf275
 v27:=zeroValue275
 t28:=underlying276
 a28:=isAgg276
 z28:=sizeOf276
 v28:=zeroValue276
 t33:=underlying112
 a33:=isAgg112
 z33:=sizeOf112
 v33:=zeroValue112 }
def Tryz.mP:Go.Shelf.Ren:=⟨fun|6=>242|8=>285|9=>286|11=>306|13=>232|12=>307|23=>280|24=>265|14=>315|15=>316|16=>317|17=>318|18=>319|19=>320|20=>321|21=>322|22=>323|25=>328|26=>302|27=>303|28=>329|29=>330|30=>331|31=>334|n=>n,fun|26=>9|28=>276|24=>23|0=>0|3=>3|37=>222|48=>216|50=>154|4=>4|40=>347|39=>346|45=>351|5=>5|9=>9|51=>368|55=>372|57=>382|58=>315|33=>112|n=>n,fun|n=>n⟩
theorem Tryz.xW:Go.Proofs.SlLaysZ.n6 prog Tryz.mP:={
 mixed:=by kernel_rfl
 f6:=⟨Tryz.f242.name,by decide,func242.trans (congrArg some (by kernel_rfl))⟩
 f8:=⟨Tryz.f285.name,by decide,func285.trans (congrArg some (by kernel_rfl))⟩
 f11:=⟨Tryz.f306.name,by decide,func306.trans (congrArg some (by kernel_rfl))⟩
 t0:=underlying0
 a0:=isAgg0
 z0:=sizeOf0
 v0:=zeroValue0
 t24:=underlying23
 a24:=isAgg23
 z24:=sizeOf23
 v24:=zeroValue23
 t26:=underlying9
 a26:=isAgg9
 z26:=sizeOf9
 v26:=zeroValue9
 t28:=underlying276
 a28:=isAgg276
 z28:=sizeOf276
 v28:=zeroValue276
 i26:=by kernel_rfl }
def Tryz.uI:Go.Shelf.Ren:=⟨fun|6=>286|8=>232|9=>307|19=>280|20=>265|21=>315|22=>316|23=>317|24=>318|25=>319|26=>320|27=>321|28=>322|29=>323|36=>328|31=>302|32=>303|37=>329|38=>330|39=>331|41=>334|n=>n,fun|27=>23|29=>9|3=>3|32=>222|26=>23|0=>0|44=>216|46=>154|4=>4|36=>347|35=>346|41=>351|5=>5|9=>9|53=>368|57=>372|63=>382|64=>315|n=>n,fun|n=>n⟩
theorem Tryz.wX:Go.Proofs.SlLaysM.n6 prog Tryz.uI:={
 mixed:=by kernel_rfl
 f6:=⟨Tryz.f286.name,by decide,func286.trans (congrArg some (by kernel_rfl))⟩
 f8:=func232.trans (congrArg some (by kernel_rfl))
 f9:=⟨Tryz.f307.name,by decide,func307.trans (congrArg some (by kernel_rfl))⟩
 f19:=func280.trans (congrArg some (by kernel_rfl))
 f20:=func265.trans (congrArg some (by kernel_rfl))
 f21:=⟨Tryz.f315.name,by decide,func315.trans (congrArg some (by kernel_rfl))⟩
 f22:=⟨Tryz.f316.name,by decide,func316.trans (congrArg some (by kernel_rfl))⟩
 f23:=⟨Tryz.f317.name,by decide,func317.trans (congrArg some (by kernel_rfl))⟩
 f24:=⟨Tryz.f318.name,by decide,func318.trans (congrArg some (by kernel_rfl))⟩
 f25:=⟨Tryz.f319.name,by decide,func319.trans (congrArg some (by kernel_rfl))⟩
 f26:=⟨Tryz.f320.name,by decide,func320.trans (congrArg some (by kernel_rfl))⟩
 f27:=⟨Tryz.f321.name,by decide,func321.trans (congrArg some (by kernel_rfl))⟩
 f28:=⟨Tryz.f322.name,by decide,func322.trans (congrArg some (by kernel_rfl))⟩
 f29:=⟨Tryz.f323.name,by decide,func323.trans (congrArg some (by kernel_rfl))⟩
 f31:=func302.trans (congrArg some (by kernel_rfl))
 f32:=func303.trans (congrArg some (by kernel_rfl))
 f36:=⟨Tryz.f328.name,by decide,func328.trans (congrArg some (by kernel_rfl))⟩
 f37:=⟨Tryz.f329.name,by decide,func329.trans (congrArg some (by kernel_rfl))⟩
 f38:=⟨Tryz.f330.name,by decide,func330.trans (congrArg some (by kernel_rfl))⟩
 f39:=⟨Tryz.f331.name,by decide,func331.trans (congrArg some (by kernel_rfl))⟩
 f41:=⟨Tryz.f334.name,by decide,func334.trans (congrArg some (by kernel_rfl))⟩
 t0:=underlying0
 a0:=isAgg0
 z0:=sizeOf0
 v0:=zeroValue0
 t3:=underlying3
 a3:=isAgg3
 z3:=sizeOf3
 v3:=zeroValue3
 t4:=underlying4
 a4:=isAgg4
 z4:=sizeOf4
 v4:=zeroValue4
 t5:=underlying5
 a5:=isAgg5
 z5:=sizeOf5
 v5:=zeroValue5
 t9:=underlying9
 a9:=isAgg9
 z9:=sizeOf9
 v9:=zeroValue9
 t26:=underlying23
 a26:=isAgg23
 z26:=sizeOf23
 v26:=zeroValue23
 t27:=underlying23
 a27:=isAgg23
 z27:=sizeOf23
 v27:=zeroValue23
 t29:=underlying9
 a29:=isAgg9
 z29:=sizeOf9
 v29:=zeroValue9
 t32:=underlying222
 a32:=isAgg222
 z32:=sizeOf222
 v32:=zeroValue222
 t35:=underlying346
 a35:=isAgg346
 z35:=sizeOf346
 v35:=zeroValue346
 t36:=underlying347
 a36:=isAgg347
 z36:=sizeOf347
 v36:=zeroValue347
 t41:=underlying351
 a41:=isAgg351
 z41:=sizeOf351
 v41:=zeroValue351
 t44:=underlying216
 a44:=isAgg216
 z44:=sizeOf216
 v44:=zeroValue216
 t46:=underlying154
 a46:=isAgg154
 z46:=sizeOf154
 v46:=zeroValue154
 t53:=underlying368
 a53:=isAgg368
 z53:=sizeOf368
 v53:=zeroValue368
 t57:=underlying372
 a57:=isAgg372
 z57:=sizeOf372
 v57:=zeroValue372
 t63:=underlying382
 a63:=isAgg382
 z63:=sizeOf382
 v63:=zeroValue382
 t64:=underlying315
 a64:=isAgg315
 z64:=sizeOf315
 v64:=zeroValue315 }
open Go.RowKit Go.Maps Go.Sort Go.Shelf CH in
theorem Tryz.yI (m:Nat):AnyZ.SortsIn prog Tryz.mP Fence.wide m := ⟨fun blk off cap ss W hH hblk hsz=>callsIn_wide.2 (AnyM.slices_Sort_string Tryz.wX blk off cap ss W hH hblk hsz), fun p cap W=>callsIn_wide.2 (AnyM.slices_Sort_string_none Tryz.wX p cap W)⟩
open Go.RowKit Go.Maps Go.Sort Go.Shelf CH in
theorem Tryz.rV (mb:Option Nat) (W:ZB):CallsIn Fence.wide 5 prog 243 #[.map mb] W fun e w'=>e=.returned (.func (.func 287) #[] #[.pointer (some ⟨W.heap.size,0,none⟩)])/\w'=W.alloc (.cells #[.map mb] 183) := AnyZ.keys_in Tryz.xB Fence.wide 5 trivial rfl mb W
open Go.RowKit Go.Maps Go.Sort Go.Shelf CH in
theorem Tryz.jF {H:Type} (b nn:Nat) (D0:DataW H) (R:ZC->Option (DataW H × List MemPlace)) (w:ZB) (hown:w.ownsMap prog 9 R b nn D0) (hmax:Maps.size D0<=maxLen) (hbytes:Maps.size D0*16<=140737488355328) : CallsIn Fence.wide 5 prog 242 #[.func (.func 287) #[] #[.pointer (some ⟨w.heap.size,0,none⟩)]] (w.alloc (.cells #[.map (some b)] 183)) fun e w'=>∃ (v:ZC) (ss:List Q00),e=.returned v/\ss.Perm (strKeys D0) /\ w'.ownsRow (w.alloc (.cells #[.map (some b)] 183)).heap.size 9 1 v ss.length ((ss.mergeSort (fun x y=>ZH (x<=y))).map encStr)/\(v=.slice none 0 0↔ss=[])/\Below (w.alloc (.cells #[.map (some b)] 183)).heap.size (w.alloc (.cells #[.map (some b)] 183)) w':=by have hbl:=hown.lt;have hseq:SeqGives Fence.wide 2 prog 287 #[.pointer (some ⟨w.heap.size,0,none⟩)] encStr (fun ss=>ss.Perm (strKeys D0)) (Maps.size D0) (w.alloc (.cells #[.map (some b)] 183)) := AnyZ.keys_gives (ρ:=Tryz.qx) { Tryz.xB with } Fence.wide _ trivial rfl (by omega) w.heap.size b nn D0 _ (by simp) (by simp) (by obtain⟨es,clock,hb,Ft,hs,hD⟩:=hown;exact⟨es,clock,(Below.heap_alloc _ _ b hbl).trans hb,Ft,hs,hD⟩);exact AnyZ.sorted_in Tryz.xW Fence.wide 5 trivial trivial trivial trivial rfl (by omega) (Tryz.yI _) (enters_of func286 (by kernel_rfl) rfl) 287 #[.pointer (some ⟨w.heap.size,0,none⟩)] trivial (enters_of func287 (by kernel_rfl) rfl) _ _ hmax hbytes _ hseq
end
end Go.Proofs
namespace CH
section
open Go.Sort
section
variable {α:Type} [Inhabited α]
theorem Ada (l m:List α) (x y:α):swp (l++x::y::m).toArray (l.length+1) l.length=(l++y::x::m).toArray:=by have hx:(l++x::y::m).toArray[l.length]! =x:=sM;have hy:(l++x::y::m).toArray[l.length+1]! =y:=sM;unfold swp;rw [hx,hy];simp
theorem Ab8 (L:List α) (j:Nat) (h:j+1<L.length):∃ l x y m,L=l++x::y::m/\L.toArray[j]! =x/\L.toArray[j+1]! =y/\(swp L.toArray (j+1) j).toList=l++y::x::m:=by
 have e1:L=L.take j++L[j]::L[j+1]::L.drop (j+2):=by conv=>lhs;rw [<- Fb j L,Ei oM,Ei oM]
 have hx:L.toArray[j]! =L[j]:=by simp [show j<L.length from by omega]
 have hy:L.toArray[j+1]! =L[j+1]:=by simp [h]
 refine⟨L.take j,L[j],L[j+1],L.drop (j+2),e1,hx,hy,?_⟩;have ht:(L.take j).length=j:=by rw [C9];omega
 have:=Ada (L.take j) (L.drop (j+2)) L[j] L[j+1];rw [<- e1,ht] at this;rw [this]
theorem U5 {lt:α->α->Bool} {I:List α->Prop} (hI:∀ (l m:List α) (x y:α),lt y x=true->I (l++x::y::m)->I (l++y::x::m)) (a:Nat):∀ (j:Nat) (L:List α),j<L.length->I L->I (insInner lt a j L.toArray).toList/\(insInner lt a j L.toArray).size=L.length
 |0,L,_,h=>⟨h,rfl⟩
 |j+1,L,hj,h=>by
  rw [insInner]
  split
  ·rename_i hc
   simp only [Aq,Bj] at hc
   obtain⟨l,x,y,m,e,hx,hy,hs⟩:=Ab8 L j hj
   rw [hx,hy] at hc
   have h':=hI l m x y hc.2 (e ▸ h)
   have hl:(l++y::x::m).length=L.length:=by rw [e];simp
   have:=U5 hI a j (l++y::x::m) oM h'
   rw [show swp L.toArray (j+1) j=(l++y::x::m).toArray from by rw [<- hs]]
   exact⟨this.1,this.2.trans hl⟩
  ·exact⟨h,rfl⟩
theorem U4 {lt:α->α->Bool} {I:List α->Prop} (hI:∀ (l m:List α) (x y:α),lt y x=true->I (l++x::y::m)->I (l++y::x::m)) (a b:Nat):∀ (n i:Nat) (L:List α),b - i<=n->b<=L.length->I L->I (insOuter lt a b i L.toArray).toList
 |0,i,L,hn,hb,h=>by
  rw [insOuter,Ai oM];exact h
 |n+1,i,L,hn,hb,h=>by
  rw [insOuter]
  split
  ·rename_i hi
   have h1:=U5 hI a i L oM h
   have:=U4 hI a b n (i+1) (insInner lt a i L.toArray).toList oM (by rw [I8];omega) h1.1
   exact this
  ·exact h
theorem iO {lt:α->α->Bool} {I:List α->Prop} (hI:∀ (l m:List α) (x y:α),lt y x=true->I (l++x::y::m)->I (l++y::x::m)) (L:List α) (h:I L):I (insertionSort lt L.toArray 0 L.length).toList := U4 hI 0 L.length L.length 1 L oM nR h
end
theorem Abd {α:Type} [DecidableEq α]:∀ (l m:List α),l.Nodup->(∀ x∈l,x∈m)->l.length<=m.length
 |[],_,_,_=>Ak _
 |x::l,m,hn,h=>by
  have hx:x∈m:=h x sM
  have hn':=Ou.1 hn
  have:=Abd l (m.erase x) hn'.2 (fun y hy=>(List.mem_erase_of_ne (fun e=>hn'.1 (by rw [<- e];exact hy))).2 (h y (by simp [hy])))
  rw [List.length_erase_of_mem hx] at this
  have:=Ky hx
  simp only [Ap]
  omega
def cu {β:Type} (p:Int × Int):List ((Int × Int) × β)->Option β
 |[]=>none
 |(q,x)::l=>if p==q then some x else cu p l
theorem jy {β:Type} {p:Int × Int} {x:β}:∀ {l:List ((Int × Int) × β)},cu p l=some x->(p,x)∈l
 |[],h=>by cases h
 |(q,y)::l,h=>by
  rw [cu] at h
  split at h
  ·rename_i e
   cases h
   rw [Eh.1 e]
   exact List.mem_cons_self
  ·exact Bv _ (jy h)
section
variable (msg:Version->Str) (chk:Version->Str->Bool)
def follow (known:List ((Int × Int) × Version)) (a:Int):Nat->List Version->Str->Int->List Version × Str
 |0,out,head,_=>(out,head)
 |f+1,out,head,last=>match cu (a,(out.length:Int)+1) known with
  |none=>(out,head)
  |some v=>if v.prev != head||ZH (v.pos<last) then (out,head) else follow known a f (out++[v]) (msg v) v.pos
structure Good (keys:List Str) (known:List ((Int × Int) × Version)):Prop where
 key:∀ p v,(p,v)∈known->p=(v.authority,v.number)
 number:∀ p v,(p,v)∈known->1<=v.number/\v.number<=200
 authority:∀ p v,(p,v)∈known->0<=v.authority/\v.authority<keys.length
 check:∀ p v,(p,v)∈known->chk v (keys.getD v.authority.toNat [])=true
def Abx (l:List Version):Str:=match l.getLast? with|none=>[]|some v=>msg v
structure Fol (known:List ((Int × Int) × Version)) (a:Int) (l:List Version) (h:Str) (last:Int):Prop where
 look:∀ (j:Nat) (v:Version),l[j]?=some v->cu (a,(j:Int)+1) known=some v
 prev:∀ (j:Nat) (v:Version),l[j]?=some v->v.prev=Abx msg (l.take j)
 sorted:l.Pairwise fun x y=>x.pos<=y.pos
 head:h=Abx msg l
 last:∀ v∈l,v.pos<=last
theorem Fol.nil (known:List ((Int × Int) × Version)) (a:Int):Fol msg known a [] [] 0:=⟨fun j v h=>by simp at h,fun j v h=>by simp at h,.nil,rfl,fun v h=>by cases h⟩
theorem Fol.snoc {known:List ((Int × Int) × Version)} {a:Int} {l:List Version} {h:Str} {last:Int} (F:Fol msg known a l h last) {v:Version} (hv:cu (a,(l.length:Int)+1) known=some v) (hp:v.prev=h) (hl:last<=v.pos):Fol msg known a (l++[v]) (msg v) v.pos:=by
 refine⟨fun j u hj=>?_,fun j u hj=>?_,?_,?_,fun u hu=>?_⟩
 ·rcases Kz j l.length with h1|h1|h1;·rw [Gn h1] at hj;exact F.look j u hj
  ·subst h1;simp at hj;subst hj;exact hv
  ·rw [Eb oM,Gw naf] at hj;cases hj
 ·rcases Kz j l.length with h1|h1|h1;·rw [Gn h1] at hj;rw [List.take_append_of_le_length oM];exact F.prev j u hj
  ·subst h1;simp at hj;subst hj;rw [List.take_left,hp];exact F.head
  ·rw [Eb oM,Gw naf] at hj;cases hj
 ·rw [Ho];refine⟨F.sorted,sM,fun x hx y hy=>?_⟩;cases Ad.1 hy;exact Int.le_trans (F.last x hx) hl
 ·simp [Abx]
 ·rcases Bz.1 hu with h1|h1;·exact Int.le_trans (F.last u h1) hl
  ·cases Ad.1 h1;exact Int.le_refl _
theorem Aam {known:List ((Int × Int) × Version)} {a:Int}:∀ (f:Nat) (l:List Version) (h:Str) (last:Int),Fol msg known a l h last->∃ last',Fol msg known a (follow msg known a f l h last).1 (follow msg known a f l h last).2 last'
 |0,l,h,last,F=>⟨last,F⟩
 |f+1,l,h,last,F=>by
  rw [follow]
  split
  ·exact⟨last,F⟩
  ·rename_i v hv
   split
   ·exact⟨last,F⟩
   ·rename_i hc
    simp only [Ej,bne_iff_ne,Bj,Le,Int.not_lt,ne_eq,Decidable.not_not] at hc
    exact Aam f _ _ _ (F.snoc msg hv hc.1 hc.2)
def fol (known:List ((Int × Int) × Version)) (a:Int):List Version × Str:=follow msg known a 201 [] [] 0
theorem Y0 (known:List ((Int × Int) × Version)) (a:Int):∃ last,Fol msg known a (fol msg known a).1 (fol msg known a).2 last:=Aam msg 201 [] [] 0 (Fol.nil msg known a)
def Ko (known:List ((Int × Int) × Version)):Nat->List Version
 |0=>[]
 |n+1=>Ko known n++(fol msg known n).1
variable {msg chk} {keys:List Str} {known:List ((Int × Int) × Version)}
theorem O7 (hG:Good chk keys known) (a:Int):∀ v∈(fol msg known a).1,v.authority=a:=fun v hv=>by obtain⟨last,F⟩:=Y0 msg known a;obtain⟨j,hj⟩:=Gj.1 hv;have:=hG.key _ _ (jy (F.look j v hj));exact (congrArg Prod.fst this).symm
theorem Aan (hG:Good chk keys known) (a:Int) (j:Nat) (v:Version) (hv:(fol msg known a).1[j]?=some v):v.number=j+1:=by obtain⟨last,F⟩:=Y0 msg known a;have:=hG.key _ _ (jy (F.look j v hv));exact (congrArg Prod.snd this).symm
theorem Adg (a:Int):∀ v∈(fol msg known a).1,∃ p,(p,v)∈known:=fun v hv=>by obtain⟨last,F⟩:=Y0 msg known a;obtain⟨j,hj⟩:=Gj.1 hv;exact⟨_,jy (F.look j v hj)⟩
theorem Aao:∀ (n:Nat),∀ v∈Ko msg known n,∃ p,(p,v)∈known
 |0,v,h=>by cases h
 |n+1,v,h=>by
  rcases Bz.1 h with h|h
  ·exact Aao n v h
  ·exact Adg _ v h
theorem Qu (hG:Good chk keys known):∀ (n:Nat),∀ v∈Ko msg known n,v.authority<n
 |0,v,h=>by cases h
 |n+1,v,h=>by
  rcases Bz.1 h with h|h
  ·have:=Qu hG n v h;omega
  ·have:=O7 hG _ v h;omega
def Xk (x y:Version):Prop:=x.authority<y.authority\/x.authority=y.authority/\x.number<y.number
theorem Oa (hG:Good chk keys known):∀ (n:Nat),(Ko msg known n).Pairwise Xk
 |0=>.nil
 |n+1=>by
  unfold Ko
  rw [Ho]
  refine⟨Oa hG n,?_,fun x hx y hy=>.inl ?_⟩
  ·rw [Gm]
   intro i j hi hj hij
   refine .inr ⟨?_,?_⟩
   ·rw [O7 hG _ _ (Jc hi),O7 hG _ _ (Jc hj)]
   ·rw [Aan hG _ i _ (Ae hi),Aan hG _ j _ (Ae hj)]
    omega
  ·have h1:=Qu hG n x hx
   have h2:=O7 hG _ y hy
   omega
theorem Ud (hG:Good chk keys known) (a:Int) (n:Nat) (h:(n:Int)<=a):(Ko msg known n).filter (fun v=>v.authority==a)=[]:=by rw [Jp];intro v hv;have:=Qu hG n v hv;simp;omega
theorem Aby (hG:Good chk keys known) (a b:Int):(fol msg known b).1.filter (fun v=>v.authority==a)=if a=b then (fol msg known b).1 else []:=by
 split;·rename_i e;rw [List.filter_eq_self];intro v hv;simp [O7 hG _ v hv,e]
 ·rename_i e;rw [Jp];intro v hv;simp [O7 hG _ v hv];omega
theorem Rz (hG:Good chk keys known) (a:Nat):∀ (n:Nat),a<n->(Ko msg known n).filter (fun v=>v.authority==(a:Int))=(fol msg known a).1
 |0,h=>by omega
 |n+1,h=>by
  unfold Ko
  rw [Kr,Aby hG]
  by_cases e:a=n
  ·subst e
   rw [Ah rfl,Ud hG _ _ (Int.le_refl _)]
   rfl
  ·rw [Ai oM,Fj]
   exact Rz hG a n oM
theorem Py (hG:Good chk keys known) (n:Nat) (a:Int):((Ko msg known n).filter (fun v=>v.authority==a)).Pairwise fun x y=>x.pos<=y.pos:=by
 by_cases h:0<=a/\a<n
 ·obtain⟨k,rfl⟩:∃ k:Nat,a=k:=⟨a.toNat,oM⟩
  rw [Rz hG k n oM];obtain⟨last,F⟩:=Y0 msg known k;exact F.sorted
 ·have:(Ko msg known n).filter (fun v=>v.authority==a)=[]:=by rw [Jp];intro v hv;have h1:=Qu hG n v hv;obtain⟨p,hp⟩:=Aao n v hv;have h2:=(hG.authority _ _ hp).1;simp;omega
  rw [this];exact .nil
instance : Inhabited Version := ⟨⟨0, 0, 0, [], [], ⟨0, [], []⟩⟩⟩
def qp (x y:Version):Bool:=ZH (x.pos<y.pos)
def Ob (msg:Version->Str) (known:List ((Int × Int) × Version)) (n:Nat):List Version:=(insertionSort qp (Ko msg known n).toArray 0 (Ko msg known n).length).toList
theorem Ab9:SWO qp:=by constructor;all_goals (intros;simp_all [qp];try omega)
structure Sorted (C L:List Version):Prop where
 filter:∀ a:Int,L.filter (fun v=>v.authority==a)=C.filter (fun v=>v.authority==a)
 stable:L.Pairwise fun x y=>x.pos=y.pos->x.authority<=y.authority
theorem Sorted.swap {C:List Version} (hC:∀ a:Int,(C.filter (fun v=>v.authority==a)).Pairwise fun x y=>x.pos<=y.pos) (l m:List Version) (x y:Version) (hlt:qp y x=true) (h:Sorted C (l++x::y::m)):Sorted C (l++y::x::m):=by
 have hlt':y.pos<x.pos:=by simpa [qp] using hlt
 refine⟨fun a=>?_,?_⟩
 ·rw [<- h.filter a];by_cases h1:x.authority=a <;> by_cases h2:y.authority=a;·exfalso;have h3:=hC a;rw [<- h.filter a,Kr,List.filter_cons_of_pos (by simp [h1]),List.filter_cons_of_pos (by simp [h2]),Ho] at h3;have:=(Ie.1 h3.2.1).1 y sM;omega
  all_goals simp [Kr,h1,h2]
 ·have h3:=h.stable;rw [Ho] at h3 ⊢;obtain⟨p1,p2,p3⟩:=h3;rw [Ie,Ie] at p2;refine⟨p1,?_,fun a ha b hb=>p3 a ha b ?_⟩
  ·rw [Ie,Ie];refine⟨fun b hb e=>?_,fun b hb=>p2.1 b (by simp [hb]),p2.2.2⟩;rcases Az.1 hb with rfl|hb;·omega
   ·exact p2.2.1 b hb e
  ·simp only [Az] at hb ⊢;rcases hb with h|h|h;·exact .inr (.inl h)
   ·exact .inl h
   ·exact .inr (.inr h)
theorem Ye (hG:Good chk keys known) (n:Nat):Sorted (Ko msg known n) (Ob msg known n):=by refine iO (I:=Sorted (Ko msg known n)) (fun l m x y=>Sorted.swap (Py hG n) l m x y) _ ⟨fun _=>rfl,(Oa hG n).imp ?_⟩;rintro x y h _;rcases h with h|h <;> omega
theorem Aa3 (known:List ((Int × Int) × Version)) (n:Nat):(Ob msg known n).Pairwise fun x y=>x.pos<=y.pos:=by have h:=insertionSort_holds (lt:=qp) Ab9 (Ko msg known n).toArray 0 (Ko msg known n).length (Ak _) nR;have hs:=h.1.1;unfold Ob;generalize insertionSort qp (Ko msg known n).toArray 0 (Ko msg known n).length=D at *;rw [Gm];intro i j hi hj hij;rw [I8] at hi hj;have:=h.2 i j (Ak _) hij (by rw [hs] at hj;simpa using hj);rw [getElem!_pos D i hi,getElem!_pos D j hj] at this;simp only [Array.getElem_toList];simpa [qp] using this
theorem iC {β:Type} (l:List β) (i:Nat) (x d:β) (h:i<l.length):(l.set i x).getD i d=x:=by simp [List.getD_eq_getElem?_getD,h]
theorem getD_set_ne {β:Type} (l:List β) (i j:Nat) (x d:β) (h:i≠j):(l.set i x).getD j d=l.getD j d:=by simp [List.getD_eq_getElem?_getD,h]
end
abbrev Known:=List ((Int × Int) × Version)
abbrev Forks:=List ((Int × Int) × (Version × Version))
def oQ (p:Int × Int) (f:Version × Version) (forks:Forks):Forks:=match cu p forks with
 |none=>forks++[(p,f)]
 |some _=>forks
end
section
variable {chk:Version->Str->Bool} {known:Known} {forks:Forks} {v:Version} {t:Str}
def jr (chk:Version->Str->Bool) (keys:List Str) (known:Known) (forks:Forks) (v:Version):Int × Known × Forks :=
 match bM v with
 |.error _=>(1,known,forks)
 |.ok _ =>
  if ZH (v.authority >= keys.length) then (1,known,forks)
  else if !chk v (keys.getD v.authority.toNat []) then (16,known,forks)
  else match cu (v.authority,v.number) known with
   |none=>(0,known++[((v.authority,v.number),v)],forks)
   |some old=>if (bare old).getD []==(bare v).getD [] then (0,known,forks)
    else (17,known,oQ (v.authority,v.number) (old,v) forks)
theorem zJ {keys:List Str} (ht:bM v=.ok t) (ha:v.authority<(keys.length:Int)) (hk:chk v (keys.getD v.authority.toNat [])=false):jr chk keys known forks v=(16,known,forks):=by unfold jr;rw [ht];dsimp only;rw [Cj oM,Ai sM,hk];rfl
theorem yE {keys:List Str} (ht:bM v=.ok t) (ha:v.authority<(keys.length:Int)) (hk:chk v (keys.getD v.authority.toNat [])=true) (hl:cu (v.authority,v.number) known=none) : jr chk keys known forks v=(0,known++[((v.authority,v.number),v)],forks):=by unfold jr;rw [ht];dsimp only;rw [Cj oM,Ai sM,hk,Ai sM,hl]
theorem wR {keys:List Str} {x:Version} (ht:bM v=.ok t) (ha:v.authority<(keys.length:Int)) (hk:chk v (keys.getD v.authority.toNat [])=true) (hl:cu (v.authority,v.number) known=some x) : jr chk keys known forks v=if (bare x).getD []==(bare v).getD [] then (0,known,forks) else (17,known,oQ (v.authority,v.number) (x,v) forks):=by unfold jr;rw [ht];dsimp only;rw [Cj oM,Ai sM,hk,Ai sM,hl]
theorem Ab5 {n most:Int} (h:within n most=true):0<=n/\n<=most:=by simpa [within] using h
theorem Acm {u:Str} (h:bare v=some u):0<=v.authority/\1<=v.number/\v.number<=200:=by
 unfold bare at h;split at h;·cases h
 ·rename_i hc;simp only [Ej,G8,Le,Nq,Aq,Bj] at hc;obtain⟨⟨⟨⟨⟨h1,h2⟩,_⟩,_⟩,_⟩,_⟩:=hc;have:=Ab5 h1;omega
theorem vO (h:bM v=.ok t):0<=v.authority/\1<=v.number/\v.number<=200:=by
 unfold bM at h;cases hb:bare v with
 |none=>rw [hb] at h;cases h
 |some u=>exact Acm hb
end
end CH
namespace Go.Proofs.Y
section
open Go.Lib Go.Proofs.Tryz Go.RowKit CH
variable {w:ZB} {b o:Nat} {l:List ZC}
theorem Im {m:List ZC} (h:w.rangeAt b o (l++m)):w.rangeAt b o l:=fun j v hj=>h j v (by rw [Gn (lS hj)];exact hj)
theorem D4 {m:List ZC} (h:w.rangeAt b o (l++m)) (n:Nat) (hn:o+l.length=n):w.rangeAt b n m:=fun j v hj=>by have:=h (l.length+j) v (by rw [Eb oM,show l.length+j - l.length=j from by omega];exact hj);rw [<- hn,Lu];exact this
theorem Kb {w':ZB} {B:Nat} (h:w.rangeAt b o l) (hb:Below B w w') (hlt:b<B):w'.rangeAt b o l:=fun j v hj=>(hb.cell (p:=⟨b,o+j,none⟩) hlt).trans (h j v hj)
theorem C8 (w:ZB) (l:List ZC) (T:TypeId):(w.alloc (.cells l.toArray T)).rangeAt w.heap.size 0 l:=fun j v hj=>by rw [Ba,Ab (Ag w (.cells l.toArray T)) j];simpa using hj
theorem Wi (h:w.rangeAt b o l) (x:Obj):(w.alloc x).rangeAt b o l:=fun j v hj=>by have hc:=h j v hj;exact (((Ac _ w).alloc nR x).cell (Bd w _ hc)).trans hc
theorem Us (w:ZB) (T:TypeId):∀ (cs pre z:List ZC),z.length=cs.length->(w.alloc (.cells (pre++z).toArray T)).setCells w.heap.size pre.length cs=w.alloc (.cells (pre++cs).toArray T)
 |[],pre,z,h=>by
  have:z=[]:=Et.1 (by simpa using h)
  subst this;rfl
 |v::cs,pre,z,h=>by
  cases z with
  |nil=>simp at h
  |cons u z =>
   rw [World.setCells,Oy _ _ _ _ _ rfl]
   have e:((pre++u::z).toArray.setIfInBounds pre.length v)=((pre++[v])++z).toArray:=sM
   rw [e]
   have:=Us w T cs (pre++[v]) z (by simpa using h)
   rw [Am,Dq] at this
   rw [this]
   simp
theorem Br {P:Program} {ops:Array Oper} {rest:List Oper} {op:Oper} {a:Act} {Q:Exit->Act->ZB->Prop} {z:Array ZC} {T:TypeId} (hgd:op.guard=none) (ty:TypeId) (x y:Operand) (ho:op.op=.store ty x y) (cs:List ZC) (hx:a.eval x=.pointer (some ⟨w,0,none⟩)) (hy:a.eval y=.agg cs.toArray) (hz:z.size=cs.length) (hi:(P.info? ty).map (·.size)=some cs.length) (h1:∀ v∈cs,v.oneCell'=true) (h:wpList P ops Q rest (a.put op.dst undef) (w.alloc (.cells cs.toArray T))):wpList P ops Q (op::rest) a (w.alloc (.cells z T)):=by
 refine Ig hgd ty x y ho w 0 cs.toArray hx hy (fun j hj=>?_) (by simpa using hi) (Fh h1) ?_;·rw [Ba];refine⟨?_,Ao (Ag w _) j⟩;rw [Ab (Ag w _) j,Eo (by rw [hz];simpa using hj)];rfl
 ·have:=Us w T cs [] z.toList (by simpa using hz);simp only [Eu,Bf] at this;rw [show z=z.toList.toArray from by simp,this];exact h
theorem G2c:∀ (cs pre z:List ZC),z.length=cs.length->List.foldl (fun (c:Array ZC) (x:ZC × Nat)=>c.setIfInBounds x.2 x.1) (pre++z).toArray (cs.zipIdx pre.length)=(pre++cs).toArray
 |[],pre,z,h=>by
  have:z=[]:=Et.1 (by simpa using h)
  subst this;rfl
 |v::cs,pre,z,h=>by
  cases z with
  |nil=>simp at h
  |cons u z =>
   rw [List.zipIdx_cons,Na]
   have e:((pre++u::z).toArray.setIfInBounds pre.length v)=((pre++[v])++z).toArray:=sM
   dsimp only
   rw [e]
   have:=G2c cs (pre++[v]) z (by simpa using h)
   rw [Am,Dq] at this
   rw [this]
   simp
theorem G64 (cs:List ZC) (z:Array ZC) (h:z.size=cs.length):List.foldl (fun (c:Array ZC) (x:ZC × Nat)=>c.setIfInBounds x.2 x.1) z cs.zipIdx=cs.toArray:=by have:=G2c cs [] z.toList (by simpa using h);exact FD86
end
end Go.Proofs.Y
namespace CH
def eX (l:List Str) (most:Nat):Bool:=l.all (fun s=>ZH (s.length<=60))&&ZH (l.length<=most)
def jq (n:Name):Bool:=(n.words.take 20).all (fun s=>ZH (s.length<=100))&&ZH (n.words.length<=20)
def lN (e:Entry):Bool:=(e.names.take 10).all jq&&(ZH (e.id.length<=100)&&ZH (e.names.length<=10))
def jB (c:Change):Bool:=ZH (c.id.length<=100)&&lN c.entry
theorem fM {α:Type} (p:α->Bool) (l:List α) (k:Nat) (x:α) (h:l[k]?=some x):(l.take (k+1)).all p=((l.take k).all p&&p x):=by rw [CH.aN l k x h,Ju];simp
theorem gU {α:Type} (p:α->Bool) (l:List α) (k:Nat) (x:α) (h:l[k]?=some x) (hp:p x=false):l.all p=false:=by rw [Np];exact⟨x,Bg h,by simp [hp]⟩
end CH
namespace Go.Proofs.Y
open Go.RowKit Go.Lib CH
theorem Sq (v:ZC) (ls:List Q00) (most:Nat) (w:ZB) (hv:Strs w w v ls) : Calls Tryz.prog 19 #[v,↑most] w (Ret w (.bool (eX ls most))):=by
 obtain⟨a,cap,rfl,hl,hcap,hne⟩:=hv;obtain⟨R,hR⟩:=nac (eX ls most);rw [hR.out];have hne:=Aa hne;obtain⟨N,hN⟩:=naa ls.length;rw [hN] at hl ⊢;have hN:=Aa hN;go_in;go_wp2_with fail;go_loopw [5] (fun i wr=>∃ k:Nat,k<=N/\i=↑k/\wr=w/\Hid ((ls.take k).all (fun s=>ZH (s.length<=60))=true)) (fun i _=>N - (ZG i).toNat);case atStart=>exact⟨0,Ak _,rfl,rfl,Aa rfl⟩
 case round =>
  obtain⟨k,hk,rfl,rfl,hI⟩:=hrel;by_cases hlt:k<N
  ·obtain⟨b,off,rfl,hbl,kj⟩:=hne.out (by intro h;have:=hN.out;simp [h] at this;omega);obtain⟨l,hl'⟩:∃ l,ls[k]?=some l:=⟨_,Ae (by rw [hN.out];exact hlt)⟩
   have hcell:=kj k l hl';clear kj;have hl':=Aa hl';obtain⟨m,hm⟩:=naa l.length;by_cases h60:m<=60
   ·have d:=naj ((60:Int)<(m:Int));have hI':Hid ((ls.take (k+1)).all (fun s=>ZH (s.length<=60))=true):=Aa (by rw [fM _ ls k l hl'.out,hI.out,hm];simpa using h60);go_wp2;go_roundw;case rel=>exact⟨k+1,oM,by go_num,by first|rfl|trivial,hI'⟩
    case measure=>simp [ZG];omega
   ·have d:=nai ((60:Int)<(m:Int));go_wp2;go_ret;exact⟨by rw [<- hR.out];unfold eX;rw [gU _ ls k l hl'.out (by rw [hm];simpa using h60)];rfl,Below.refl _ _⟩
  ·obtain rfl:k=N:=oM;have hall:ls.all (fun s=>ZH (s.length<=60))=true:=by have:=hI.out;rwa [<- hN.out,D5] at this
   go_wp2;go_ret;refine⟨?_,Ac _ _⟩;rw [<- hR.out];unfold eX;rw [hall,hN.out,a_Bool_true_and];congr 2;try (rw [Ed];omega)
theorem Has (sc:Int) (v:ZC) (ls:List Q00) (w:ZB) (hv:Strs w w v ls) : Calls Tryz.prog 190 #[.agg #[↑sc,v]] w (Ret w (.bool (jq ⟨sc,ls⟩))):=by
 obtain⟨a,cap,rfl,hl,hcap,hne⟩:=hv;obtain⟨R,hR⟩:=nac (jq ⟨sc,ls⟩);rw [hR.out];have hR1:Hid (((ls.take 20).all (fun s=>ZH (s.length<=100))&&ZH (ls.length<=20))=R):=Aa hR.out;clear hR;have hne:=Aa hne;obtain⟨N,hN⟩:=naa ls.length;rw [hN] at hl hR1 ⊢;have hN:=Aa hN;have hB0:=fun o=>(Ac _ w).alloc nR o;go_in;go_wp2_with fail;generalize hWd:w.alloc _=W at *;have c1:W.cell? ⟨w,1,none⟩=some (.slice a N cap):=by rw [<- hWd];exact Ab (Ag w _) 1
 have hBW:Below w w W:=by rw [<- hWd];exact hB0 _
 clear hWd hB0;go_loopw [3] (fun i wr=>∃ k:Nat,k<=N/\k<=20/\i=↑k/\wr=W/\Hid ((ls.take k).all (fun s=>ZH (s.length<=100))=true)) (fun i _=>20 - (ZG i).toNat);case atStart=>exact⟨0,Ak _,Ak _,rfl,rfl,Aa rfl⟩
 case round =>
  obtain⟨k,hk,UD,rfl,rfl,hI⟩:=hrel;by_cases hlt:k<N/\k<20
  ·obtain⟨hlt,JK⟩:=hlt;obtain⟨b,off,rfl,hbl,kj⟩:=hne.out (by intro h;have:=hN.out;simp [h] at this;omega);obtain⟨l,hl'⟩:∃ l,ls[k]?=some l:=⟨_,Ae (by rw [hN.out];exact hlt)⟩
   have hcell:=(hBW.cell (p:=⟨b,off+k,none⟩) hbl).trans (kj k l hl');clear kj;have hl':=Aa hl';obtain⟨m,hm⟩:=naa l.length;have d1:=nai ((k:Int)<(N:Int));have d2:=nai ((k:Int)<20);by_cases h60:m<=100
   ·have d:=naj ((100:Int)<(m:Int));have hI':Hid ((ls.take (k+1)).all (fun s=>ZH (s.length<=100))=true):=Aa (by rw [fM _ ls k l hl'.out,hI.out,hm];simpa using h60);go_wp2;go_roundw;case rel=>exact⟨k+1,oM,oM,by go_num,by first|rfl|trivial,hI'⟩
    case measure=>simp [ZG];omega
   ·have d:=nai ((100:Int)<(m:Int));go_wp2;go_ret;refine⟨?_,hBW⟩;rw [<- hR1.out,gU _ (ls.take 20) k l (by rw [Iq JK];exact hl'.out) (by rw [hm];simpa using h60)];rfl
  ·have hall:(ls.take 20).all (fun s=>ZH (s.length<=100))=true:=by
    have hi:=hI.out;by_cases h20:k=20;·rwa [h20] at hi
    ·exact FD107
   have hfin:Hid (ZH (N<=20)=R):=Aa (by rw [<- hR1.out,hall];rfl);have e20:ZH ((N:Int)<=20)=ZH (N<=20):=by rw [Ed];omega
   by_cases h1:k<N;·have d1:=nai ((k:Int)<(N:Int));have d2:=naj ((k:Int)<20);go_wp2;go_ret;exact⟨by rw [<- hfin.out,<- e20];rfl,hBW⟩
   ·have d1:=naj ((k:Int)<(N:Int));go_wp2;go_ret;exact⟨by rw [<- hfin.out,<- e20];rfl,hBW⟩
end Go.Proofs.Y
namespace Go.Proofs.Y
section
open Go.Lib Go.Proofs.Tryz Go.RowKit CH
def Mt (B:Nat) (w:ZB) (v:ZC) (ns:List Q05):Prop := ∃ a cap,v=.slice a ns.length cap/\ns.length<=cap/\cap<=9223372036854775807 /\ (ns≠[]->∃ b off,a=some ⟨b,off,none⟩/\b<B/\∀ j n,ns[j]?=some n->∃ vw,w.cell? ⟨b,off+j*2,none⟩=some ↑n.script/\w.cell? ⟨b,off+j*2+1,none⟩=some vw/\Strs B w vw n.words)
theorem Exp (e:CH.Entry) (v:ZC) (w:ZB) (hv:Mt w w v e.names) : Calls prog 117 #[.agg #[↑e.id,v]] w (Ret w (.bool (lN e))):=by
 obtain⟨id,ls⟩:=e;obtain⟨a,cap,rfl,hl,hcap,hne⟩:=hv;dsimp only at *;obtain⟨R,hR⟩:=nac (lN ⟨id,ls⟩);rw [hR.out];have hR1:Hid (((ls.take 10).all jq&&(ZH (id.length<=100)&&ZH (ls.length<=10)))=R):=Aa hR.out;clear hR;have hne:=Aa hne;obtain⟨N,hN⟩:=naa ls.length;rw [hN] at hl hR1 ⊢;have hN:=Aa hN;have hB0:=fun o=>(Ac _ w).alloc nR o;go_in;go_wp2_with fail;generalize hWd:w.alloc _=W at *;have c0:W.cell? ⟨w,0,none⟩=some ↑id:=by rw [<- hWd];exact Ab (Ag w _) 0
 have c1:W.cell? ⟨w,1,none⟩=some (.slice a N cap):=by rw [<- hWd];exact Ab (Ag w _) 1
 have hBW:Below w w W:=by rw [<- hWd];exact hB0 _
 have hlW:w.heap.size<W.heap.size:=by rw [<- hWd];simp
 clear hWd hB0;go_loopw [3] (fun i wr=>∃ k:Nat,k<=N/\k<=10/\i=↑k/\Hid (Below W W wr)/\Hid ((ls.take k).all jq=true)) (fun i _=>10 - (ZG i).toNat);case atStart=>exact⟨0,Ak _,Ak _,rfl,Aa (Ac _ _),Aa rfl⟩
 case round =>
  obtain⟨k,hk,hk10,rfl,hBr,hI⟩:=hrel;have k0:=(hBr.out.cell (p:=⟨w,0,none⟩) hlW).trans c0;have k1:=(hBr.out.cell (p:=⟨w,1,none⟩) hlW).trans c1;have hBw:Below w w wr:=hBW.trans (hBr.out.mono hBW.size);by_cases hlt:k<N/\k<10
  ·obtain⟨hlt,JL⟩:=hlt;obtain⟨b,off,rfl,hbl,kj⟩:=hne.out (by intro h;have:=hN.out;simp [h] at this;omega);obtain⟨n,hn'⟩:∃ n,ls[k]?=some n:=⟨_,Ae (by rw [hN.out];exact hlt)⟩
   obtain⟨vw,d1,d2,d3⟩:=kj k n hn';have e1:=(hBw.cell (p:=⟨b,off+k*2,none⟩) hbl).trans d1;have e2:=(hBw.cell (p:=⟨b,off+k*2+1,none⟩) hbl).trans d2;have F:=Aa (Has n.script vw n.words wr ((d3.below hBw nR).mono hBw.size));clear kj d1 d2;have hn':=Aa hn';have q1:=nai ((k:Int)<(N:Int));have q2:=nai ((k:Int)<10);obtain⟨fb,hfb⟩:=nac (jq n);have F:Hid (Calls prog 190 #[.agg #[↑n.script,vw]] wr (Ret wr (.bool fb))):=Aa (by rw [<- hfb.out];exact F.out);obtain⟨vwa,vwc,rfl,_,_⟩:=d3;generalize n.words.length=nw at *;go_wp2_with fail;refine CmZ F.out fun w1 hb1=>?_;clear F;cases fb with
   |true =>
    have hI':Hid ((ls.take (k+1)).all jq=true):=Aa (by rw [fM _ ls k n hn'.out,hI.out,hfb.out];rfl);have hB1:Hid (Below W W w1):=Aa (hBr.out.trans (hb1.mono hBr.out.size));go_wp2;go_roundw;case rel=>exact⟨k+1,oM,oM,by go_num,hB1,hI'⟩
    case measure=>simp [ZG];omega
   |false =>go_wp2;go_ret;refine⟨?_,hBw.trans (hb1.mono hBw.size)⟩;rw [<- hR1.out,gU _ (ls.take 10) k n (by rw [Iq JL];exact hn'.out) hfb.out];rfl
  ·have hall:(ls.take 10).all jq=true:=by
    have hi:=hI.out;by_cases h10:k=10;·rwa [h10] at hi
    ·exact FD107
   have e10:ZH ((N:Int)<=10)=ZH (N<=10):=by rw [Ed];omega
   obtain⟨m,hm⟩:=naa id.length;have e100:ZH ((m:Int)<=100)=ZH (id.length<=100):=by rw [hm,Ed];omega
   have hfin:Hid ((ZH ((m:Int)<=100)&&ZH ((N:Int)<=10))=R):=Aa (by rw [<- hR1.out,hall,e10,e100];rfl);obtain⟨r1,h1⟩:=naa (ZH ((m:Int)<=100));rw [h1] at hfin;clear e10 e100;by_cases h1:k<N;·have d1:=nai ((k:Int)<(N:Int));have d2:=naj ((k:Int)<10);cases r1 <;> go_wp2 <;> (go_ret;exact⟨by rw [<- hfin.out];rfl,hBw⟩)
   ·have d1:=naj ((k:Int)<(N:Int));cases r1 <;> go_wp2 <;> (go_ret;exact⟨by rw [<- hfin.out];rfl,hBw⟩)
theorem Ca8 (c:Q07) (v:ZC) (w:ZB) (hv:Mt w w v c.entry.names) : Calls prog 50 #[.agg #[↑c.kind,↑c.id,↑c.entry.id,v,↑c.pos]] w (Ret w (.bool (jB c))):=by
 have hB0:=fun o=>(Ac _ w).alloc nR o;have F:=fun o=>Exp c.entry v (w.alloc o) (by obtain⟨a,cap,h1,h2,h3,h4⟩:=hv;refine⟨a,cap,h1,h2,h3,fun hne=>?_⟩;obtain⟨b,off,e,hlt,hx⟩:=h4 hne;refine⟨b,off,e,by simp;omega,fun j n hj=>?_⟩;obtain⟨vw,c1,c2,c3⟩:=hx j n hj;exact⟨vw,((hB0 o).cell (p:=⟨b,off+j*2,none⟩) hlt).trans c1,((hB0 o).cell (p:=⟨b,off+j*2+1,none⟩) hlt).trans c2,(c3.below (hB0 o) nR).mono (hB0 o).size⟩);obtain⟨R,hR⟩:=nac (jB c);rw [hR.out];obtain⟨fe,hfe⟩:=naa (lN c.entry);have hR1:Hid ((ZH (c.id.length<=100)&&fe)=R):=Aa (by rw [<- hfe];exact hR.out);rw [hfe] at F;have F:=Aa F;obtain⟨a,cap,rfl,hl,hcap,hne⟩:=hv;clear hne hR;generalize c.entry.names.length=N at *;obtain⟨m,hm⟩:=naa c.id.length;have e100:ZH ((m:Int)<=100)=ZH (c.id.length<=100):=by rw [hm,Ed];omega
 rw [<- e100] at hR1;obtain⟨r1,h1⟩:=naa (ZH ((m:Int)<=100));rw [h1] at hR1;clear e100;cases r1 with
 |false =>go_in;go_wp2_with fail;go_ret;exact⟨by rw [<- hR1.out];rfl,hB0 _⟩
 |true =>go_in;go_wp2_with fail;refine CmZ (F.out _) fun w1 hb1=>?_;clear F;go_wp2;go_ret;exact⟨by rw [<- hR1.out];rfl,(hB0 _).trans (hb1.mono sM)⟩
end
section
open Go.Lib Go.Proofs.Tryz Go.RowKit Go.Shelf Go.Sort CH
attribute [local irreducible] wpQuiet
theorem Mt.grow {w W:ZB} {v:ZC} {ns:List Q05} (h:Mt w w v ns) (hb:Below w w W):Mt W W v ns:=by obtain⟨a,cap,h1,h2,h3,h4⟩:=h;refine⟨a,cap,h1,h2,h3,fun hne=>?_⟩;obtain⟨b,off,e,hlt,hc⟩:=h4 hne;refine⟨b,off,e,Af hlt hb.size,fun j n hj=>?_⟩;obtain⟨vw,c1,c2,c3⟩:=hc j n hj;exact⟨vw,(hb.cell (p:=⟨b,off+j*2,none⟩) hlt).trans c1,(hb.cell (p:=⟨b,off+j*2+1,none⟩) hlt).trans c2,(c3.below hb nR).mono hb.size⟩
theorem S4 (w:ZB) (o1 o2:Obj):((w.alloc o1).alloc o2).heap[w.heap.size]?=some o1/\((w.alloc o1).alloc o2).heap[w.heap.size+1]?=some o2 := ⟨(((Ac _ (w.alloc o1)).alloc nR o2).block w.heap.size sM).trans (Ag w o1),by have:=Ag (w.alloc o1) o2;simpa using this⟩
end
end Go.Proofs.Y
abbrev Q04:=CH.Forks
abbrev Q06:=CH.Known
