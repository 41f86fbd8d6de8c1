/-
  ChainOrder: the proof, a part.
-/
import Derived.Test.YtpkjhpenpfcpfaaGreatDoorP17
import Derived.Great.BuildSlice
set_option linter.unusedSimpArgs false
set_option linter.unusedVariables false
set_option maxHeartbeats 40000000
set_option maxRecDepth 100000
open Go renaming World -> ZB, Value -> ZC, Calls -> ZE
open Go.Act renaming put -> ZF
open Decidable renaming decide -> ZH
open Go.Lib renaming itoa -> ZK
namespace Go.Proofs.YtpkjhpenpfcpfaaGreatDoor
section
open Go.Lib Go.Proofs.Tryz Go.RowKit Go.Shelf Go.Sort CH
attribute [local irreducible] wpQuiet
theorem So (w:ZB) (T:TypeId):∀ (cs pre z post:List ZC),z.length=cs.length->(w.alloc (.cells (pre++(z++post)).toArray T)).setCells w.heap.size pre.length cs=w.alloc (.cells (pre++(cs++post)).toArray T)
 |[],pre,z,post,h=>by
  have:z=[]:=Cb.1 (by simpa using h)
  subst this
  rfl
 |v::cs,pre,z,post,h=>by
  cases z with
  |nil=>simp at h
  |cons u z =>
   rw [World.setCells,Jf _ _ _ _ _ rfl]
   have e:((pre++(u::z++post)).toArray.setIfInBounds pre.length v)=((pre++[v])++(z++post)).toArray:=sM
   rw [e]
   have:=So w T cs (pre++[v]) z post (by simpa using h)
   rw [Aj,Dw] at this
   rw [this]
   simp
theorem Lw {P:Program} {ops:Array Oper} {rest:List Oper} {op:Oper} {a:Act} {w:ZB} {Q:Exit->Act->ZB->Prop} {z:Array ZC} {T:TypeId} (g:Nat) (hg:w.heap.size=g) (hgd:op.guard=none) (ty:TypeId) (x y:Operand) (ho:op.op=.store ty x y) (cs:List ZC) (hx:a.eval x=.pointer (some ⟨g,0,none⟩)) (hy:a.eval y=.agg cs.toArray) (hz:z.size=cs.length) (hi:(P.info? ty).map (·.size)=some cs.length) (h1:∀ v∈cs,v.oneCell'=true) (h:wpList P ops Q rest (a.put op.dst undef) (w.alloc (.cells cs.toArray T))):wpList P ops Q (op::rest) a (w.alloc (.cells z T)):=by subst hg;exact Ca hgd ty x y ho cs hx hy hz hi h1 h
theorem Nm {P:Program} {ops:Array Oper} {rest:List Oper} {op:Oper} {a:Act} {w:ZB} {Q:Exit->Act->ZB->Prop} (hgd:op.guard=none) (ty:TypeId) (x y:Operand) (ho:op.op=.store ty x y) (b o:Nat) (v:ZC) (W':ZB) (hx:a.eval x=.pointer (some ⟨b,o,none⟩)) (hy:a.eval y=v) (h1:v.oneCell'=true) (ht:w.there b o 1) (hi:(P.info? ty).map (·.size)=some 1) (hW:w.setCell ⟨b,o,none⟩ v=W') (h:wpList P ops Q rest (a.put op.dst undef) W'):wpList P ops Q (op::rest) a w:=by
 subst hW hy;have hc:(a.eval y).cells=#[a.eval y]:=by generalize a.eval y=v at *;cases v <;> first|rfl|cases h1
 have hs:=run_storeCells_cells (P:=P) b o [a.eval y] 0 w (fun j hj=>by simp at hj;subst hj;simpa using (ht 0 oM).1) (fun j hj=>by simp at hj;subst hj;simpa using (ht 0 oM).2) (fun v hv=>by simp at hv;subst hv;exact h1);refine wpList_plain hgd fun _ hK=>?_;unfold Oper.wp execOp;cases hq:P.info? ty with
 |none=>simp [hq] at hi
 |some i =>
  have hsz:i.size=1:=by simpa [hq] using hi
  simp only [Hu,World.setCells] at hs;have hst:(storeVar ty ⟨b,o,none⟩ (a.eval y)).run P w=.ok () (w.setCell ⟨b,o,none⟩ (a.eval y)):=by simp [storeVar,sizeOf,typeInfo,hq,hc,hsz,hs]
  simp only [ho,hx,Instr.storeAt,Instr.sureAddr,Jh,Me,Ic,hst];exact hK _ _ h
theorem Vo {l m r:List ZC} {o:Nat} (ho:l.length=o) (j:Nat) (u:ZC) (h:m[j]?=some u):(l++(m++r))[o+j]?=some u:=by subst ho;rw [Fj oM,G6,Gh (lS h)];exact h
def nN:eX:=⟨.slice none 0 0,.slice none 0 0,.slice none 0 0,.slice none 0 0,.slice none 0 0⟩
theorem Bsn (B:Nat) (w:ZB) (k:Int) (id:List UInt8) (n:Int):dB B w ⟨k,zC,zM,zL,zH,id,n⟩ nN:=⟨Tm B w,Dir B w,L3 B w,L3 B w,L3 B w⟩
def only (a:CH.Act):CH.Act:=⟨a.kind,if a.kind=1 then a.change else zC,if a.kind=2 then a.measure else zM,if a.kind=4 then a.licence else zL,if a.kind=6 then a.holding else zH,if a.kind=3\/a.kind=5\/a.kind=7 then a.id else [],if a.kind=3\/a.kind=5\/a.kind=7 then a.n else 0⟩
def oU (k:Int) (s:eX):eX:=⟨if k=1 then s.vn else .slice none 0 0,if k=2 then s.vk else .slice none 0 0,if k=4 then s.vm else .slice none 0 0,if k=4 then s.vp else .slice none 0 0,if k=6 then s.vj else .slice none 0 0⟩
theorem Hxk (a:CH.Act) (s:eX) (w:ZB) (h:dB w w a s) (hk:1<=a.kind/\a.kind<=7) (W:ZB) (hb:Below w w W) : ZE prog 157 #[.agg (Av a s).toArray,.agg (Av (only a) (oU a.kind s)).toArray] W (Ret W (.bool (CH.unused a))):=by
 have hW:=(h.below hb nR).mono hb.size;have hR:∀ (W':ZB),Below W W W'->dB W' W' a s:=fun W' hb'=>(hW.below hb' nR).mono hb'.size;have:=Ggs a (only a) s (oU a.kind s) W (a.kind==1||!dG a.change) (a.kind==2||bJ a.measure) (a.kind==4||!dn a.licence) (a.kind==6||!dw a.holding) rfl
  (fun W' hb'=>by
   unfold only oU
   dsimp only
   by_cases e:a.kind=1
   ·rw [Ap e,Ap e,e]
    exact S8 a.change s.vn s.vn W' (hR W' hb').names (hR W' hb').names
   ·rw [Af e,Af e,show (a.kind==1)=false by simpa using e]
    cases hd:dG a.change with
    |true=>exact Yx a.change s.vn W' (hR W' hb').names hd
    |false =>
     have hz:=pY hd
     have hr:=(hR W' hb').names
     rw [hz] at hr ⊢
     exact S8 zC s.vn _ W' hr (Tm _ _))
  (fun W' hb'=>by
   unfold only oU
   dsimp only
   by_cases e:a.kind=2
   ·rw [Ap e,Ap e,e]
    exact Ss a.measure s.vk s.vk W' (hR W' hb').kids (hR W' hb').kids
   ·rw [Af e,Af e,show (a.kind==2)=false by simpa using e]
    cases hd:bJ a.measure with
    |false=>exact Wi a.measure s.vk W' (hR W' hb').kids hd
    |true =>
     have hz:=oZ hd
     have hr:=(hR W' hb').kids
     rw [hz] at hr ⊢
     exact Ss zM s.vk _ W' hr (Dir _ _))
  (fun W' hb'=>by
   unfold only oU
   dsimp only
   by_cases e:a.kind=4
   ·rw [Ap e,Ap e,Ap e,e]
    exact Su a.licence s.vm s.vp s.vm s.vp W' (hR W' hb').lm (hR W' hb').lp (hR W' hb').lm (hR W' hb').lp
   ·rw [Af e,Af e,Af e,show (a.kind==4)=false by simpa using e]
    cases hd:dn a.licence with
    |true=>exact Wj a.licence s.vm s.vp W' (hR W' hb').lm (hR W' hb').lp hd
    |false =>
     have hz:=oL hd
     have hr:=(hR W' hb').lm
     have hr2:=(hR W' hb').lp
     rw [hz] at hr hr2 ⊢
     exact Su zL s.vm s.vp _ _ W' hr hr2 (L3 _ _) (L3 _ _))
  (fun W' hb'=>by
   unfold only oU
   dsimp only
   by_cases e:a.kind=6
   ·rw [Ap e,Ap e,e]
    exact Qk a.holding s.vj s.vj W' (hR W' hb').hj (hR W' hb').hj
   ·rw [Af e,Af e,show (a.kind==6)=false by simpa using e]
    cases hd:dw a.holding with
    |true=>exact Cls a.holding s.vj W' (hR W' hb').hj hd
    |false =>
     have hz:=oN hd
     have hr:=(hR W' hb').hj
     rw [hz] at hr ⊢
     exact Qk zH s.vj _ W' hr (L3 _ _))
 have e:((a.kind==1||!dG a.change)&&((a.kind==2||bJ a.measure)&&((a.kind==4||!dn a.licence)&&((a.kind==6||!dw a.holding)&&(a.id==(only a).id&&a.n==(only a).n)))))=CH.unused a:=by clear this hR hW h;obtain⟨k,ch,me,li,ho,id,n⟩:=a;unfold CH.unused only;dsimp only at *;generalize dG ch=d1;generalize bJ me=d2;generalize dn li=d3;generalize dw ho=d4;rcases (oM:k=1\/k=2\/k=3\/k=4\/k=5\/k=6\/k=7) with rfl|rfl|rfl|rfl|rfl|rfl|rfl;all_goals cases d1 <;> cases d2 <;> cases d3 <;> cases d4 <;> simp [bne]
 rwa [e] at this
theorem Ms (k:Int) (o:Nat) (T:TypeId) (C C' C1 Z:List ZC) (w:ZB) (R:Bool) (hk:k=1/\o=1/\T=56\/k=2/\o=6/\T=61\/k=4/\o=18/\T=63\/k=6/\o=25/\T=51) (hd:∃ d,prog.underlying T=some d/\d.isRow=true) (hZ:Av ⟨k,zC,zM,zL,zH,[],0⟩ nN=Z) (i1:(prog.info? T).map (·.size)=some C1.length) (hC:C.length=37) (hC':C'.length=37) (h0:C[0]?=some (.int .i64 k)) (hp:∀ j u,C1[j]?=some u->C[o+j]?=some u) (hone:∀ v∈C1,v.oneCell'=true) (hs:Z.take o++(C1++Z.drop (o+C1.length))=C') (ho:o+C1.length<=37) (S:∀ (W:ZB),Below w.heap.size w W->ZE prog 157 #[.agg C.toArray,.agg C'.toArray] W (Ret W (.bool R))) : ZE prog 101 #[.agg C.toArray] w (Ret w (.bool R)):=by
 replace S:=Aa S;obtain⟨d,hu,hd⟩:=hd;have i37:(prog.info? 65).map (·.size)=some 37:=kR;have iA:(prog.info? 65).map (·.size)=some C.length:=by rw [hC];exact i37
 have iB:(prog.info? 65).map (·.size)=some C'.length:=by rw [hC'];exact i37
 have hlz:Z.length=37:=by rw [<- hZ];rfl
 have iZ:(prog.info? 65).map (·.size)=some Z.length:=by rw [hlz];exact i37
 have hbu:k=1\/k=2\/k=4\/k=6->prog.built 65 [(0,.int .i64 k)]=some Z.toArray:=by rw [<- hZ];rintro (rfl|rfl|rfl|rfl);all_goals kernel_rfl
 replace hbu:=hbu oM;have h1Z:∀ v∈Z,v.oneCell'=true:=by rw [<- hZ];exact Ff (Bsn w.heap.size w k [] 0)
 have hz3:(Z.take o).length=o:=by rw [Ec];omega
 have hz4:Z.take o++((Z.drop o).take C1.length++Z.drop (o+C1.length))=Z:=by rw [<- List.drop_drop,En,En]
 have wP:((w.alloc (.cells C.toArray 65)).alloc (.cells Z.toArray 65)).setCells (w.heap.size+1) o C1=(w.alloc (.cells C.toArray 65)).alloc (.cells C'.toArray 65):=by have:=So (w.alloc (.cells C.toArray 65)) 65 C1 (Z.take o) ((Z.drop o).take C1.length) (Z.drop (o+C1.length)) (by rw [Ec,Et];omega);rwa [hz4,hz3,hs,Dt] at this
 have hth:((w.alloc (.cells C.toArray 65)).alloc (.cells Z.toArray 65)).there (w.heap.size+1) o C1.toArray.size:=fun j hj=>by
  have hl:=Au (w.alloc (.cells C.toArray 65)) (.cells Z.toArray 65);rw [Dt] at hl;have hj2:j<C1.length:=by simpa using hj
  refine⟨?_,Bi hl _⟩;rw [Ab hl,Hy,Ad oM];rfl
 replace wP:=Aa wP;replace hth:=Aa hth;have hr0:=Aa (B7 w C 65);have k0:=hr0.out 0 _ h0;have r0:Hid ((w.alloc (.cells C.toArray 65)).rangeAt w.heap.size (0+o) C1):=Aa fun j u hj=>by have:=hr0.out (o+j) u (hp j u hj);rwa [<- Jc] at this
 have r1:=Aa (Nd r0.out (.cells Z.toArray 65));have k0':=(((Ac _ _).alloc nR (.cells Z.toArray 65)).cell (p:=⟨w.heap.size,0,none⟩) sM).trans k0;have hra:=Aa (Nd hr0.out (.cells C'.toArray 65));have hrb:Hid (((w.alloc (.cells C.toArray 65)).alloc (.cells C'.toArray 65)).rangeAt (w.heap.size+1) 0 C'):=Aa (by have:=B7 (w.alloc (.cells C.toArray 65)) C' 65;rwa [Dt] at this);have hB2:=Aa (((Ac _ w).alloc nR (.cells C.toArray 65)).alloc sM (.cells C'.toArray 65));dsimp only [Av,A9,A4,Bu,A5,ay,aJ,zC,zM,zL,zH,nN,CH.Formula.op,CH.Formula.name,CH.Formula.cmp,CH.Formula.n,List.cons_append,List.nil_append] at hZ;have hlit:=congrArg List.toArray hZ;replace hlz:=Aa hlz;clear hZ r0 hz3 hz4 hs ho hp h0 hC hC' i37;rcases hk with⟨rfl,rfl,rfl⟩|⟨rfl,rfl,rfl⟩|⟨rfl,rfl,rfl⟩|⟨rfl,rfl,rfl⟩;all_goals
  go_enter func101,ntmps101;go_wp2_with (first|refine wpList_buildTo rfl 65 _ rfl _ rfl Z.toArray hbu ?_|refine Lw (w.heap.size+1) sM rfl 65 _ _ rfl Z rfl rfl (by rw [hlz.out];rfl) iZ h1Z ?_|refine Bf rfl _ _ rfl w.heap.size _ rfl C1 d r1.out hu hd i1 ?_|refine Hg rfl _ _ _ rfl (w.heap.size+1) _ C1.toArray rfl rfl hth.out (by simpa using i1) (F9 hone) ?_;rw [wP.out]|refine Bf rfl 65 _ rfl w.heap.size 0 rfl C _ hra.out underlying65 rfl iA ?_|refine Bf rfl 65 _ rfl (w.heap.size+1) 0 rfl C' _ hrb.out underlying65 rfl iB ?_)
  refine (S.out _ hB2.out).mono ?_;rintro e w1 ⟨rfl,hb1⟩;go_wp2;go_ret;exact⟨rfl,hB2.out.trans (hb1.mono hB2.out.size)⟩
theorem R7 (k:Int) (C C' Z:List ZC) (id:List UInt8) (n:Int) (w:ZB) (R:Bool) (hk:k=3\/k=5\/k=7) (hZ:Av ⟨k,zC,zM,zL,zH,[],0⟩ nN=Z) (hC:C.length=37) (h0:C[0]?=some (.int .i64 k)) (h35:C[35]?=some (.string ⟨id.toArray⟩)) (h36:C[36]?=some (.int .i64 n)) (hset':(Z.set 35 (.string ⟨id.toArray⟩)).set 36 (.int .i64 n)=C') (S:∀ (W:ZB),Below w.heap.size w W->ZE prog 157 #[.agg C.toArray,.agg C'.toArray] W (Ret W (.bool R))) : ZE prog 101 #[.agg C.toArray] w (Ret w (.bool R)):=by
 replace S:=Aa S;have i37:(prog.info? 65).map (·.size)=some 37:=kR;have hlz:Z.length=37:=by rw [<- hZ];rfl
 have hC':C'.length=37:=by rw [<- hset',Lu,Lu,hlz]
 have iA:(prog.info? 65).map (·.size)=some C.length:=by rw [hC];exact i37
 have iB:(prog.info? 65).map (·.size)=some C'.length:=by rw [hC'];exact i37
 have iZ:(prog.info? 65).map (·.size)=some Z.length:=by rw [hlz];exact i37
 have h1Z:∀ v∈Z,v.oneCell'=true:=by rw [<- hZ];exact Ff (Bsn w.heap.size w k [] 0)
 have hr0:=Aa (B7 w C 65);have k0:=hr0.out 0 _ h0;have k35:=hr0.out 35 _ h35;have k36:=hr0.out 36 _ h36;rw [Bh] at k35 k36;have hra:=Aa (Nd hr0.out (.cells C'.toArray 65));have hrb:Hid (((w.alloc (.cells C.toArray 65)).alloc (.cells C'.toArray 65)).rangeAt (w.heap.size+1) 0 C'):=Aa (by have:=B7 (w.alloc (.cells C.toArray 65)) C' 65;rwa [Dt] at this);have hB2:=Aa (((Ac _ w).alloc nR (.cells C.toArray 65)).alloc sM (.cells C'.toArray 65));have kk:=fun (D:Array ZC) (i:Nat)=>((Ac _ (w.alloc (.cells C.toArray 65))).alloc nR (.cells D 65)).cell (p:=⟨w.heap.size,i,none⟩) sM;obtain⟨D,hD⟩:∃ D,Hid (Z.set 35 (.string ⟨id.toArray⟩)=D):=⟨_,Aa rfl⟩
 have hbk:=fun (D:List ZC)=>(show ((w.alloc (.cells C.toArray 65)).alloc (.cells D.toArray 65)).heap[w.heap.size+1]?=some (.cells D.toArray 65 (0,0)) from by have:=Au (w.alloc (.cells C.toArray 65)) (.cells D.toArray 65);rwa [Dt] at this)
 have hth:=fun (D:List ZC) (o:Nat) (ho:o<D.length)=>(show ((w.alloc (.cells C.toArray 65)).alloc (.cells D.toArray 65)).there (w.heap.size+1) o 1 from fun j hj=>by obtain rfl:j=0:=oM;refine⟨?_,Bi (hbk D) _⟩;rw [Ab (hbk D),Hu,Hy,Ad ho];rfl)
 have ED:=Aa (hth Z 35 (by rw [hlz];omega));have EC:=Aa (hth D 36 (by rw [<- hD.out,Lu,hlz];omega));have hw1:Hid (((w.alloc (.cells C.toArray 65)).alloc (.cells Z.toArray 65)).setCell ⟨w.heap.size+1,35,none⟩ (.string ⟨id.toArray⟩)=(w.alloc (.cells C.toArray 65)).alloc (.cells D.toArray 65)):=Aa (by rw [Jf _ _ _ _ _ sM,List.setIfInBounds_toArray,hD.out]);have hw2:Hid (((w.alloc (.cells C.toArray 65)).alloc (.cells D.toArray 65)).setCell ⟨w.heap.size+1,36,none⟩ (.int .i64 n)=(w.alloc (.cells C.toArray 65)).alloc (.cells C'.toArray 65)):=Aa (by rw [Jf _ _ _ _ _ sM,List.setIfInBounds_toArray,<- hD.out,hset']);have is:(prog.info? 9).map (·.size)=some 1:=kR;have ii:(prog.info? 3).map (·.size)=some 1:=kR;have m0:=(kk Z.toArray 0).trans k0;have m35:=(kk Z.toArray 35).trans k35;have m36:=(kk D.toArray 36).trans k36;dsimp only [Av,A9,A4,Bu,A5,ay,aJ,zC,zM,zL,zH,nN,CH.Formula.op,CH.Formula.name,CH.Formula.cmp,CH.Formula.n,List.cons_append,List.nil_append] at hZ;have hlit:=congrArg List.toArray hZ;replace hlz:=Aa hlz;clear hset' hbk hth kk k35 k36 hZ hC hC' i37 h0 h35 h36;rcases hk with rfl|rfl|rfl;all_goals
  go_enter func101,ntmps101;go_wp2_with (first|refine Lw (w.heap.size+1) sM rfl 65 _ _ rfl Z rfl rfl (by rw [hlz.out];rfl) iZ h1Z ?_|refine Nm rfl 9 _ _ rfl (w.heap.size+1) 35 (.string ⟨id.toArray⟩) _ rfl rfl rfl ED.out is hw1.out ?_|refine Nm rfl 3 _ _ rfl (w.heap.size+1) 36 (.int .i64 n) _ rfl rfl rfl EC.out ii hw2.out ?_|refine Bf rfl 65 _ rfl w.heap.size 0 rfl C _ hra.out underlying65 rfl iA ?_|refine Bf rfl 65 _ rfl (w.heap.size+1) 0 rfl C' _ hrb.out underlying65 rfl iB ?_)
  refine (S.out _ hB2.out).mono ?_;rintro e w1 ⟨rfl,hb1⟩;go_wp2;go_ret;exact⟨rfl,hB2.out.trans (hb1.mono hB2.out.size)⟩
theorem Zb (k:Int) (C Z:List ZC) (w:ZB) (hk:¬ (1<=k/\k<=7)) (hZ:Av ⟨k,zC,zM,zL,zH,[],0⟩ nN=Z) (hC:C.length=37) (h0:C[0]?=some (.int .i64 k)) : ZE prog 101 #[.agg C.toArray] w (Ret w (.bool false)):=by
 have i37:(prog.info? 65).map (·.size)=some 37:=kR;have hlz:Z.length=37:=by rw [<- hZ];rfl
 have iZ:(prog.info? 65).map (·.size)=some Z.length:=by rw [hlz];exact i37
 have h1Z:∀ v∈Z,v.oneCell'=true:=by rw [<- hZ];exact Ff (Bsn w.heap.size w k [] 0)
 have k0:=B7 w C 65 0 _ h0;have hB2:=Aa fun o=>((Ac _ w).alloc nR (.cells C.toArray 65)).alloc sM o;have m0:=(((Ac _ (w.alloc (.cells C.toArray 65))).alloc nR (.cells Z.toArray 65)).cell (p:=⟨w.heap.size,0,none⟩) sM).trans k0;dsimp only [Av,A9,A4,Bu,A5,ay,aJ,zC,zM,zL,zH,nN,CH.Formula.op,CH.Formula.name,CH.Formula.cmp,CH.Formula.n,List.cons_append,List.nil_append] at hZ;have hlit:=congrArg List.toArray hZ;have n1:(k==1)=false/\¬ k=1:=⟨by simp;omega,oM⟩
 have n2:(k==2)=false/\¬ k=2:=⟨by simp;omega,oM⟩
 have n3:(k==3)=false/\¬ k=3:=⟨by simp;omega,oM⟩
 have n4:(k==4)=false/\¬ k=4:=⟨by simp;omega,oM⟩
 have n5:(k==5)=false/\¬ k=5:=⟨by simp;omega,oM⟩
 have n6:(k==6)=false/\¬ k=6:=⟨by simp;omega,oM⟩
 have n7:(k==7)=false/\¬ k=7:=⟨by simp;omega,oM⟩
 obtain⟨n1,m1⟩:=n1;obtain⟨n2,m2⟩:=n2;obtain⟨n3,m3⟩:=n3;obtain⟨n4,m4⟩:=n4;obtain⟨n5,m5⟩:=n5;obtain⟨n6,m6⟩:=n6;obtain⟨n7,m7⟩:=n7;replace hlz:=Aa hlz;clear hZ hC h0 i37 hk;go_enter func101,ntmps101;go_wp2_with (refine Lw (w.heap.size+1) sM rfl 65 _ _ rfl Z rfl rfl (by rw [hlz.out];rfl) iZ h1Z ?_)
 go_ret;exact⟨rfl,hB2.out _⟩
theorem Qr (a:CH.Act) (s:eX) (w:ZB) (h:dB w.heap.size w a s) : ZE prog 101 #[.agg (Av a s).toArray] w (Ret w (.bool (ZH (1<=a.kind/\a.kind<=7)&&CH.unused a))):=by
 by_cases hk:1<=a.kind/\a.kind<=7
 ·rw [Ak hk,a_Bool_true_and];have S:=Hxk a s w h hk;have hone:∀ v∈Av a s,v.oneCell'=true:=Ff h;obtain⟨k,ch,me,li,ho,id,n⟩:=a;dsimp only at hk;rcases (oM:k=1\/k=2\/k=3\/k=4\/k=5\/k=6\/k=7) with rfl|rfl|rfl|rfl|rfl|rfl|rfl;·exact Ms 1 1 56 _ _ (A9 ch s.vn) _ w _ (.inl ⟨rfl,rfl,rfl⟩) ⟨_,underlying56,rfl⟩ rfl kR rfl rfl rfl (fun j u hj=>Vo (l:=[aJ 1]) rfl j u hj) (fun v hv=>hone v (Gj _ (I9 _ hv))) rfl (by show 1+5<=37;omega) S
  ·exact Ms 2 6 61 _ _ (A4 me s.vk) _ w _ (.inr (.inl ⟨rfl,rfl,rfl⟩)) ⟨_,underlying61,rfl⟩ rfl kR rfl rfl rfl (fun j u hj=>Vo (l:=aJ 2::A9 ch s.vn) rfl j u hj) (fun v hv=>hone v (Gj _ (Hw _ (I9 _ hv)))) rfl (by show 6+12<=37;omega) S
  ·exact R7 3 _ _ _ id n w _ (.inl rfl) rfl rfl rfl rfl rfl rfl S
  ·exact Ms 4 18 63 _ _ (Bu li s.vm s.vp) _ w _ (.inr (.inr (.inl ⟨rfl,rfl,rfl⟩))) ⟨_,underlying63,rfl⟩ rfl kR rfl rfl rfl (fun j u hj=>Vo (l:=aJ 4::(A9 ch s.vn++A4 me s.vk)) rfl j u hj) (fun v hv=>hone v (Gj _ (Hw _ (Hw _ (I9 _ hv))))) rfl (by show 18+7<=37;omega) S
  ·exact R7 5 _ _ _ id n w _ (.inr (.inl rfl)) rfl rfl rfl rfl rfl rfl S
  ·exact Ms 6 25 51 _ _ (A5 ho s.vj) _ w _ (.inr (.inr (.inr ⟨rfl,rfl,rfl⟩))) ⟨_,underlying51,rfl⟩ rfl kR rfl rfl rfl (fun j u hj=>Vo (l:=aJ 6::(A9 ch s.vn++(A4 me s.vk++Bu li s.vm s.vp))) rfl j u hj) (fun v hv=>hone v (Gj _ (Hw _ (Hw _ (Hw _ (I9 _ hv)))))) rfl (by show 25+10<=37;omega) S
  ·exact R7 7 _ _ _ id n w _ (.inr (.inr rfl)) rfl rfl rfl rfl rfl rfl S
 ·rw [Aq hk,Bool.false_and];exact Zb a.kind _ _ w hk rfl rfl rfl
theorem Eg (a:CH.Act) (s:eX) (w:ZB) (h:dB w w a s) (hu:CH.unused a=true) (hk:1<=a.kind/\a.kind<=7) : ZE prog 101 #[.agg (Av a s).toArray] w (Ret w (.bool true)):=by have:=Qr a s w h;rwa [Ak hk,hu] at this
end
end Go.Proofs.YtpkjhpenpfcpfaaGreatDoor
