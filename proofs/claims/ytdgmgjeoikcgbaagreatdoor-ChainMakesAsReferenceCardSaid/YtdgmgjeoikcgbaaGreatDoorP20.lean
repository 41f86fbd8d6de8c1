/-
  ChainMakes: the proof, part 21 of 34.
-/
import Derived.Test.YtdgmgjeoikcgbaaGreatDoorP19
import Derived.Great.BuildSlice
set_option linter.unusedSimpArgs false
set_option linter.unusedVariables false
set_option maxHeartbeats 40000000
set_option maxRecDepth 100000
open Go renaming World -> ZB, Value -> ZC, Calls -> ZE, TypeId -> ZJ
open Go.Act renaming put -> ZF
open Go.RowKit renaming intOf -> ZG
open Decidable renaming decide -> ZH
namespace Go.Proofs.YtdgmgjeoikcgbaaGreatDoor
section
open Go.Lib Go.Proofs.Tryz Go.RowKit Go.Shelf Go.Sort CH
attribute [local irreducible] wpQuiet
theorem Ta (w:ZB) (T:ZJ):∀ (cs pre z post:List ZC),z.length=cs.length->(w.alloc (.cells (pre++(z++post)).toArray T)).setCells w.heap.size pre.length cs=w.alloc (.cells (pre++(cs++post)).toArray T)
 |[],pre,z,post,h=>by
  have:z=[]:=Ce.1 (by simpa using h)
  subst this
  rfl
 |v::cs,pre,z,post,h=>by
  cases z with
  |nil=>simp at h
  |cons u z =>
   rw [World.setCells,Jm _ _ _ _ _ rfl]
   have e:((pre++(u::z++post)).toArray.setIfInBounds pre.length v)=((pre++[v])++(z++post)).toArray:=sM
   rw [e]
   have:=Ta w T cs (pre++[v]) z post (by simpa using h)
   rw [Au,Dx] at this
   rw [this]
   simp
theorem Lw {P:Program} {ops:Array Oper} {rest:List Oper} {op:Oper} {a:Act} {w:ZB} {Q:Exit->Act->ZB->Prop} {z:Array ZC} {T:ZJ} (g:Nat) (hg:w.heap.size=g) (hgd:op.guard=none) (ty:ZJ) (x y:Operand) (ho:op.op=.store ty x y) (cs:List ZC) (hx:a.eval x=.pointer (some ⟨g,0,none⟩)) (hy:a.eval y=.agg cs.toArray) (hz:z.size=cs.length) (hi:(P.info? ty).map (·.size)=some cs.length) (h1:∀ v∈cs,v.oneCell'=true) (h:wpList P ops Q rest (a.put op.dst undef) (w.alloc (.cells cs.toArray T))):wpList P ops Q (op::rest) a (w.alloc (.cells z T)):=by subst hg;exact B8 hgd ty x y ho cs hx hy hz hi h1 h
theorem Od {P:Program} {ops:Array Oper} {rest:List Oper} {op:Oper} {a:Act} {w:ZB} {Q:Exit->Act->ZB->Prop} (hgd:op.guard=none) (ty:ZJ) (x y:Operand) (ho:op.op=.store ty x y) (b o:Nat) (v:ZC) (W':ZB) (hx:a.eval x=.pointer (some ⟨b,o,none⟩)) (hy:a.eval y=v) (h1:v.oneCell'=true) (ht:w.there b o 1) (hi:(P.info? ty).map (·.size)=some 1) (hW:w.setCell ⟨b,o,none⟩ v=W') (h:wpList P ops Q rest (a.put op.dst undef) W'):wpList P ops Q (op::rest) a w:=by
 subst hW hy;have hc:(a.eval y).cells=#[a.eval y]:=by generalize a.eval y=v at *;cases v <;> first|rfl|cases h1
 have hs:=run_storeCells_cells (P:=P) b o [a.eval y] 0 w (fun j hj=>by simp at hj;subst hj;simpa using (ht 0 oM).1) (fun j hj=>by simp at hj;subst hj;simpa using (ht 0 oM).2) (fun v hv=>by simp at hv;subst hv;exact h1);refine wpList_plain hgd fun _ hK=>?_;unfold Oper.wp execOp;cases hq:P.info? ty with
 |none=>simp [hq] at hi
 |some i =>
  have hsz:i.size=1:=by simpa [hq] using hi
  simp only [Ia,World.setCells] at hs;have hst:(storeVar ty ⟨b,o,none⟩ (a.eval y)).run P w=.ok () (w.setCell ⟨b,o,none⟩ (a.eval y)):=by simp [storeVar,sizeOf,typeInfo,hq,hc,hsz,hs]
  simp only [ho,hx,Instr.storeAt,Instr.sureAddr,Jp,Lu,Ip,hst];exact hK _ _ h
theorem Vh {l m r:List ZC} {o:Nat} (ho:l.length=o) (j:Nat) (u:ZC) (h:m[j]?=some u):(l++(m++r))[o+j]?=some u:=by subst ho;rw [Gs oM,Hw,Hf (lS h)];exact h
def nT:eH:=⟨.slice none 0 0,.slice none 0 0,.slice none 0 0,.slice none 0 0,.slice none 0 0⟩
theorem Bit (B:Nat) (w:ZB) (k:Int) (id:List UInt8) (n:Int):dw B w ⟨k,zC,zM,zL,zH,id,n⟩ nT:=⟨Tc B w,Dfe B w,Mg B w,Mg B w,Mg B w⟩
def only (a:CH.Act):CH.Act:=⟨a.kind,if a.kind=1 then a.change else zC,if a.kind=2 then a.measure else zM,if a.kind=4 then a.licence else zL,if a.kind=6 then a.holding else zH,if a.kind=3\/a.kind=5\/a.kind=7 then a.id else [],if a.kind=3\/a.kind=5\/a.kind=7 then a.n else 0⟩
def oW (k:Int) (s:eH):eH:=⟨if k=1 then s.vn else .slice none 0 0,if k=2 then s.vk else .slice none 0 0,if k=4 then s.vm else .slice none 0 0,if k=4 then s.vp else .slice none 0 0,if k=6 then s.vj else .slice none 0 0⟩
theorem Hxs (a:CH.Act) (s:eH) (w:ZB) (h:dw w w a s) (hk:1<=a.kind/\a.kind<=7) (W:ZB) (hb:Below w w W) : ZE prog 29 #[.agg (Av a s).toArray,.agg (Av (only a) (oW a.kind s)).toArray] W (Ret W (.bool (CH.unused a))):=by
 have hW:=(h.below hb nR).mono hb.size;have hR:∀ (W':ZB),Below W W W'->dw W' W' a s:=fun W' hb'=>(hW.below hb' nR).mono hb'.size;have:=Vy a (only a) s (oW a.kind s) W (a.kind==1||!dG a.change) (a.kind==2||bG a.measure) (a.kind==4||!dA a.licence) (a.kind==6||!dB a.holding) rfl
  (fun W' hb'=>by
   unfold only oW
   dsimp only
   by_cases e:a.kind=1
   ·rw [Ar e,Ar e,e]
    exact O2 a.change s.vn s.vn W' (hR W' hb').names (hR W' hb').names
   ·rw [Ah e,Ah e,show (a.kind==1)=false by simpa using e]
    cases hd:dG a.change with
    |true=>exact Yi a.change s.vn W' (hR W' hb').names hd
    |false =>
     have hz:=qo hd
     have hr:=(hR W' hb').names
     rw [hz] at hr ⊢
     exact O2 zC s.vn _ W' hr (Tc _ _))
  (fun W' hb'=>by
   unfold only oW
   dsimp only
   by_cases e:a.kind=2
   ·rw [Ar e,Ar e,e]
    exact M6 a.measure s.vk s.vk W' (hR W' hb').kids (hR W' hb').kids
   ·rw [Ah e,Ah e,show (a.kind==2)=false by simpa using e]
    cases hd:bG a.measure with
    |false=>exact Vw a.measure s.vk W' (hR W' hb').kids hd
    |true =>
     have hz:=pG hd
     have hr:=(hR W' hb').kids
     rw [hz] at hr ⊢
     exact M6 zM s.vk _ W' hr (Dfe _ _))
  (fun W' hb'=>by
   unfold only oW
   dsimp only
   by_cases e:a.kind=4
   ·rw [Ar e,Ar e,Ar e,e]
    exact M7 a.licence s.vm s.vp s.vm s.vp W' (hR W' hb').lm (hR W' hb').lp (hR W' hb').lm (hR W' hb').lp
   ·rw [Ah e,Ah e,Ah e,show (a.kind==4)=false by simpa using e]
    cases hd:dA a.licence with
    |true=>exact Vx a.licence s.vm s.vp W' (hR W' hb').lm (hR W' hb').lp hd
    |false =>
     have hz:=oO hd
     have hr:=(hR W' hb').lm
     have hr2:=(hR W' hb').lp
     rw [hz] at hr hr2 ⊢
     exact M7 zL s.vm s.vp _ _ W' hr hr2 (Mg _ _) (Mg _ _))
  (fun W' hb'=>by
   unfold only oW
   dsimp only
   by_cases e:a.kind=6
   ·rw [Ar e,Ar e,e]
    exact So a.holding s.vj s.vj W' (hR W' hb').hj (hR W' hb').hj
   ·rw [Ah e,Ah e,show (a.kind==6)=false by simpa using e]
    cases hd:dB a.holding with
    |true=>exact Ch7 a.holding s.vj W' (hR W' hb').hj hd
    |false =>
     have hz:=oP hd
     have hr:=(hR W' hb').hj
     rw [hz] at hr ⊢
     exact So zH s.vj _ W' hr (Mg _ _))
 have e:((a.kind==1||!dG a.change)&&((a.kind==2||bG a.measure)&&((a.kind==4||!dA a.licence)&&((a.kind==6||!dB a.holding)&&(a.id==(only a).id&&a.n==(only a).n)))))=CH.unused a:=by clear this hR hW h;obtain⟨k,ch,me,li,ho,id,n⟩:=a;unfold CH.unused only;dsimp only at *;generalize dG ch=d1;generalize bG me=d2;generalize dA li=d3;generalize dB ho=d4;rcases (oM:k=1\/k=2\/k=3\/k=4\/k=5\/k=6\/k=7) with rfl|rfl|rfl|rfl|rfl|rfl|rfl;all_goals cases d1 <;> cases d2 <;> cases d3 <;> cases d4 <;> simp [bne]
 rwa [e] at this
theorem Mw (k:Int) (o:Nat) (T:ZJ) (C C' C1 Z:List ZC) (w:ZB) (R:Bool) (hk:k=1/\o=1/\T=54\/k=2/\o=6/\T=59\/k=4/\o=18/\T=61\/k=6/\o=25/\T=49) (hd:∃ d,prog.underlying T=some d/\d.isRow=true) (hZ:Av ⟨k,zC,zM,zL,zH,[],0⟩ nT=Z) (i1:(prog.info? T).map (·.size)=some C1.length) (hC:C.length=37) (hC':C'.length=37) (h0:C[0]?=some (.int .i64 k)) (hp:∀ j u,C1[j]?=some u->C[o+j]?=some u) (hone:∀ v∈C1,v.oneCell'=true) (hs:Z.take o++(C1++Z.drop (o+C1.length))=C') (ho:o+C1.length<=37) (S:∀ (W:ZB),Below w.heap.size w W->ZE prog 29 #[.agg C.toArray,.agg C'.toArray] W (Ret W (.bool R))) : ZE prog 181 #[.agg C.toArray] w (Ret w (.bool R)):=by
 replace S:=Aa S;obtain⟨d,hu,hd⟩:=hd;have i37:(prog.info? 63).map (·.size)=some 37:=kR;have iA:(prog.info? 63).map (·.size)=some C.length:=by rw [hC];exact i37
 have iB:(prog.info? 63).map (·.size)=some C'.length:=by rw [hC'];exact i37
 have hlz:Z.length=37:=by rw [<- hZ];rfl
 have iZ:(prog.info? 63).map (·.size)=some Z.length:=by rw [hlz];exact i37
 have hbu:k=1\/k=2\/k=4\/k=6->prog.built 63 [(0,.int .i64 k)]=some Z.toArray:=by rw [<- hZ];rintro (rfl|rfl|rfl|rfl);all_goals kernel_rfl
 replace hbu:=hbu oM;have h1Z:∀ v∈Z,v.oneCell'=true:=by rw [<- hZ];exact Fl (Bit w.heap.size w k [] 0)
 have hz3:(Z.take o).length=o:=by rw [Dz];omega
 have hz4:Z.take o++((Z.drop o).take C1.length++Z.drop (o+C1.length))=Z:=by rw [<- List.drop_drop,Ep,Ep]
 have wW:((w.alloc (.cells C.toArray 63)).alloc (.cells Z.toArray 63)).setCells (w.heap.size+1) o C1=(w.alloc (.cells C.toArray 63)).alloc (.cells C'.toArray 63):=by have:=Ta (w.alloc (.cells C.toArray 63)) 63 C1 (Z.take o) ((Z.drop o).take C1.length) (Z.drop (o+C1.length)) (by rw [Dz,Fa];omega);rwa [hz4,hz3,hs,Dn] at this
 have hth:((w.alloc (.cells C.toArray 63)).alloc (.cells Z.toArray 63)).there (w.heap.size+1) o C1.toArray.size:=fun j hj=>by
  have hl:=Ap (w.alloc (.cells C.toArray 63)) (.cells Z.toArray 63);rw [Dn] at hl;have hj2:j<C1.length:=by simpa using hj
  refine⟨?_,A9 hl _⟩;rw [Ab hl,Gt,Ad oM];rfl
 replace wW:=Aa wW;replace hth:=Aa hth;have hr0:=Aa (Ca w C 63);have k0:=hr0.out 0 _ h0;have r0:Hid ((w.alloc (.cells C.toArray 63)).rangeAt w.heap.size (0+o) C1):=Aa fun j u hj=>by have:=hr0.out (o+j) u (hp j u hj);rwa [<- Lm] at this
 have r1:=Aa (N3 r0.out (.cells Z.toArray 63));have k0':=(((Ac _ _).alloc nR (.cells Z.toArray 63)).cell (p:=⟨w.heap.size,0,none⟩) sM).trans k0;have hra:=Aa (N3 hr0.out (.cells C'.toArray 63));have hrb:Hid (((w.alloc (.cells C.toArray 63)).alloc (.cells C'.toArray 63)).rangeAt (w.heap.size+1) 0 C'):=Aa (by have:=Ca (w.alloc (.cells C.toArray 63)) C' 63;rwa [Dn] at this);have hB2:=Aa (((Ac _ w).alloc nR (.cells C.toArray 63)).alloc sM (.cells C'.toArray 63));dsimp only [Av,Bb,A4,B6,A5,aA,aJ,zC,zM,zL,zH,nT,CH.Formula.op,CH.Formula.name,CH.Formula.cmp,CH.Formula.n,List.cons_append,List.nil_append] at hZ;have hlit:=congrArg List.toArray hZ;replace hlz:=Aa hlz;clear hZ r0 hz3 hz4 hs ho hp h0 hC hC' i37;rcases hk with⟨rfl,rfl,rfl⟩|⟨rfl,rfl,rfl⟩|⟨rfl,rfl,rfl⟩|⟨rfl,rfl,rfl⟩;all_goals
  go_enter func181,ntmps181;go_wp2_with (first|refine wpList_buildTo rfl 63 _ rfl _ rfl Z.toArray hbu ?_|refine Lw (w.heap.size+1) sM rfl 63 _ _ rfl Z rfl rfl (by rw [hlz.out];rfl) iZ h1Z ?_|refine Bf rfl _ _ rfl w.heap.size _ rfl C1 d r1.out hu hd i1 ?_|refine Ef rfl _ _ _ rfl (w.heap.size+1) _ C1.toArray rfl rfl hth.out (by simpa using i1) (Ec hone) ?_;rw [wW.out]|refine Bf rfl 63 _ rfl w.heap.size 0 rfl C _ hra.out underlying63 rfl iA ?_|refine Bf rfl 63 _ rfl (w.heap.size+1) 0 rfl C' _ hrb.out underlying63 rfl iB ?_)
  refine (S.out _ hB2.out).mono ?_;rintro e w1 ⟨rfl,hb1⟩;go_wp2;go_ret;exact⟨rfl,hB2.out.trans (hb1.mono hB2.out.size)⟩
theorem Sw (k:Int) (C C' Z:List ZC) (id:List UInt8) (n:Int) (w:ZB) (R:Bool) (hk:k=3\/k=5\/k=7) (hZ:Av ⟨k,zC,zM,zL,zH,[],0⟩ nT=Z) (hC:C.length=37) (h0:C[0]?=some (.int .i64 k)) (h35:C[35]?=some (.string ⟨id.toArray⟩)) (h36:C[36]?=some (.int .i64 n)) (hset':(Z.set 35 (.string ⟨id.toArray⟩)).set 36 (.int .i64 n)=C') (S:∀ (W:ZB),Below w.heap.size w W->ZE prog 29 #[.agg C.toArray,.agg C'.toArray] W (Ret W (.bool R))) : ZE prog 181 #[.agg C.toArray] w (Ret w (.bool R)):=by
 replace S:=Aa S;have i37:(prog.info? 63).map (·.size)=some 37:=kR;have hlz:Z.length=37:=by rw [<- hZ];rfl
 have hC':C'.length=37:=by rw [<- hset',Ls,Ls,hlz]
 have iA:(prog.info? 63).map (·.size)=some C.length:=by rw [hC];exact i37
 have iB:(prog.info? 63).map (·.size)=some C'.length:=by rw [hC'];exact i37
 have iZ:(prog.info? 63).map (·.size)=some Z.length:=by rw [hlz];exact i37
 have h1Z:∀ v∈Z,v.oneCell'=true:=by rw [<- hZ];exact Fl (Bit w.heap.size w k [] 0)
 have hr0:=Aa (Ca w C 63);have k0:=hr0.out 0 _ h0;have k35:=hr0.out 35 _ h35;have k36:=hr0.out 36 _ h36;rw [Bh] at k35 k36;have hra:=Aa (N3 hr0.out (.cells C'.toArray 63));have hrb:Hid (((w.alloc (.cells C.toArray 63)).alloc (.cells C'.toArray 63)).rangeAt (w.heap.size+1) 0 C'):=Aa (by have:=Ca (w.alloc (.cells C.toArray 63)) C' 63;rwa [Dn] at this);have hB2:=Aa (((Ac _ w).alloc nR (.cells C.toArray 63)).alloc sM (.cells C'.toArray 63));have kk:=fun (D:Array ZC) (i:Nat)=>((Ac _ (w.alloc (.cells C.toArray 63))).alloc nR (.cells D 63)).cell (p:=⟨w.heap.size,i,none⟩) sM;obtain⟨D,hD⟩:∃ D,Hid (Z.set 35 (.string ⟨id.toArray⟩)=D):=⟨_,Aa rfl⟩
 have hbk:=fun (D:List ZC)=>(show ((w.alloc (.cells C.toArray 63)).alloc (.cells D.toArray 63)).heap[w.heap.size+1]?=some (.cells D.toArray 63 (0,0)) from by have:=Ap (w.alloc (.cells C.toArray 63)) (.cells D.toArray 63);rwa [Dn] at this)
 have hth:=fun (D:List ZC) (o:Nat) (ho:o<D.length)=>(show ((w.alloc (.cells C.toArray 63)).alloc (.cells D.toArray 63)).there (w.heap.size+1) o 1 from fun j hj=>by obtain rfl:j=0:=oM;refine⟨?_,A9 (hbk D) _⟩;rw [Ab (hbk D),Ia,Gt,Ad ho];rfl)
 have qg:=Aa (hth Z 35 (by rw [hlz];omega));have EH:=Aa (hth D 36 (by rw [<- hD.out,Ls,hlz];omega));have hw1:Hid (((w.alloc (.cells C.toArray 63)).alloc (.cells Z.toArray 63)).setCell ⟨w.heap.size+1,35,none⟩ (.string ⟨id.toArray⟩)=(w.alloc (.cells C.toArray 63)).alloc (.cells D.toArray 63)):=Aa (by rw [Jm _ _ _ _ _ sM,List.setIfInBounds_toArray,hD.out]);have hw2:Hid (((w.alloc (.cells C.toArray 63)).alloc (.cells D.toArray 63)).setCell ⟨w.heap.size+1,36,none⟩ (.int .i64 n)=(w.alloc (.cells C.toArray 63)).alloc (.cells C'.toArray 63)):=Aa (by rw [Jm _ _ _ _ _ sM,List.setIfInBounds_toArray,<- hD.out,hset']);have is:(prog.info? 9).map (·.size)=some 1:=kR;have ii:(prog.info? 3).map (·.size)=some 1:=kR;have m0:=(kk Z.toArray 0).trans k0;have m35:=(kk Z.toArray 35).trans k35;have m36:=(kk D.toArray 36).trans k36;dsimp only [Av,Bb,A4,B6,A5,aA,aJ,zC,zM,zL,zH,nT,CH.Formula.op,CH.Formula.name,CH.Formula.cmp,CH.Formula.n,List.cons_append,List.nil_append] at hZ;have hlit:=congrArg List.toArray hZ;replace hlz:=Aa hlz;clear hset' hbk hth kk k35 k36 hZ hC hC' i37 h0 h35 h36;rcases hk with rfl|rfl|rfl;all_goals
  go_enter func181,ntmps181;go_wp2_with (first|refine Lw (w.heap.size+1) sM rfl 63 _ _ rfl Z rfl rfl (by rw [hlz.out];rfl) iZ h1Z ?_|refine Od rfl 9 _ _ rfl (w.heap.size+1) 35 (.string ⟨id.toArray⟩) _ rfl rfl rfl qg.out is hw1.out ?_|refine Od rfl 3 _ _ rfl (w.heap.size+1) 36 (.int .i64 n) _ rfl rfl rfl EH.out ii hw2.out ?_|refine Bf rfl 63 _ rfl w.heap.size 0 rfl C _ hra.out underlying63 rfl iA ?_|refine Bf rfl 63 _ rfl (w.heap.size+1) 0 rfl C' _ hrb.out underlying63 rfl iB ?_)
  refine (S.out _ hB2.out).mono ?_;rintro e w1 ⟨rfl,hb1⟩;go_wp2;go_ret;exact⟨rfl,hB2.out.trans (hb1.mono hB2.out.size)⟩
theorem Yx (k:Int) (C Z:List ZC) (w:ZB) (hk:¬ (1<=k/\k<=7)) (hZ:Av ⟨k,zC,zM,zL,zH,[],0⟩ nT=Z) (hC:C.length=37) (h0:C[0]?=some (.int .i64 k)) : ZE prog 181 #[.agg C.toArray] w (Ret w (.bool false)):=by
 have i37:(prog.info? 63).map (·.size)=some 37:=kR;have hlz:Z.length=37:=by rw [<- hZ];rfl
 have iZ:(prog.info? 63).map (·.size)=some Z.length:=by rw [hlz];exact i37
 have h1Z:∀ v∈Z,v.oneCell'=true:=by rw [<- hZ];exact Fl (Bit w.heap.size w k [] 0)
 have k0:=Ca w C 63 0 _ h0;have hB2:=Aa fun o=>((Ac _ w).alloc nR (.cells C.toArray 63)).alloc sM o;have m0:=(((Ac _ (w.alloc (.cells C.toArray 63))).alloc nR (.cells Z.toArray 63)).cell (p:=⟨w.heap.size,0,none⟩) sM).trans k0;dsimp only [Av,Bb,A4,B6,A5,aA,aJ,zC,zM,zL,zH,nT,CH.Formula.op,CH.Formula.name,CH.Formula.cmp,CH.Formula.n,List.cons_append,List.nil_append] at hZ;have hlit:=congrArg List.toArray hZ;have n1:(k==1)=false/\¬ k=1:=⟨by simp;omega,oM⟩
 have n2:(k==2)=false/\¬ k=2:=⟨by simp;omega,oM⟩
 have n3:(k==3)=false/\¬ k=3:=⟨by simp;omega,oM⟩
 have n4:(k==4)=false/\¬ k=4:=⟨by simp;omega,oM⟩
 have n5:(k==5)=false/\¬ k=5:=⟨by simp;omega,oM⟩
 have n6:(k==6)=false/\¬ k=6:=⟨by simp;omega,oM⟩
 have n7:(k==7)=false/\¬ k=7:=⟨by simp;omega,oM⟩
 obtain⟨n1,m1⟩:=n1;obtain⟨n2,m2⟩:=n2;obtain⟨n3,m3⟩:=n3;obtain⟨n4,m4⟩:=n4;obtain⟨n5,m5⟩:=n5;obtain⟨n6,m6⟩:=n6;obtain⟨n7,m7⟩:=n7;replace hlz:=Aa hlz;clear hZ hC h0 i37 hk;go_enter func181,ntmps181;go_wp2_with (refine Lw (w.heap.size+1) sM rfl 63 _ _ rfl Z rfl rfl (by rw [hlz.out];rfl) iZ h1Z ?_)
 go_ret;exact⟨rfl,hB2.out _⟩
theorem Qr (a:CH.Act) (s:eH) (w:ZB) (h:dw w.heap.size w a s) : ZE prog 181 #[.agg (Av a s).toArray] w (Ret w (.bool (ZH (1<=a.kind/\a.kind<=7)&&CH.unused a))):=by
 by_cases hk:1<=a.kind/\a.kind<=7
 ·rw [Aj hk,a_Bool_true_and];have S:=Hxs a s w h hk;have hone:∀ v∈Av a s,v.oneCell'=true:=Fl h;obtain⟨k,ch,me,li,ho,id,n⟩:=a;dsimp only at hk;rcases (oM:k=1\/k=2\/k=3\/k=4\/k=5\/k=6\/k=7) with rfl|rfl|rfl|rfl|rfl|rfl|rfl;·exact Mw 1 1 54 _ _ (Bb ch s.vn) _ w _ (.inl ⟨rfl,rfl,rfl⟩) ⟨_,underlying54,rfl⟩ rfl kR rfl rfl rfl (fun j u hj=>Vh (l:=[aJ 1]) rfl j u hj) (fun v hv=>hone v (Gp _ (Jh _ hv))) rfl (by show 1+5<=37;omega) S
  ·exact Mw 2 6 59 _ _ (A4 me s.vk) _ w _ (.inr (.inl ⟨rfl,rfl,rfl⟩)) ⟨_,underlying59,rfl⟩ rfl kR rfl rfl rfl (fun j u hj=>Vh (l:=aJ 2::Bb ch s.vn) rfl j u hj) (fun v hv=>hone v (Gp _ (Ib _ (Jh _ hv)))) rfl (by show 6+12<=37;omega) S
  ·exact Sw 3 _ _ _ id n w _ (.inl rfl) rfl rfl rfl rfl rfl rfl S
  ·exact Mw 4 18 61 _ _ (B6 li s.vm s.vp) _ w _ (.inr (.inr (.inl ⟨rfl,rfl,rfl⟩))) ⟨_,underlying61,rfl⟩ rfl kR rfl rfl rfl (fun j u hj=>Vh (l:=aJ 4::(Bb ch s.vn++A4 me s.vk)) rfl j u hj) (fun v hv=>hone v (Gp _ (Ib _ (Ib _ (Jh _ hv))))) rfl (by show 18+7<=37;omega) S
  ·exact Sw 5 _ _ _ id n w _ (.inr (.inl rfl)) rfl rfl rfl rfl rfl rfl S
  ·exact Mw 6 25 49 _ _ (A5 ho s.vj) _ w _ (.inr (.inr (.inr ⟨rfl,rfl,rfl⟩))) ⟨_,underlying49,rfl⟩ rfl kR rfl rfl rfl (fun j u hj=>Vh (l:=aJ 6::(Bb ch s.vn++(A4 me s.vk++B6 li s.vm s.vp))) rfl j u hj) (fun v hv=>hone v (Gp _ (Ib _ (Ib _ (Ib _ (Jh _ hv)))))) rfl (by show 25+10<=37;omega) S
  ·exact Sw 7 _ _ _ id n w _ (.inr (.inr rfl)) rfl rfl rfl rfl rfl rfl S
 ·rw [Ak hk,Gi];exact Yx a.kind _ _ w hk rfl rfl rfl
theorem Ek (a:CH.Act) (s:eH) (w:ZB) (h:dw w w a s) (hu:CH.unused a=true) (hk:1<=a.kind/\a.kind<=7) : ZE prog 181 #[.agg (Av a s).toArray] w (Ret w (.bool true)):=by have:=Qr a s w h;rwa [Aj hk,hu] at this
end
section
open Go.Lib Go.Proofs.Tryz Go.RowKit Go.Shelf Go.Sort CH
attribute [local irreducible] wpQuiet
def H3l (w:ZB) (n:Nat) (e:Ending) (w':ZB):Prop:=∃ v ls,e=.returned v/\Ax 0 w' v ls/\ls.length<=n/\Below w w w'
theorem Ax.low {base base':Nat} {w:ZB} {v:ZC} {ls:List (List UInt8)} (h:Ax base w v ls) (hb:base'<=base):Ax base' w v ls:=by
 obtain⟨hlen,h|⟨g,cap,cur,hv,hg,h⟩⟩:=h;·exact⟨hlen,.inl h⟩
 ·exact⟨hlen,.inr ⟨g,cap,cur,hv,Af hb hg,h⟩⟩
theorem Ww {w:ZB} {g:Nat} {s:List UInt8} {T:ZJ} (h:w.heap[g]?=some (.cells #[↑s] T (0,0))):∃ B,Strs B w (.slice (some ⟨g,0,none⟩) 1 1) [s]:=by
 refine⟨g+1,some ⟨g,0,none⟩,1,rfl,Bv _,oM,fun _=>⟨g,0,rfl,Ez _,fun j l hj=>?_⟩⟩;cases j with
 |zero =>simp only [Eu,Fq] at hj;subst hj;exact (Ab h 0).trans rfl
 |succ j=>simp at hj
theorem Ax.two {base:Nat} {w:ZB} {v:ZC} {ls:List (List UInt8)} (h:Ax base w v ls):v=.slice none 0 0/\ls=[]\/∃ g cap,v=.slice (some ⟨g,0,none⟩) ls.length cap/\ls.length<=cap/\cap<=9223372036854775807:=by
 obtain⟨hlen,⟨rfl,h0⟩|⟨g,cap,cur,rfl,hb,hg,hn,hc,hsz,htk⟩⟩:=h;·exact .inl ⟨rfl,Ce.1 h0⟩
 ·exact .inr ⟨g,cap,rfl,hn,by unfold maxLen at hc;omega⟩
theorem Cq {w:ZB} {o:Oper} {a:Act} {K:Act->ZB->Prop} {Q:Exit->Act->ZB->Prop} (s x:Operand) (ho:o.op=.call { callee:=.builtin .append,args:=#[s,x],argTypes:=#[25,25] }) (base:Nat) (v:ZC) (ls:List (List UInt8)) (hs:a.eval s=v) (hown:Ax base w v ls) (B:Nat) (vx:ZC) (lx:List (List UInt8)) (hx:a.eval x=vx) (hX:Strs B w vx lx) (hlen:ls.length+lx.length<=1000000) (hbase:base<=w.heap.size) (h:∀ v' w',Ax base w' v' (ls++lx)->w.grownBy w' v.ownBlock->K (a.put o.dst v') w'):o.wp prog a w K Q:=by
 obtain⟨i,hi,hz0,hz1,hz2⟩:=I7 Qg;rcases hX.source with⟨ad,c,rfl,hnews⟩|⟨c,rfl,hm,hnil⟩
 ·refine wp_append_own w s x 25 ho base 9 i _ 1 16 underlying25 hi hz0 hz1 hz2 rfl dC v ls.length _ hs hown ad lx.length c (lx.map aA) hx sM hnews ?_ ?_ ?_ hbase ?_;·intro u hu;obtain⟨l,_,rfl⟩:=Ej.1 hu;rfl
  ·exact FD143
  ·omega
  ·intro v' w' h1 h2 _;exact h v' w' (by unfold Ax;simpa using h1) h2
 ·have hl0:lx=[]:=Ce.1 hm;subst hl0;obtain⟨av,cv,rfl,hcv,_,_⟩:=hown.form;have hr:=Ts (P:=prog) w 25 o.type 9 i underlying25 hi av ls.length cv c hcv;unfold Oper.wp execOp;simp only [ho,resolve,invoke,builtin,Jp,Lu,Ip,List.map_toArray,F9,Iw,hs,hx,hr,Bj];exact h _ _ (by simpa using hown) (World.grownBy.refl _ _)
theorem Ggw (v:ZC) (ls:List (List UInt8)) (s:List UInt8) (w:ZB) (hv:Ax 0 w v ls) (hn:ls.length<=1000) : ZE prog 292 #[v,↑s] w (H3l w (ls.length+1)):=by
 have hB0:Below w w w.drew:=(Ac _ w).drew;have hv0:=Aa hv;rcases hv.two with⟨rfl,rfl⟩|⟨g,cap,rfl,hl,hcap⟩
 ·clear hv hn;obtain⟨LA,hLA⟩:∃ LA,Hid (([]:List (List UInt8))=LA):=⟨_,Aa rfl⟩
  obtain⟨LB,hLB⟩:∃ LB,Hid (([]:List (List UInt8))=LB):=⟨_,Aa rfl⟩
  go_enter func292,ntmps292;go_wp2_with fail;go_loopw [5] (fun i wr=>i=.int .i64 0/\wr=w) (fun i _=>0);case atStart=>exact⟨rfl,rfl⟩
  case round =>
   obtain⟨rfl,rfl⟩:=hrel;have hA:Hid (∀ W',Below wr wr W'->Strs wr W' (.slice none 0 0) LA):=Aa fun W' _=>by rw [<- hLA.out];exact⟨none,0,rfl,Bv _,oM,fun h=>absurd rfl h⟩
   have hD:Hid (∀ W',Below wr wr W'->Strs wr W' (.slice none 0 0) LB):=Aa fun W' _=>by rw [<- hLB.out];exact⟨none,0,rfl,Bv _,oM,fun h=>absurd rfl h⟩
   have hLn:Hid (LA.length+1+LB.length<=0+1):=Aa (by rw [<- hLA.out,<- hLB.out];simp);go_wp2_with fail;refine Fe (S:=fun W'=>Below wr wr W') kR hB0 (fun hHeld=>?_);refine tj 1 rfl rF hHeld ?_;(try simp only [ZF,pD,pE,pF,pA,pB,pC]);refine tj 2 rfl rF hHeld ?_;(try simp only [ZF,pD,pE,pF,pA,pB,pC]);refine tj 3 rfl rF hHeld ?_;(try simp only [ZF,pD,pE,pF,pA,pB,pC]);refine tj 5 rfl rF hHeld ?_;(try simp only [ZF,pD,pE,pF,pA,pB,pC]);refine tj 8 rfl rF hHeld ?_;(try simp only [ZF,pD,pE,pF,pA,pB,pC]);refine tj 9 rfl rF hHeld ?_;(try simp only [ZF,pD,pE,pF,pA,pB,pC]);refine tj 10 rfl rF hHeld ?_;(try simp only [ZF,pD,pE,pF,pA,pB,pC]);refine Eb (rs:=[0,6]) kR sM ?_;refine Bq (o:=_) rfl (fun K hK=>?_) ?_;focus
    go_simp;have hB1:Below wr wr (wr.alloc (.cells #[] 9)).drew:=((Ac _ wr).alloc nR _).drew;have hO1:Ax wr (wr.alloc (.cells #[] 9)).drew (.slice (some ⟨wr,0,none⟩) 0 0) []:=(G1 wr [] sM).below (Ac _ _).drew;have hg1:wr.heap.size<(wr.alloc (.cells #[] 9)).drew.heap.size:=by show _<(wr.alloc (.cells #[] 9)).heap.size;simp
    refine hK.out _ _ hB1 (fun hHeld=>?_);clear hK;generalize (wr.alloc (.cells #[] 9)).drew=W1 at *;(try simp only [ZF,pD,pE,pF,pA,pB,pC]);refine Eb (rs:=[4,6]) kR sM ?_;refine Bq (o:=_) rfl (fun K hK=>?_) ?_;focus rw [Ar rF];refine Cq _ _ rfl wr _ [] rfl hO1 wr _ LA rfl (hA.out W1 hB1) (by have:=hLn.out;simp;omega) hB1.size ?_;intro v2 w2 hO2 hg2;rw [Dp] at hO2;have hB2:Below wr wr w2:=hB1.grown hg2 hB1.size (fun j hj=>(Dj hO1 j hj).1);refine hK.out _ _ hB2 (fun hHeld=>?_);clear hK;(try simp only [ZF,pD,pE,pF,pA,pB,pC]);refine rk 6 rfl (fun K hK=>?_);go_simp;have hBx:Below wr wr (w2.alloc (.cells #[↑s] 9)):=hB2.alloc hB2.size _;have hOx:Ax wr (w2.alloc (.cells #[↑s] 9)) v2 LA:=hO2.below ((Ac _ w2).alloc nR _);have hXx:=Ww (Ap w2 (.cells #[↑s] 9));refine hK.out _ _ hBx (fun hHeld=>?_);clear hK hB1 hO1 hO2 hg2 hB2 hg1;generalize (w2.alloc (.cells #[↑s] 9))=Wx at *;(try simp only [ZF,pD,pE,pF,pA,pB,pC])
    rotate_left;focus refine Bq (o:=_) rfl (fun K hK=>?_) Eo;go_simp;have hB2:Below wr wr (W1.alloc (.cells #[↑s] 9)):=hB1.alloc hB1.size _;have hO2:Ax wr (W1.alloc (.cells #[↑s] 9)) (.slice (some ⟨wr,0,none⟩) 0 0) []:=hO1.below ((Ac _ W1).alloc nR _);have hX2:=Ap W1 (.cells #[↑s] 9);refine hK.out _ _ hB2 (fun hHeld=>?_);clear hK;(try simp only [ZF,pD,pE,pF,pA,pB,pC]);refine rk 4 rfl (fun K hK=>?_);rw [Ar rF];refine Cq _ _ rfl wr _ [] rfl hO2 wr _ LA rfl (hA.out _ hB2) (by have:=hLn.out;simp;omega) hB2.size ?_;intro v2 Wx hOx hg2;rw [Dp] at hOx;have hBx:Below wr wr Wx:=hB2.grown hg2 hB2.size (fun j hj=>(Dj hO2 j hj).1);have hXx:=Ww ((hg2.block W1 sM (fun e=>by injection e with e;dsimp only at e;omega)).trans hX2);refine hK.out _ _ hBx (fun hHeld=>?_);clear hK hB1 hO1 hO2 hg2 hB2 hX2 hg1;(try simp only [ZF,pD,pE,pF,pA,pB,pC])
    rotate_left
   rotate_left 2;focus
    refine Bq (o:=_) rfl (fun K hK=>?_) Eo;go_simp;have hB1:Below wr wr (wr.alloc (.cells #[↑s] 9)).drew:=((Ac _ wr).alloc nR _).drew;have hX1:(wr.alloc (.cells #[↑s] 9)).drew.heap[wr.heap.size]?=_:=Ap wr (.cells #[↑s] 9);have hg1:wr.heap.size<(wr.alloc (.cells #[↑s] 9)).drew.heap.size:=by show _<(wr.alloc (.cells #[↑s] 9)).heap.size;simp
    refine hK.out _ _ hB1 (fun hHeld=>?_);clear hK;generalize (wr.alloc (.cells #[↑s] 9)).drew=W1 at *;(try simp only [ZF,pD,pE,pF,pA,pB,pC]);refine rk 0 rfl (fun K hK=>?_);go_simp;have hB2:Below wr wr (W1.alloc (.cells #[] 9)):=hB1.alloc hB1.size _;have hO2:Ax wr (W1.alloc (.cells #[] 9)) (.slice (some ⟨W1,0,none⟩) 0 0) []:=(G1 W1 [] sM).low hB1.size;have hX2:=(((Ac _ W1).alloc nR (.cells #[] 9)).block wr.heap.size hg1).trans hX1;refine hK.out _ _ hB2 (fun hHeld=>?_);clear hK;(try simp only [ZF,pD,pE,pF,pA,pB,pC]);refine rk 4 rfl (fun K hK=>?_);rw [Ar rF];refine Cq _ _ rfl wr _ [] rfl hO2 wr _ LA rfl (hA.out _ hB2) (by have:=hLn.out;simp;omega) hB2.size ?_;intro v2 Wx hOx hg2;rw [Dp] at hOx;have hBx:Below wr wr Wx:=hB2.grown hg2 hB2.size (fun j hj=>(Dj hO2 j hj).1);have hXx:=Ww ((hg2.block wr (by simp;omega) (fun e=>by injection e with e;dsimp only at e;omega)).trans hX2);refine hK.out _ _ hBx (fun hHeld=>?_);clear hK hB1 hO2 hg2 hB2 hX2 hX1 hg1;(try simp only [ZF,pD,pE,pF,pA,pB,pC])
   all_goals obtain⟨BX,hXx⟩:=hXx;refine rk 7 rfl (fun K hK=>?_);rw [Ar rF];refine Cq _ _ rfl wr _ LA rfl hOx BX _ [s] rfl hXx (by have:=hLn.out;simp;omega) hBx.size ?_;intro v4 w4 hO4 hg4;have hB4:Below wr wr w4:=hBx.grown hg4 hBx.size (fun j hj=>(Dj hOx j hj).1);refine hK.out _ _ hB4 (fun hHeld=>?_);clear hK;(try simp only [ZF,pD,pE,pF,pA,pB,pC]);refine rk 11 rfl (fun K hK=>?_);rw [Ar rF];refine Cq _ _ rfl wr _ (LA++[s]) rfl hO4 wr _ LB rfl (hD.out _ hB4) (by have:=hLn.out;simp;omega) hB4.size ?_;intro v5 w5 hO5 hg5;have hB5:Below wr wr w5:=hB4.grown hg5 hB4.size (fun j hj=>(Dj hO4 j hj).1);refine hK.out _ _ hB5 (fun hHeld=>?_);clear hK;(try simp only [ZF,pD,pE,pF,pA,pB,pC]);refine tj 12 rfl rF hHeld ?_;(try simp only [ZF,pD,pE,pF,pA,pB,pC]);refine D8 kR ?_ _;go_wp2;all_goals go_ret;exact⟨v5,LA++[s]++LB,rfl,hO5.low (Bg _),by have:=hLn.out;simp;omega,hB5⟩
 ·have HV:=Aa hv.strs;clear hv;obtain⟨N,hN⟩:∃ N,ls.length=N:=⟨_,rfl⟩
  rw [hN] at hl hn hv0 HV ⊢;replace hN:=Aa hN;go_enter func292,ntmps292;go_wp2_with fail;go_loopw [5] (fun i wr=>∃ k:Nat,k<=N/\i=↑k/\wr=w) (fun i _=>N - (ZG i).toNat);case atStart=>exact⟨0,Bg _,rfl,rfl⟩
  case round =>
   obtain⟨k,hk,rfl,rfl⟩:=hrel;obtain⟨LA,hLA⟩:∃ LA,Hid (ls.take k=LA):=⟨_,Aa rfl⟩
   obtain⟨LB,hLB⟩:∃ LB,Hid (ls.drop k=LB):=⟨_,Aa rfl⟩
   have hA:Hid (∀ W',Below wr wr W'->Strs wr W' (.slice (some ⟨g,0,none⟩) k cap) LA):=Aa fun W' hb=>by rw [<- hLA.out];exact (HV.out.take k (by rw [hN.out];exact hk)).below hb nR
   have hD:Hid (∀ W',Below wr wr W'->Strs wr W' (.slice (if cap=k then some ⟨g,0,none⟩ else some ⟨g,k,none⟩) (N - k) (cap - k)) LB):=Aa fun W' hb=>by
    rw [<- hLB.out];refine⟨_,cap - k,by rw [Fa,hN.out],by rw [Fa,hN.out];omega,oM,fun hn0=>?_⟩;have hkN:k<N:=by
     rcases Ld k N with h|h;·exact h
     ·exact absurd (Kw (by rw [hN.out];exact h)) hn0
    rw [Ah oM];obtain⟨_,_,ev,_,_,hne⟩:=HV.out;injection ev with ev1 ev2 ev3;obtain⟨b,off,e,hbl,hcells⟩:=hne (by intro h;have:=hN.out;simp [h] at this;omega);rw [<- ev1] at e;cases e;refine⟨g,k,rfl,hbl,fun j l hj=>?_⟩;rw [Ie] at hj;have:=hcells (k+j) l hj;rw [Bh] at this;exact (hb.cell (p:=⟨g,k+j,none⟩) hbl).trans this
   have hLn:Hid (LA.length+1+LB.length<=N+1):=Aa (by rw [<- hLA.out,<- hLB.out,Dz,Fa,hN.out];omega);have hkc:(k:Int)<=(cap:Int):=oM;have hkn:(k:Int)<=(N:Int):=oM;have z0:(0:Int)<=(k:Int):=oM;have zk:((k:Int)).toNat=k:=oM;by_cases hlt:k<N;focus
    obtain⟨_,_,ev,_,_,hne⟩:=HV.out;injection ev with ev1 ev2 ev3;rw [<- ev1] at hne;clear ev1 ev2 ev3;obtain⟨b,off,e,hbl,hcells⟩:=hne (by intro h;have:=hN.out;simp [h] at this;omega);cases e;obtain⟨l,hl'⟩:∃ l,ls[k]?=some l:=⟨_,Ad (by rw [hN.out];exact hlt)⟩
    have e1:=hcells k l hl';rw [Bh] at e1;have hk':(k:Int)<(N:Int):=oM;clear hcells hl' hne;go_wp2_with fail;all_goals first |(exact⟨⟨k+1,oM,by go_num,trivial⟩,by simp [ZG];omega⟩) |(go_ret;exact⟨_,ls,rfl,hv0.out,by rw [hN.out];omega,Ac _ _⟩) |skip
   rotate_left;focus have hk':¬ (k:Int)<(N:Int):=oM;go_wp2_with fail
   all_goals
    refine Fe (S:=fun W'=>Below wr wr W') kR hB0 (fun hHeld=>?_);refine tj 1 rfl rF hHeld ?_;(try simp only [ZF,pD,pE,pF,pA,pB,pC]);refine tj 2 rfl rF hHeld ?_;(try simp only [ZF,pD,pE,pF,pA,pB,pC]);refine tj 3 rfl rF hHeld ?_;(try simp only [ZF,pD,pE,pF,pA,pB,pC]);refine tj 5 rfl rF hHeld ?_;(try simp only [ZF,pD,pE,pF,pA,pB,pC]);refine tj 8 rfl rF hHeld ?_;(try simp only [ZF,pD,pE,pF,pA,pB,pC]);refine tj 9 rfl rF hHeld ?_;(try simp only [ZF,pD,pE,pF,pA,pB,pC]);refine tj 10 rfl rF hHeld ?_;(try simp only [ZF,pD,pE,pF,pA,pB,pC]);refine Eb (rs:=[0,6]) kR sM ?_;refine Bq (o:=_) rfl (fun K hK=>?_) ?_;focus
     go_simp;have hB1:Below wr wr (wr.alloc (.cells #[] 9)).drew:=((Ac _ wr).alloc nR _).drew;have hO1:Ax wr (wr.alloc (.cells #[] 9)).drew (.slice (some ⟨wr,0,none⟩) 0 0) []:=(G1 wr [] sM).below (Ac _ _).drew;have hg1:wr.heap.size<(wr.alloc (.cells #[] 9)).drew.heap.size:=by show _<(wr.alloc (.cells #[] 9)).heap.size;simp
     refine hK.out _ _ hB1 (fun hHeld=>?_);clear hK;generalize (wr.alloc (.cells #[] 9)).drew=W1 at *;(try simp only [ZF,pD,pE,pF,pA,pB,pC]);refine Eb (rs:=[4,6]) kR sM ?_;refine Bq (o:=_) rfl (fun K hK=>?_) ?_;focus rw [Ar rF];refine Cq _ _ rfl wr _ [] rfl hO1 wr _ LA rfl (hA.out W1 hB1) (by have:=hLn.out;simp;omega) hB1.size ?_;intro v2 w2 hO2 hg2;rw [Dp] at hO2;have hB2:Below wr wr w2:=hB1.grown hg2 hB1.size (fun j hj=>(Dj hO1 j hj).1);refine hK.out _ _ hB2 (fun hHeld=>?_);clear hK;(try simp only [ZF,pD,pE,pF,pA,pB,pC]);refine rk 6 rfl (fun K hK=>?_);go_simp;have hBx:Below wr wr (w2.alloc (.cells #[↑s] 9)):=hB2.alloc hB2.size _;have hOx:Ax wr (w2.alloc (.cells #[↑s] 9)) v2 LA:=hO2.below ((Ac _ w2).alloc nR _);have hXx:=Ww (Ap w2 (.cells #[↑s] 9));refine hK.out _ _ hBx (fun hHeld=>?_);clear hK hB1 hO1 hO2 hg2 hB2 hg1;generalize (w2.alloc (.cells #[↑s] 9))=Wx at *;(try simp only [ZF,pD,pE,pF,pA,pB,pC])
     rotate_left;focus refine Bq (o:=_) rfl (fun K hK=>?_) Eo;go_simp;have hB2:Below wr wr (W1.alloc (.cells #[↑s] 9)):=hB1.alloc hB1.size _;have hO2:Ax wr (W1.alloc (.cells #[↑s] 9)) (.slice (some ⟨wr,0,none⟩) 0 0) []:=hO1.below ((Ac _ W1).alloc nR _);have hX2:=Ap W1 (.cells #[↑s] 9);refine hK.out _ _ hB2 (fun hHeld=>?_);clear hK;(try simp only [ZF,pD,pE,pF,pA,pB,pC]);refine rk 4 rfl (fun K hK=>?_);rw [Ar rF];refine Cq _ _ rfl wr _ [] rfl hO2 wr _ LA rfl (hA.out _ hB2) (by have:=hLn.out;simp;omega) hB2.size ?_;intro v2 Wx hOx hg2;rw [Dp] at hOx;have hBx:Below wr wr Wx:=hB2.grown hg2 hB2.size (fun j hj=>(Dj hO2 j hj).1);have hXx:=Ww ((hg2.block W1 sM (fun e=>by injection e with e;dsimp only at e;omega)).trans hX2);refine hK.out _ _ hBx (fun hHeld=>?_);clear hK hB1 hO1 hO2 hg2 hB2 hX2 hg1;(try simp only [ZF,pD,pE,pF,pA,pB,pC])
     rotate_left
    rotate_left 2;focus
     refine Bq (o:=_) rfl (fun K hK=>?_) Eo;go_simp;have hB1:Below wr wr (wr.alloc (.cells #[↑s] 9)).drew:=((Ac _ wr).alloc nR _).drew;have hX1:(wr.alloc (.cells #[↑s] 9)).drew.heap[wr.heap.size]?=_:=Ap wr (.cells #[↑s] 9);have hg1:wr.heap.size<(wr.alloc (.cells #[↑s] 9)).drew.heap.size:=by show _<(wr.alloc (.cells #[↑s] 9)).heap.size;simp
     refine hK.out _ _ hB1 (fun hHeld=>?_);clear hK;generalize (wr.alloc (.cells #[↑s] 9)).drew=W1 at *;(try simp only [ZF,pD,pE,pF,pA,pB,pC]);refine rk 0 rfl (fun K hK=>?_);go_simp;have hB2:Below wr wr (W1.alloc (.cells #[] 9)):=hB1.alloc hB1.size _;have hO2:Ax wr (W1.alloc (.cells #[] 9)) (.slice (some ⟨W1,0,none⟩) 0 0) []:=(G1 W1 [] sM).low hB1.size;have hX2:=(((Ac _ W1).alloc nR (.cells #[] 9)).block wr.heap.size hg1).trans hX1;refine hK.out _ _ hB2 (fun hHeld=>?_);clear hK;(try simp only [ZF,pD,pE,pF,pA,pB,pC]);refine rk 4 rfl (fun K hK=>?_);rw [Ar rF];refine Cq _ _ rfl wr _ [] rfl hO2 wr _ LA rfl (hA.out _ hB2) (by have:=hLn.out;simp;omega) hB2.size ?_;intro v2 Wx hOx hg2;rw [Dp] at hOx;have hBx:Below wr wr Wx:=hB2.grown hg2 hB2.size (fun j hj=>(Dj hO2 j hj).1);have hXx:=Ww ((hg2.block wr (by simp;omega) (fun e=>by injection e with e;dsimp only at e;omega)).trans hX2);refine hK.out _ _ hBx (fun hHeld=>?_);clear hK hB1 hO2 hg2 hB2 hX2 hX1 hg1;(try simp only [ZF,pD,pE,pF,pA,pB,pC])
    all_goals obtain⟨BX,hXx⟩:=hXx;refine rk 7 rfl (fun K hK=>?_);rw [Ar rF];refine Cq _ _ rfl wr _ LA rfl hOx BX _ [s] rfl hXx (by have:=hLn.out;simp;omega) hBx.size ?_;intro v4 w4 hO4 hg4;have hB4:Below wr wr w4:=hBx.grown hg4 hBx.size (fun j hj=>(Dj hOx j hj).1);refine hK.out _ _ hB4 (fun hHeld=>?_);clear hK;(try simp only [ZF,pD,pE,pF,pA,pB,pC]);refine rk 11 rfl (fun K hK=>?_);rw [Ar rF];refine Cq _ _ rfl wr _ (LA++[s]) rfl hO4 wr _ LB rfl (hD.out _ hB4) (by have:=hLn.out;simp;omega) hB4.size ?_;intro v5 w5 hO5 hg5;have hB5:Below wr wr w5:=hB4.grown hg5 hB4.size (fun j hj=>(Dj hO4 j hj).1);refine hK.out _ _ hB5 (fun hHeld=>?_);clear hK;(try simp only [ZF,pD,pE,pF,pA,pB,pC]);refine tj 12 rfl rF hHeld ?_;(try simp only [ZF,pD,pE,pF,pA,pB,pC]);refine D8 kR ?_ _;go_wp2;all_goals go_ret;exact⟨v5,LA++[s]++LB,rfl,hO5.low (Bg _),by have:=hLn.out;simp;omega,hB5⟩
end
section
open Go.Lib Go.Proofs.Tryz Go.RowKit Go.Shelf Go.Sort CH
attribute [local irreducible] wpQuiet
theorem Wj (v:ZC) (ls:List (List UInt8)) (s:List UInt8) (w:ZB) (hv:Strs w w v ls) : ZE prog 290 #[v,↑s] w (Ret w (.bool (ls.contains s))):=by
 obtain⟨a,cap,rfl,hl,hcap,hne⟩:=hv;replace hne:=Aa hne;obtain⟨R,hR⟩:∃ R,ls.contains s=R:=⟨_,rfl⟩
 rw [hR];replace hR:=Aa hR;obtain⟨N,hN⟩:∃ N,ls.length=N:=⟨_,rfl⟩
 rw [hN] at hl ⊢;replace hN:=Aa hN;go_enter func290,ntmps290;go_wp2_with fail;go_loopw [5] (fun i wr=>∃ k:Nat,k<=N/\i=↑k/\wr=w/\Hid ((ls.take k).contains s=false)) (fun i _=>N - (ZG i).toNat);case atStart=>exact⟨0,Bg _,rfl,rfl,Aa rfl⟩
 case round =>
  obtain⟨k,hk,rfl,rfl,hc⟩:=hrel;by_cases hlt:k<N
  ·obtain⟨b,off,rfl,hbl,hcells⟩:=hne.out (by intro h;have:=hN.out;simp [h] at this;omega);obtain⟨l,hl'⟩:∃ l,ls[k]?=some l:=⟨_,Ad (by rw [hN.out];exact hlt)⟩
   have e1:=hcells k l hl';have z0:(0:Int)<=(k:Int):=oM;have zk:((k:Int)).toNat=k:=oM;have hk':(k:Int)<(N:Int):=oM;cases hx:l==s with
   |true =>
    obtain rfl:=eq_of_beq hx;obtain rfl:true=R:=by rw [<- hR.out];exact (List.contains_iff_mem.2 (Aq hl')).symm
    clear hcells hl' hx;exact FD34
   |false =>
    obtain⟨q1,q2,q3⟩:=Kj hx;have hc2:=Aa (show (ls.take (k+1)).contains s=false from by rw [O7 hl',hc.out,hx];rfl);clear hcells hl';go_wp2;go_roundw;case rel=>exact⟨k+1,oM,by go_num,by first|rfl|trivial,hc2⟩
    case measure=>simp [ZG];omega
  ·obtain rfl:k=N:=oM;obtain rfl:false=R:=by rw [<- hR.out,<- hc.out,Cb (by rw [hN.out];exact Bv _)]
   exact FD34
theorem Ggz (a:Option Addr) (cap:Nat) (s:List UInt8) (w:ZB) : ZE prog 242 #[.slice a 0 cap,↑s] w (Ret w (.int .i64 (-1))):=by
 go_enter func242,ntmps242;go_wp2_with fail;go_loopw [5] (fun i wr=>i=.int .i64 0/\wr=w) (fun _ _=>0);case atStart=>exact⟨rfl,rfl⟩
 case round =>obtain⟨rfl,rfl⟩:=hrel;exact FD34
theorem Xb:∀ {l:List (List UInt8)},(∀ (j k:Nat) (x y:List UInt8),l[j]?=some x->l[k]?=some y->j<k->(x==y)=false)->dX l=true
 |[],_=>rfl
 |z::l,h=>by
  have h1:l.contains z=false:=by
   rw [I8,Di]
   intro hm
   obtain⟨k,hk⟩:=Fp.1 hm
   have:=h 0 (k+1) z z rfl (by simpa using hk) oM
   simp at this
  rw [dX,h1,Xb fun j k x y hj hk hlt=>h (j+1) (k+1) x y (by simpa using hj) (by simpa using hk) oM]
  rfl
structure kX (h:aS):Prop where
 id:CH.isName h.id=true
 company:CH.isName h.company=true
 holder:CH.isName h.holder=true
 nom:h.ah=[]\/CH.isName h.ah=true/\h.joint.length=0
 tY:h.aC=[]\/CH.isName h.aC=true
 j4:h.joint.length<=4
 jn:∀ x∈h.joint,CH.isName x=true
 jt:∀ (j k:Nat) (x y:List UInt8),h.joint[j]?=some x->h.joint[k]?=some y->j<k->(x==y)=false
 jh:∀ x∈h.joint,(x==h.holder)=false
 ch:(h.company==h.holder)=false
 cn:(h.company==h.ah)=false
 cj:∀ x∈h.joint,(x==h.company)=false
 cap:0<=h.capital/\h.capital<=100
 vot:0<=h.bY/\h.bY<=100
 st:0<=h.start/\h.start<=100000
 en:h.stop = -1\/0<=h.stop/\h.stop<=100000/\h.start<h.stop
theorem Kc {h:aS} (hh:bC h=true):kX h:=by
 unfold bC CH.within at hh
 simp only [Aw,Dy,Fz,D7,Bl,G5,Js,Di,Md,Nat.not_lt] at hh
 obtain⟨⟨⟨⟨⟨⟨⟨⟨⟨a1,a2⟩,a3⟩,a4⟩,a5⟩,a6⟩,a7⟩,a8,a9⟩,⟨⟨b1,b2⟩,b3⟩,b4⟩,b5,b6⟩:=hh
 have hnt:=Xc (h.holder::h.joint) a9
 have hc:=b1
 rw [I8,Di] at hc
 have hne:∀ {x y:List UInt8},x≠y->(x==y)=false:=fun e=>by simpa using e
 exact {
  id:=a1
  company:=a2
  holder:=a3
  nom:=by
   rcases a4 with e|e
   ·exact .inl e
   ·refine .inr ⟨e,?_⟩
    rcases a7 with f|f
    ·have:=(Bn e).1
     simp only [bne_eq_false_iff_eq] at f
     rw [f] at this
     simp at this
    ·omega
  tY:=a5
  j4:=a6
  jn:=fun x hx=>Dk.1 a8 x hx
  jt:=fun j k x y hj hk hlt=>hnt (j+1) (k+1) x y (by simpa using hj) (by simpa using hk) oM
  jh:=fun x hx=>by
   obtain⟨j,hj⟩:=Fp.1 hx
   have:=hnt 0 (j+1) h.holder x rfl (by simpa using hj) oM
   simp only [Bo,ne_eq] at this ⊢
   exact fun e=>this e.symm
  ch:=hne fun e=>hc (by rw [e];simp)
  cn:=b2
  cj:=fun x hx=>hne fun e=>hc (by rw [<- e];exact Gp _ hx)
  cap:=b3
  vot:=b4
  st:=b5
  en:=by omega }
theorem I53 {h:aS} (H:kX h):bC h=true:=by
 have hnt:dX (h.holder::h.joint)=true:=Xb (fun j k x y hj hk hlt=>by
  cases j with
  |zero =>
   cases k with
   |zero=>omega
   |succ k =>cases hj;have:=H.jh y (Aq hk);simp only [Bo,ne_eq] at this ⊢;exact fun e=>this e.symm
  |succ j =>
   cases k with
   |zero=>omega
   |succ k=>exact H.jt j k x y hj hk oM)
 have hc:(h.holder::h.joint).contains h.company=false:=by
  rw [I8,Di,A8];rintro (e|e);·have:=H.ch;rw [e] at this;simp at this
  ·have:=H.cj _ e;simp at this
 have hw:∀ n m:Int,0<=n/\n<=m->CH.within n m=true:=fun n m e=>by unfold CH.within;rw [decide_eq_true e.1,decide_eq_true e.2];rfl
 unfold bC;rw [H.id,H.company,H.holder,hnt,hc,H.cn,hw _ _ H.cap,hw _ _ H.vot,hw _ _ H.st,Aj H.j4,Dk.2 H.jn];have e1:(h.ah==[]||CH.isName h.ah)=true:=by
  rcases H.nom with e|e;·rw [e];rfl
  ·rw [e.1,Bool.or_true]
 have e2:(h.aC==[]||CH.isName h.aC)=true:=by
  rcases H.tY with e|e;·rw [e];rfl
  ·rw [e,Bool.or_true]
 have e3:(h.ah != []&&ZH (0<h.joint.length))=false:=by
  rcases H.nom with e|e;·rw [e];rfl
  ·rw [e.2];simp
 have e4:(h.stop==-1||CH.within h.stop 100000&&ZH (h.stop > h.start))=true:=by
  rcases H.en with e|e;·rw [e];rfl
  ·rw [hw _ _ ⟨e.1,e.2.1⟩,Aj e.2.2,a_Bool_true_and,Bool.or_true]
 rw [e1,e2,e3,e4];rfl
end
section
open Go.Lib Go.Proofs.Tryz Go.RowKit Go.Shelf Go.Sort CH
attribute [local irreducible] wpQuiet
structure qV (h:aS):Prop where
 id:h.id.length<=4611686018427387904
 company:h.company.length<=4611686018427387904
 holder:h.holder.length<=4611686018427387904
 ah:h.ah.length<=4611686018427387904
 aC:h.aC.length<=4611686018427387904
 joint:∀ x∈h.joint,x.length<=4611686018427387904
theorem Qn (h:aS) (vj:ZC) (w:ZB) (hv:Strs w w vj h.joint) (hL:qV h) : ZE prog 241 #[.agg (A5 h vj).toArray] w (Ret w (.bool (bC h))):=by
 obtain⟨R,hR⟩:∃ R,bC h=R:=⟨_,rfl⟩
 rw [hR];have bad:Hid (¬ kX h->R=false):=Aa fun q=>by rw [<- hR,<- Gq];exact fun e=>q (Kc e)
 have good:Hid (kX h->R=true):=Aa fun H=>hR.symm.trans (I53 H);clear hR;have T1:=Aa fun (W:ZB)=>Hc h.id W hL.id;have T2:=Aa fun (W:ZB)=>Hc h.company W hL.company;have T3:=Aa fun (W:ZB)=>Hc h.holder W hL.holder;have T4:=Aa fun (W:ZB)=>Hc h.ah W hL.ah;have T5:=Aa fun (W:ZB)=>Hc h.aC W hL.aC;have TC:=Aa fun (W:ZB) (hb:Below w w W)=>Wj vj h.joint h.company W ((hv.below hb nR).mono hb.size);have TJ:=Aa fun (k:Nat) (x:List UInt8) (hx:h.joint[k]?=some x) (W:ZB)=>Hc x W (hL.joint x (Aq hx));have Y1:=Aa fun (W:ZB)=>Wn h.start W;have Y2:=Aa fun (W:ZB)=>Wn h.stop W;have hB0:=Aa fun o=>(Ac _ w).alloc nR o;clear hL;have HV:=Aa hv;obtain⟨a,cap,rfl,hl,hcap,hne⟩:=hv;replace hne:=Aa hne;obtain⟨N,hN⟩:∃ N,h.joint.length=N:=⟨_,rfl⟩
 rw [hN] at hl TC;dsimp only [A5,aA,aJ] at *;rw [hN];replace hN:=Aa hN;go_enter func241,ntmps241;go_wp2_with fail;have B:=hB0.out;generalize hWd:w.alloc _=W at *;have hBW:Below w w W:=by rw [<- hWd];exact B _
 have K:=Aa (Cv (C:=_) hWd);clear hWd hB0 B;refine (T1.out _).mono ?_;rintro e w1 ⟨rfl,hb⟩;have c:=K.out _ hb 1 _ rfl;cases hid:CH.isName h.id with
 |false =>
  obtain rfl:=bad.out fun H=>by rw [H.id] at hid;cases hid
  exact FD135
 |true =>
 go_wp2_with fail;refine (T2.out _).mono ?_;rintro e w2 ⟨rfl,hb2⟩;replace hb:=hb.trans (hb2.mono hb.size);clear c hb2;have c:=K.out _ hb 2 _ rfl;cases hco:CH.isName h.company with
 |false =>
  obtain rfl:=bad.out fun H=>by rw [H.company] at hco;cases hco
  exact FD135
 |true =>
 go_wp2_with fail;refine (T3.out _).mono ?_;rintro e w3 ⟨rfl,hb3⟩;replace hb:=hb.trans (hb3.mono hb.size);clear c hb3 T1 T2 T3;have k1:=K.out _ hb 1 _ rfl;have k2:=K.out _ hb 2 _ rfl;have k3:=K.out _ hb 3 _ rfl;have k4:=K.out _ hb 4 _ rfl;cases hho:CH.isName h.holder with
 |false =>
  obtain rfl:=bad.out fun H=>by rw [H.holder] at hho;cases hho
  exact FD135
 |true =>
 have hcl:=Kk (Bn hco).1;have xC:=I0 (Bn hco).1;have hno:h.ah=[]\/(h.ah.isEmpty=false/\((⟨h.ah.toArray⟩:ByteArray)==⟨#[]⟩)=false/\¬ h.ah=[]):=Ge _;rcases hno with n0|⟨x1,x2,x3⟩;rotate_left;focus
  go_wp2_with fail;refine (T4.out _).mono ?_;rintro e w4 ⟨rfl,hb4⟩;replace hb:=hb.trans (hb4.mono hb.size);clear k1 k2 k3 k4 hb4;have k1:=K.out _ hb 1 _ rfl;have k2:=K.out _ hb 2 _ rfl;have k3:=K.out _ hb 3 _ rfl;have k4:=K.out _ hb 4 _ rfl;cases hnn:CH.isName h.ah;focus
   obtain rfl:=bad.out fun H=>by
    rcases H.nom with e|e;·exact x3 e
    ·rw [e.1] at hnn;cases hnn
   go_wp2;go_ret;exact⟨rfl,hBW.trans (hb.mono hBW.size)⟩
  have hP:=Aa (show h.ah=[]\/CH.isName h.ah=true from .inr hnn);clear hnn
 rotate_left;focus rw [n0] at k3;have hP:=Aa (show h.ah=[]\/CH.isName h.ah=true from .inl n0)
 all_goals
  clear T4;rcases Ge h.aC with p0|⟨y1,y2,y3⟩;rotate_left;focus
   go_wp2_with fail;refine (T5.out _).mono ?_;rintro e w5 ⟨rfl,hb5⟩;replace hb:=hb.trans (hb5.mono hb.size);clear k1 k2 k3 k4 hb5;have k1:=K.out _ hb 1 _ rfl;have k2:=K.out _ hb 2 _ rfl;have k3:=K.out _ hb 3 _ rfl;have k4:=K.out _ hb 4 _ rfl;cases hpn:CH.isName h.aC;focus
    obtain rfl:=bad.out fun H=>by
     rcases H.tY with e|e;·exact y3 e
     ·rw [e] at hpn;cases hpn
    go_wp2;go_ret;exact⟨rfl,hBW.trans (hb.mono hBW.size)⟩
   have hP2:=Aa (show h.aC=[]\/CH.isName h.aC=true from .inr hpn);clear hpn y1 y2 y3;first|rw [n0] at k3|skip
  rotate_left;focus rw [p0] at k4;have hP2:=Aa (show h.aC=[]\/CH.isName h.aC=true from .inl p0)
 all_goals
  clear T5;have k5:=K.out _ hb 5 _ rfl;rcases (oM:4<N\/N=0\/(0<N/\N<=4)) with n5|rfl|⟨n1,n4⟩;focus
   obtain rfl:=bad.out fun H=>by have:=H.j4;rw [hN.out] at this;omega
   go_wp2;go_ret;exact⟨rfl,hBW.trans (hb.mono hBW.size)⟩
  rotate_left;focus
   have hN1:=hN.out;first
    |(have:=x3
      obtain rfl:=bad.out fun H=>by
       rcases H.nom with e|e
       ·exact x3 e
       ·omega
      go_wp2
      go_ret
      exact⟨rfl,hBW.trans (hb.mono hBW.size)⟩)
    |skip
  rotate_left
 all_goals
  cases hch:h.company==h.holder;rotate_left;focus
   obtain rfl:=bad.out fun H=>by rw [H.ch] at hch;cases hch
   have s0:=eq_of_beq hch;have s1:((⟨h.company.toArray⟩:ByteArray)==⟨h.holder.toArray⟩)=true:=by rw [Cy];exact hch
   go_wp2;go_ret;exact⟨rfl,hBW.trans (hb.mono hBW.size)⟩
  obtain⟨s1,s2,s3⟩:=Kj hch;cases hcn:h.company==h.ah with
  |true =>
   first
    |(have:=x3
      obtain rfl:=bad.out fun H=>by rw [H.cn] at hcn;cases hcn
      rw [eq_of_beq hcn] at k1 s1 s2 s3
      go_wp2
      go_ret
      exact⟨rfl,hBW.trans (hb.mono hBW.size)⟩)
    |(exfalso;rw [eq_of_beq hcn,n0] at xC;cases xC)
  |false =>
  obtain⟨s4,s5,s6⟩:=Kj hcn;go_wp2_with fail;refine (TC.out _ (hBW.trans (hb.mono hBW.size))).mono ?_;rintro e w6 ⟨rfl,hb6⟩;replace hb:=hb.trans (hb6.mono hb.size);clear k1 k2 k3 k4 k5 hb6 s1 s2 s3 s4 s5 s6 hcl xC;cases hcj:h.joint.contains h.company with
  |true =>
   obtain rfl:=bad.out fun H=>by have:=H.cj h.company (List.contains_iff_mem.1 hcj);simp at this
   go_wp2;go_ret;exact⟨rfl,hBW.trans (hb.mono hBW.size)⟩
  |false =>
  replace hb:=Aa hb;go_wp2_with fail;go_loopw [3] (fun iv wr=>∃ k:Nat,k<=h.joint.length/\iv=↑k/\Hid (Below W W wr)/\Hid (∀ (j:Nat) (x:List UInt8),j<k->h.joint[j]?=some x->CH.isName x=true/\(x==h.holder)=false/\(h.joint.take j).contains x=false)) (fun iv _=>h.joint.length - (ZG iv).toNat);case atStart=>exact⟨0,Bg _,rfl,hb,Aa fun j x hj=>absurd hj (Nat.not_lt_zero _)⟩
  case round =>
   obtain⟨k,hk,rfl,hB,hI⟩:=hrel;have c5:=K.out wr hB.out 5 _ rfl;have hBw:Below w w wr:=hBW.trans (hB.out.mono hBW.size);by_cases hlt:k<h.joint.length
   ·obtain⟨b,off,rfl,hbl,hcells⟩:=hne.out (by intro e;rw [e] at hlt;simp at hlt);obtain⟨x,hx⟩:∃ x,h.joint[k]?=some x:=⟨_,Ad hlt⟩
    have e1:=(hBw.cell (p:=⟨b,off+k,none⟩) hbl).trans (hcells k x hx);have c2:=K.out wr hB.out 2 _ rfl;obtain⟨bc,hbc⟩:∃ bc,(h.joint.take k).contains x=bc:=⟨_,rfl⟩
    have I:=Aa (TJ.out k x hx);have HH:=Aa fun (W':ZB) (hb':Below wr wr W')=>Wj (.slice (some ⟨b,off,none⟩) k cap) (h.joint.take k) x W' (((HV.out.take k oM).below (hBw.trans (hb'.mono hBw.size)) nR).mono (Af hBw.size hb'.size));rw [hbc] at HH;have hall:=Aa fun (q:CH.isName x=true/\(x==h.holder)=false/\bc=false) (j:Nat) (y:List UInt8) (hj:j<k+1) (hy:h.joint[j]?=some y)=>(show CH.isName y=true/\(y==h.holder)=false/\(h.joint.take j).contains y=false from by
     rcases Nat.lt_succ_iff_lt_or_eq.1 hj with e|e;·exact hI.out j y e hy
     ·subst e;rw [hx] at hy;cases hy;exact⟨q.1,q.2.1,hbc.trans q.2.2⟩)
    have hbad:=Aa fun (q:¬ (CH.isName x=true/\(x==h.holder)=false/\bc=false))=>bad.out fun H=>q ⟨H.jn x (Aq hx),H.jh x (Aq hx),by
     rw [<- hbc,<- Gq];intro e;obtain⟨j,hj⟩:=Fp.1 (List.contains_iff_mem.1 e);rw [List.getElem?_take] at hj;split at hj;·rename_i hjk;have:=H.jt j k x x hj hx hjk;simp at this
     ·cases hj⟩
    have g1:=@Ae _ _ _ e1;have g2:=@Ae _ _ _ c2;have g5:=@Ae _ _ _ c5;have hj:=hN.out;rw [hj] at hlt;have z0:(0:Int)<=(k:Int):=oM;have zk:((k:Int)).toNat=k:=oM;have hcl:k<=cap:=oM;clear hcells hx hbc hI;first
     |(exfalso;omega)
     |(
       have hk':(k:Int)<(N:Int):=oM
       replace hj:=Aa hj
       have hs:=@Kj x h.holder
       have ht:(x==h.holder)=true->((⟨x.toArray⟩:ByteArray)==⟨h.holder.toArray⟩)=true:=fun e=>by rw [Cy];exact e
       have ht2:(x==h.holder)=true->x=h.holder:=eq_of_beq
       generalize CH.isName x=bI at *
       generalize hq:(x==h.holder)=bq at *
       have hc:bI=false/\R=false\/(bI=true/\bq=true/\R=false)/\((⟨x.toArray⟩:ByteArray)==⟨h.holder.toArray⟩)=true/\x=h.holder \/
         (bI=true/\bq=false/\bc=true/\R=false)/\(((⟨x.toArray⟩:ByteArray)==⟨h.holder.toArray⟩)=false/\¬ x=h.holder/\¬ h.holder=x) \/
         (bI=true/\bq=false/\bc=false)/\(((⟨x.toArray⟩:ByteArray)==⟨h.holder.toArray⟩)=false/\¬ x=h.holder/\¬ h.holder=x):=by
        cases bI
        ·exact .inl ⟨rfl,hbad.out (by rintro⟨q,_⟩;cases q)⟩
        cases bq
        rotate_left
        ·exact .inr (.inl ⟨⟨rfl,rfl,hbad.out (by rintro⟨_,q,_⟩;cases q)⟩,ht rfl,ht2 rfl⟩)
        cases bc
        ·exact .inr (.inr (.inr ⟨⟨rfl,rfl,rfl⟩,hs rfl⟩))
        ·exact .inr (.inr (.inl ⟨⟨rfl,rfl,rfl,hbad.out (by rintro⟨_,_,q⟩;cases q)⟩,hs rfl⟩))
       clear hs ht ht2 hbad
       rcases hc with⟨rfl,rfl⟩|⟨⟨rfl,rfl,rfl⟩,s1,rfl⟩|⟨⟨rfl,rfl,rfl,rfl⟩,s1,s2,s3⟩|⟨⟨rfl,rfl,rfl⟩,s1,s2,s3⟩
       all_goals
        go_wp2_with fail
        refine Bc kR kR ?_
        repeat (quiet_step (first|(with_reducible exact Bd (I.out _))|(with_reducible exact Bd (HH.out _ (Dq _ _ _)))))
        refine Cm ?_
        intro wq hbq
        replace hbq:=As hbq
        clear g1 g2 g5 I HH
        have hB2:=Aa (hB.out.trans (hbq.mono hB.out.size))
        clear hbq e1 c2 c5 hB hBw
        first
         |(
           have hI2:=Aa (hall.out sM)
           clear hall
           go_wp2
           go_roundw
           case rel=>exact⟨k+1,by have:=hj.out;omega,by go_num,hB2,hI2⟩
           case measure=>have:=hj.out;simp [ZG];omega)
         |(
           go_wp2
           go_ret
           exact⟨rfl,hBW.trans (hB2.out.mono hBW.size)⟩))
   ·have hj:=hN.out;obtain rfl:k=h.joint.length:=oM;have sD:=Aa fun (g1:0<=h.capital/\h.capital<=100) (g2:0<=h.bY/\h.bY<=100) (g3:0<=h.start/\h.start<=100000) (g4:h.stop = -1\/0<=h.stop/\h.stop<=100000/\h.start<h.stop)=>(good.out ⟨hid,hco,hho,(by first|exact .inl n0|exact hP.out.imp (fun e=>e) (fun e=>⟨e,hj⟩)),hP2.out,oM,(fun x hx=>by
     obtain⟨j,hj⟩:=Fp.1 hx;exact (hI.out j x (lS hj) hj).1),(fun j k x y hj hk hlt=>by
     have:=(hI.out k y (lS hk) hk).2.2;rw [<- Gq,D7];rintro rfl;rw [<- Gq] at this;exact this (List.contains_iff_mem.2 (Fp.2 ⟨j,by rw [List.getElem?_take,Ar hlt];exact hj⟩))),(fun x hx=>by
     obtain⟨j,hj⟩:=Fp.1 hx;exact (hI.out j x (lS hj) hj).2.1),hch,hcn,(fun x hx=>by
     rw [<- Gq,D7];rintro rfl;rw [List.contains_iff_mem.2 hx] at hcj;cases hcj),g1,g2,g3,g4⟩:R=true).symm
    have hw:∀ n,CH.within n 100000=true->0<=n/\n<=100000:=fun n e=>by unfold CH.within at e;simpa using e
    have hw':∀ n,CH.within n 100000=false->¬ (0<=n/\n<=100000):=fun n e=>by unfold CH.within at e;simpa using e
    replace hw:=Aa hw;replace hw':=Aa hw';have c6:=K.out wr hB.out 6 _ rfl;have c7:=K.out wr hB.out 7 _ rfl;have c8:=K.out wr hB.out 8 _ rfl;rw [hj];clear hI hlt hBw hk;cases z1:ZH (0<=h.capital) with
    |false =>
     obtain rfl:=bad.out fun H=>by have:=H.cap;simp only [Di] at z1;omega
     go_wp2;go_ret;exact⟨rfl,hBW.trans (hB.out.mono hBW.size)⟩
    |true =>
    cases z2:ZH (h.capital<=100) with
    |false =>
     obtain rfl:=bad.out fun H=>by have:=H.cap;simp only [Di] at z2;omega
     go_wp2;go_ret;exact⟨rfl,hBW.trans (hB.out.mono hBW.size)⟩
    |true =>
    cases z3:ZH (0<=h.bY) with
    |false =>
     obtain rfl:=bad.out fun H=>by have:=H.vot;simp only [Di] at z3;omega
     go_wp2;go_ret;exact⟨rfl,hBW.trans (hB.out.mono hBW.size)⟩
    |true =>
    cases z4:ZH (h.bY<=100) with
    |false =>
     obtain rfl:=bad.out fun H=>by have:=H.vot;simp only [Di] at z4;omega
     go_wp2;go_ret;exact⟨rfl,hBW.trans (hB.out.mono hBW.size)⟩
    |true =>
    go_wp2_with fail;refine (Y1.out _).mono ?_;rintro e w7 ⟨rfl,hb7⟩;have hB7:=hB.out.trans (hb7.mono hB.out.size);clear c5 c6 c7 c8;have c8:=K.out w7 hB7 8 _ rfl;have c9:=K.out w7 hB7 9 _ rfl;cases y1:CH.within h.start 100000 with
    |false =>obtain rfl:=bad.out fun H=>hw'.out _ y1 H.st;go_wp2;go_ret;exact⟨rfl,hBW.trans (hB7.mono hBW.size)⟩
    |true =>
    replace sD:=Aa (sD.out ⟨Gw z1,Gw z2⟩ ⟨Gw z3,Gw z4⟩ (hw.out _ y1));rcases (oM:h.stop = -1\/¬ h.stop = -1) with e9|e9;·obtain rfl:=sD.out (.inl e9);rw [e9] at c9;go_wp2;go_ret;exact⟨rfl,hBW.trans (hB7.mono hBW.size)⟩
    ·have r1:(h.stop==-1)=false:=by simpa using e9
     go_wp2_with fail;refine (Y2.out _).mono ?_;rintro e w8 ⟨rfl,hb8⟩;have hB8:=hB7.trans (hb8.mono hB7.size);clear c8 c9;have c8:=K.out w8 hB8 8 _ rfl;have c9:=K.out w8 hB8 9 _ rfl;cases y2:CH.within h.stop 100000 with
     |false =>obtain rfl:=bad.out fun H=>H.en.elim e9 fun q=>hw'.out _ y2 ⟨q.1,q.2.1⟩;go_wp2;go_ret;exact⟨rfl,hBW.trans (hB8.mono hBW.size)⟩
     |true =>
     cases r2:ZH (h.start<h.stop) with
     |false =>obtain rfl:=bad.out fun H=>H.en.elim e9 fun q=>of_decide_eq_false r2 q.2.2;go_wp2;go_ret;exact⟨rfl,hBW.trans (hB8.mono hBW.size)⟩
     |true =>obtain rfl:=sD.out (.inr ⟨(hw.out _ y2).1,(hw.out _ y2).2,Gw r2⟩);go_wp2;go_ret;exact⟨rfl,hBW.trans (hB8.mono hBW.size)⟩
end
section
open Go.Lib Go.Proofs.Tryz Go.RowKit Go.Shelf Go.Sort CH
attribute [local irreducible] wpQuiet
theorem Ggv (h:aS) (vj:ZC) (w:ZB) (hv:Strs w w vj h.joint) (hen:h.stop = -1\/h.start<h.stop) : ZE prog 293 #[.agg (A5 h vj).toArray,↑h.start] w (Ret w (.bool true)):=by
 have hB0:=Aa fun o=>(Ac _ w).alloc nR o;obtain⟨_,_,rfl,_,_⟩:=hv.form;clear hv;generalize h.joint.length=n1 at *;dsimp only [A5,aA,aJ] at *;rcases hen with e|e;·rw [e];clear e;go_enter func293,ntmps293;exact FD116
 ·have q1:ZH (h.start<h.stop)=true:=Aj e;by_cases e1:h.stop = -1;·rw [e1];clear e e1 q1;go_enter func293,ntmps293;exact FD116
  ·have q2:(h.stop==-1)=false:=by simpa using e1
   clear e1;go_enter func293,ntmps293;exact FD116
theorem Ggu (h:aS) (vj:ZC) (g:Nat) (w:ZB) (hr:w.rangeAt g 0 (A5 h vj)) (hg:g<w.heap.size) (hv:Strs w w vj h.joint) (hen:h.stop = -1\/h.start<h.stop) (hc:0<=h.capital/\h.capital<=100) (hvo:0<=h.bY/\h.bY<=100) : ZE prog 244 #[.slice (some ⟨g,0,none⟩) 1 1] w (Ret w (.bool true)):=by
 have R:=Aa fun (W:ZB) (hb:Below w w W)=>Ggv h vj W ((hv.below hb nR).mono hb.size) hen;have HR:=Aa fun (W:ZB) (hb:Below w w W) (j:Nat) (u:ZC) (hj:(A5 h vj)[j]?=some u)=>(show W.cell? ⟨g,j,none⟩=some u from by have:=hr j u hj;rw [Bh] at this;exact (hb.cell (p:=⟨g,j,none⟩) hg).trans this)
 obtain⟨_,_,rfl,_,_⟩:=hv.form;clear hv hr;generalize h.joint.length=n1 at *;dsimp only [A5,aA,aJ] at *;go_enter func244,ntmps244;go_wp2_with fail;go_loopw [3] (fun iv wr=>(iv=.int .i64 0\/iv=.int .i64 1)/\Hid (Below w w wr)) (fun iv _=>1 - (ZG iv).toNat);case atStart=>exact⟨.inl rfl,Aa (Ac _ _)⟩
 case round =>
  obtain⟨rfl|rfl,hB⟩:=hrel
  ·go_wp2_with fail;go_loopw [4,5,6] (fun cv vv kv wr=>((kv=.int .i64 0/\cv=.int .i64 0/\vv=.int .i64 0)\/(kv=.int .i64 1/\cv=↑h.capital/\vv=↑h.bY))/\Hid (Below w w wr)) (fun _ _ kv _=>1 - (ZG kv).toNat);case atStart=>exact⟨.inl ⟨rfl,rfl,rfl⟩,hB⟩
   case round =>
    obtain⟨⟨rfl,rfl,rfl⟩|⟨rfl,rfl,rfl⟩,hB⟩:=hrel
    ·have x:=HR.out _ hB.out;have x0:=x 0 _ rfl;have x1:=x 1 _ rfl;have x2:=x 2 _ rfl;have x3:=x 3 _ rfl;have x4:=x 4 _ rfl;have x5:=x 5 _ rfl;have x6:=x 6 _ rfl;have x7:=x 7 _ rfl;have x8:=x 8 _ rfl;have x9:=x 9 _ rfl;have y0:=@Ae _ _ _ x0;have y1:=@Ae _ _ _ x1;have y2:=@Ae _ _ _ x2;have y3:=@Ae _ _ _ x3;have y4:=@Ae _ _ _ x4;have y5:=@Ae _ _ _ x5;have y6:=@Ae _ _ _ x6;have y7:=@Ae _ _ _ x7;have y8:=@Ae _ _ _ x8;have y9:=@Ae _ _ _ x9;have RR:=Aa fun (W':ZB) (hb':Below _ _ W')=>R.out W' (hB.out.trans (hb'.mono hB.out.size));have eqc:((⟨h.company.toArray⟩:ByteArray)==⟨h.company.toArray⟩)=true:=by rw [Cy];simp
     clear x;go_wp2_with fail;refine Bc kR kR ?_;repeat (quiet_step ((with_reducible exact Bd (RR.out _ (Dq _ _ _)))))
     refine Cm ?_;intro wq hbq;replace hbq:=As hbq;clear y0 y1 y2 y3 y4 y5 y6 y7 y8 y9 x0 x1 x2 x3 x4 x5 x6 x7 x8 x9 RR;have hB2:=Aa (hB.out.trans (hbq.mono hB.out.size));have x6:=HR.out _ hB2.out 6 _ rfl;have x7:=HR.out _ hB2.out 7 _ rfl;go_wp2;go_roundw;case rel=>exact⟨.inr ⟨by go_num,by go_num,by go_num⟩,hB2⟩
     case measure=>simp [ZG]
    ·have q1:ZH (100<h.capital)=false:=Ak oM;have q2:ZH (100<h.bY)=false:=Ak oM;go_wp2;go_roundw;case rel=>exact⟨.inr (by go_num),hB⟩
     case measure=>simp [ZG]
  ·exact FD129
end
end Go.Proofs.YtdgmgjeoikcgbaaGreatDoor
