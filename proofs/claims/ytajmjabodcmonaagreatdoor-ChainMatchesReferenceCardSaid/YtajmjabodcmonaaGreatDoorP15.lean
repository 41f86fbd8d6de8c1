/- Part 16. -/
import Derived.Test.YtajmjabodcmonaaGreatDoorP14
import Derived.Great.BuildSlice
set_option linter.all false
set_option maxHeartbeats 40000000
set_option maxRecDepth 100000
open Go renaming World -> ZB, Value -> ZC, Calls -> ZE, TypeId -> ZJ
open Go.RowKit renaming intOf -> ZG
open Decidable renaming decide -> ZH
namespace Go.Proofs.Y
section
open Go.Lib Go.Proofs.Tryz Go.RowKit Go.Shelf Go.Sort CH
attribute [local irreducible] wpQuiet
variable {w:ZB} {Q:Exit->Act->ZB->Prop} {ls:List Q00}
theorem Sw (w:ZB) (T:ZJ):∀ (cs pre z post:List ZC),z.length=cs.length->(w.alloc (.cells (pre++(z++post)).toArray T)).setCells w.heap.size pre.length cs=w.alloc (.cells (pre++(cs++post)).toArray T)
 |[],pre,z,post,h=>by
  have:z=[]:=Bo.1 (by simpa using h)
  subst this
  rfl
 |v::cs,pre,z,post,h=>by
  cases z with
  |nil=>simp at h
  |cons u z =>
   rw [World.setCells,Jy _ _ _ _ _ rfl]
   have e:((pre++(u::z++post)).toArray.setIfInBounds pre.length v)=((pre++[v])++(z++post)).toArray:=sM
   rw [e]
   have:=Sw w T cs (pre++[v]) z post (by simpa using h)
   rw [Ah,Di] at this
   rw [this]
   simp
theorem K8 {P:Program} {ops:Array Oper} {rest:List Oper} {op:Oper} {a:Act} {z:Array ZC} {T:ZJ} (g:Nat) (hg:w.heap.size=g) (hgd:op.guard=none) (ty:ZJ) (x y:Operand) (ho:op.op=.store ty x y) (cs:List ZC) (hx:a.eval x=.pointer (some ⟨g,0,none⟩)) (hy:a.eval y=.agg cs.toArray) (hz:z.size=cs.length) (hi:(P.info? ty).map (·.size)=some cs.length) (h1:∀ v∈cs,v.oneCell'=true) (h:wpList P ops Q rest (a.put op.dst undef) (w.alloc (.cells cs.toArray T))):wpList P ops Q (op::rest) a (w.alloc (.cells z T)):=by subst hg;exact Bw hgd ty x y ho cs hx hy hz hi h1 h
theorem M8 {P:Program} {ops:Array Oper} {rest:List Oper} {op:Oper} {a:Act} (hgd:op.guard=none) (ty:ZJ) (x y:Operand) (ho:op.op=.store ty x y) (b o:Nat) (v:ZC) (W':ZB) (hx:a.eval x=.pointer (some ⟨b,o,none⟩)) (hy:a.eval y=v) (h1:v.oneCell'=true) (ht:w.there b o 1) (hi:(P.info? ty).map (·.size)=some 1) (hW:w.setCell ⟨b,o,none⟩ v=W') (h:wpList P ops Q rest (a.put op.dst undef) W'):wpList P ops Q (op::rest) a w:=by
 subst hW hy;have hc:(a.eval y).cells=#[a.eval y]:=by generalize a.eval y=v at *;cases v <;> first|rfl|cases h1
 have hs:=run_storeCells_cells (P:=P) b o [a.eval y] 0 w (fun j hj=>by simp at hj;subst hj;simpa using (ht 0 oM).1) (fun j hj=>by simp at hj;subst hj;simpa using (ht 0 oM).2) (fun v hv=>by simp at hv;subst hv;exact h1);refine wpList_plain hgd fun _ hK=>?_;unfold Oper.wp execOp;cases hq:P.info? ty with
 |none=>simp [hq] at hi
 |some i =>
  have hsz:i.size=1:=by simpa [hq] using hi
  simp only [Ia,World.setCells] at hs;have hst:(storeVar ty ⟨b,o,none⟩ (a.eval y)).run P w=.ok () (w.setCell ⟨b,o,none⟩ (a.eval y)):=by simp [storeVar,sizeOf,typeInfo,hq,hc,hsz,hs]
  simp only [ho,hx,Instr.storeAt,Instr.sureAddr,Js,Kv,Io,hst];exact hK _ _ h
theorem V8 {l m r:List ZC} {o:Nat} (ho:l.length=o) (j:Nat) (u:ZC) (h:m[j]?=some u):(l++(m++r))[o+j]?=some u:=by subst ho;rw [Em oM,Ho,Eu (lS h)];exact h
def oU:eG:=⟨.slice none 0 0,.slice none 0 0,.slice none 0 0,.slice none 0 0,.slice none 0 0⟩
theorem Col (B:Nat) (w:ZB) (k:Int) (id:Q00) (n:Int):dA B w ⟨k,zC,zM,zL,zH,id,n⟩ oU:=⟨Ud B w,F10 B w,Ln B w,Ln B w,Ln B w⟩
def only (a:Q02):Q02:=⟨a.kind,if a.kind=1 then a.change else zC,if a.kind=2 then a.measure else zM,if a.kind=4 then a.licence else zL,if a.kind=6 then a.holding else zH,if a.kind=3\/a.kind=5\/a.kind=7 then a.id else [],if a.kind=3\/a.kind=5\/a.kind=7 then a.n else 0⟩
def qy (k:Int) (s:eG):eG:=⟨if k=1 then s.vn else .slice none 0 0,if k=2 then s.vk else .slice none 0 0,if k=4 then s.vm else .slice none 0 0,if k=4 then s.vp else .slice none 0 0,if k=6 then s.vj else .slice none 0 0⟩
theorem I33 (a:Q02) (s:eG) (w:ZB) (h:dA w w a s) (hk:1<=a.kind/\a.kind<=7) (W:ZB) (hb:Below w w W) : ZE prog 77 #[.agg (As a s).toArray,.agg (As (only a) (qy a.kind s)).toArray] W (Ret W (.bool (CH.unused a))):=by
 have hW:=(h.below hb nR).mono hb.size;have hR:∀ (W':ZB),Below W W W'->dA W' W' a s:=fun W' hb'=>(hW.below hb' nR).mono hb'.size;have:=Xh a (only a) s (qy a.kind s) W (a.kind==1||!dJ a.change) (a.kind==2||bM a.measure) (a.kind==4||!dB a.licence) (a.kind==6||!dD a.holding) rfl
  (fun W' hb'=>by
   unfold only qy
   dsimp only
   by_cases e:a.kind=1
   ·rw [Au e,Au e,e]
    exact Ng a.change s.vn s.vn W' (hR W' hb').names (hR W' hb').names
   ·rw [Ai e,Ai e,show (a.kind==1)=false by simpa using e]
    cases hd:dJ a.change with
    |true=>exact Zn a.change s.vn W' (hR W' hb').names hd
    |false =>
     have hz:=qX hd
     have hr:=(hR W' hb').names
     rw [hz] at hr ⊢
     exact Ng zC s.vn _ W' hr (Ud _ _))
  (fun W' hb'=>by
   unfold only qy
   dsimp only
   by_cases e:a.kind=2
   ·rw [Au e,Au e,e]
    exact Mq a.measure s.vk s.vk W' (hR W' hb').kids (hR W' hb').kids
   ·rw [Ai e,Ai e,show (a.kind==2)=false by simpa using e]
    cases hd:bM a.measure with
    |false=>exact Xf a.measure s.vk W' (hR W' hb').kids hd
    |true =>
     have hz:=qE hd
     have hr:=(hR W' hb').kids
     rw [hz] at hr ⊢
     exact Mq zM s.vk _ W' hr (F10 _ _))
  (fun W' hb'=>by
   unfold only qy
   dsimp only
   by_cases e:a.kind=4
   ·rw [Au e,Au e,Au e,e]
    exact Mr a.licence s.vm s.vp s.vm s.vp W' (hR W' hb').lm (hR W' hb').lp (hR W' hb').lm (hR W' hb').lp
   ·rw [Ai e,Ai e,Ai e,show (a.kind==4)=false by simpa using e]
    cases hd:dB a.licence with
    |true=>exact Xg a.licence s.vm s.vp W' (hR W' hb').lm (hR W' hb').lp hd
    |false =>
     have hz:=qm hd
     have hr:=(hR W' hb').lm
     have hr2:=(hR W' hb').lp
     rw [hz] at hr hr2 ⊢
     exact Mr zL s.vm s.vp _ _ W' hr hr2 (Ln _ _) (Ln _ _))
  (fun W' hb'=>by
   unfold only qy
   dsimp only
   by_cases e:a.kind=6
   ·rw [Au e,Au e,e]
    exact R7 a.holding s.vj s.vj W' (hR W' hb').hj (hR W' hb').hj
   ·rw [Ai e,Ai e,show (a.kind==6)=false by simpa using e]
    cases hd:dD a.holding with
    |true=>exact Er8 a.holding s.vj W' (hR W' hb').hj hd
    |false =>
     have hz:=qo hd
     have hr:=(hR W' hb').hj
     rw [hz] at hr ⊢
     exact R7 zH s.vj _ W' hr (Ln _ _))
 have e:((a.kind==1||!dJ a.change)&&((a.kind==2||bM a.measure)&&((a.kind==4||!dB a.licence)&&((a.kind==6||!dD a.holding)&&(a.id==(only a).id&&a.n==(only a).n)))))=CH.unused a:=by clear this hR hW h;obtain⟨k,ch,me,li,ho,id,n⟩:=a;unfold CH.unused only;dsimp only at *;generalize dJ ch=d1;generalize bM me=d2;generalize dB li=d3;generalize dD ho=d4;rcases (oM:k=1\/k=2\/k=3\/k=4\/k=5\/k=6\/k=7) with rfl|rfl|rfl|rfl|rfl|rfl|rfl;all_goals cases d1 <;> cases d2 <;> cases d3 <;> cases d4 <;> simp [bne]
 rwa [e] at this
theorem Ml (k:Int) (o:Nat) (T:ZJ) (C C' C1 Z:List ZC) (w:ZB) (R:Bool) (hk:k=1/\o=1/\T=64\/k=2/\o=6/\T=69\/k=4/\o=18/\T=71\/k=6/\o=25/\T=59) (hd:∃ d,prog.underlying T=some d/\d.isRow=true) (hZ:As ⟨k,zC,zM,zL,zH,[],0⟩ oU=Z) (i1:(prog.info? T).map (·.size)=some C1.length) (hC:C.length=37) (hC':C'.length=37) (h0:C[0]?=some (.int .i64 k)) (hp:∀ j u,C1[j]?=some u->C[o+j]?=some u) (hone:∀ v∈C1,v.oneCell'=true) (hs:Z.take o++(C1++Z.drop (o+C1.length))=C') (ho:o+C1.length<=37) (S:∀ (W:ZB),Below w.heap.size w W->ZE prog 77 #[.agg C.toArray,.agg C'.toArray] W (Ret W (.bool R))) : ZE prog 131 #[.agg C.toArray] w (Ret w (.bool R)):=by
 replace S:=Aa S;obtain⟨d,hu,hd⟩:=hd;have i37:(prog.info? 73).map (·.size)=some 37:=kR;have iA:(prog.info? 73).map (·.size)=some C.length:=by rw [hC];exact i37
 have iB:(prog.info? 73).map (·.size)=some C'.length:=by rw [hC'];exact i37
 have hlz:Z.length=37:=by rw [<- hZ];rfl
 have iZ:(prog.info? 73).map (·.size)=some Z.length:=by rw [hlz];exact i37
 have hbu:k=1\/k=2\/k=4\/k=6->prog.built 73 [(0,.int .i64 k)]=some Z.toArray:=by rw [<- hZ];rintro (rfl|rfl|rfl|rfl);all_goals kernel_rfl
 replace hbu:=hbu oM;have h1Z:∀ v∈Z,v.oneCell'=true:=by rw [<- hZ];exact Ek (Col w.heap.size w k [] 0)
 have hz3:(Z.take o).length=o:=by rw [C9];omega
 have hz4:Z.take o++((Z.drop o).take C1.length++Z.drop (o+C1.length))=Z:=by rw [<- List.drop_drop,D8,D8]
 have yV:((w.alloc (.cells C.toArray 73)).alloc (.cells Z.toArray 73)).setCells (w.heap.size+1) o C1=(w.alloc (.cells C.toArray 73)).alloc (.cells C'.toArray 73):=by have:=Sw (w.alloc (.cells C.toArray 73)) 73 C1 (Z.take o) ((Z.drop o).take C1.length) (Z.drop (o+C1.length)) (by rw [C9,Ei];omega);rwa [hz4,hz3,hs,Dt] at this
 have hth:((w.alloc (.cells C.toArray 73)).alloc (.cells Z.toArray 73)).there (w.heap.size+1) o C1.toArray.size:=fun j hj=>by
  have hl:=Aw (w.alloc (.cells C.toArray 73)) (.cells Z.toArray 73);rw [Dt] at hl;have hj2:j<C1.length:=by simpa using hj
  refine⟨?_,Bb hl _⟩;rw [Ab hl,Hy,Ad oM];rfl
 replace yV:=Aa yV;replace hth:=Aa hth;have hr0:=Aa (Bp w C 73);have k0:=hr0.out 0 _ h0;have r0:Hid ((w.alloc (.cells C.toArray 73)).rangeAt w.heap.size (0+o) C1):=Aa fun j u hj=>by have:=hr0.out (o+j) u (hp j u hj);rwa [<- La] at this
 have r1:=Aa (M4 r0.out (.cells Z.toArray 73));have k0':=(((Ac _ _).alloc nR (.cells Z.toArray 73)).cell (p:=⟨w.heap.size,0,none⟩) sM).trans k0;have hra:=Aa (M4 hr0.out (.cells C'.toArray 73));have hrb:Hid (((w.alloc (.cells C.toArray 73)).alloc (.cells C'.toArray 73)).rangeAt (w.heap.size+1) 0 C'):=Aa (by have:=Bp (w.alloc (.cells C.toArray 73)) C' 73;rwa [Dt] at this);have hB2:=Aa (((Ac _ w).alloc nR (.cells C.toArray 73)).alloc sM (.cells C'.toArray 73));dsimp only [As,A5,Av,Br,Ax,aA,aJ,zC,zM,zL,zH,oU,CH.Formula.op,CH.Formula.name,CH.Formula.cmp,CH.Formula.n,List.cons_append,List.nil_append] at hZ;have hlit:=congrArg List.toArray hZ;replace hlz:=Aa hlz;clear hZ r0 hz3 hz4 hs ho hp h0 hC hC' i37;rcases hk with⟨rfl,rfl,rfl⟩|⟨rfl,rfl,rfl⟩|⟨rfl,rfl,rfl⟩|⟨rfl,rfl,rfl⟩;all_goals
  go_enter func131,ntmps131;go_wp2_with (first|refine wpList_buildTo rfl 73 _ rfl _ rfl Z.toArray hbu ?_|refine K8 (w.heap.size+1) sM rfl 73 _ _ rfl Z rfl rfl (by rw [hlz.out];rfl) iZ h1Z ?_|refine Bd rfl _ _ rfl w.heap.size _ rfl C1 d r1.out hu hd i1 ?_|refine Ih rfl _ _ _ rfl (w.heap.size+1) _ C1.toArray rfl rfl hth.out (by simpa using i1) (Gh hone) ?_;rw [yV.out]|refine Bd rfl 73 _ rfl w.heap.size 0 rfl C _ hra.out underlying73 rfl iA ?_|refine Bd rfl 73 _ rfl (w.heap.size+1) 0 rfl C' _ hrb.out underlying73 rfl iB ?_)
  refine CmZ (S.out _ hB2.out) fun w1 hb1=>?_;go_wp2;go_ret;exact⟨rfl,hB2.out.trans (hb1.mono hB2.out.size)⟩
theorem Sc (k:Int) (C C' Z:List ZC) (id:Q00) (n:Int) (w:ZB) (R:Bool) (hk:k=3\/k=5\/k=7) (hZ:As ⟨k,zC,zM,zL,zH,[],0⟩ oU=Z) (hC:C.length=37) (h0:C[0]?=some (.int .i64 k)) (h35:C[35]?=some (.string ⟨id.toArray⟩)) (h36:C[36]?=some (.int .i64 n)) (hset':(Z.set 35 (.string ⟨id.toArray⟩)).set 36 (.int .i64 n)=C') (S:∀ (W:ZB),Below w.heap.size w W->ZE prog 77 #[.agg C.toArray,.agg C'.toArray] W (Ret W (.bool R))) : ZE prog 131 #[.agg C.toArray] w (Ret w (.bool R)):=by
 replace S:=Aa S;have i37:(prog.info? 73).map (·.size)=some 37:=kR;have hlz:Z.length=37:=by rw [<- hZ];rfl
 have hC':C'.length=37:=by rw [<- hset',Nk,Nk,hlz]
 have iA:(prog.info? 73).map (·.size)=some C.length:=by rw [hC];exact i37
 have iB:(prog.info? 73).map (·.size)=some C'.length:=by rw [hC'];exact i37
 have iZ:(prog.info? 73).map (·.size)=some Z.length:=by rw [hlz];exact i37
 have h1Z:∀ v∈Z,v.oneCell'=true:=by rw [<- hZ];exact Ek (Col w.heap.size w k [] 0)
 have hr0:=Aa (Bp w C 73);have k0:=hr0.out 0 _ h0;have k35:=hr0.out 35 _ h35;have k36:=hr0.out 36 _ h36;rw [Bf] at k35 k36;have hra:=Aa (M4 hr0.out (.cells C'.toArray 73));have hrb:Hid (((w.alloc (.cells C.toArray 73)).alloc (.cells C'.toArray 73)).rangeAt (w.heap.size+1) 0 C'):=Aa (by have:=Bp (w.alloc (.cells C.toArray 73)) C' 73;rwa [Dt] at this);have hB2:=Aa (((Ac _ w).alloc nR (.cells C.toArray 73)).alloc sM (.cells C'.toArray 73));have kk:=fun (D:Array ZC) (i:Nat)=>((Ac _ (w.alloc (.cells C.toArray 73))).alloc nR (.cells D 73)).cell (p:=⟨w.heap.size,i,none⟩) sM;obtain⟨D,hD⟩:∃ D,Hid (Z.set 35 (.string ⟨id.toArray⟩)=D):=⟨_,Aa rfl⟩
 have hbk:=fun (D:List ZC)=>(show ((w.alloc (.cells C.toArray 73)).alloc (.cells D.toArray 73)).heap[w.heap.size+1]?=some (.cells D.toArray 73 (0,0)) from by have:=Aw (w.alloc (.cells C.toArray 73)) (.cells D.toArray 73);rwa [Dt] at this)
 have hth:=fun (D:List ZC) (o:Nat) (ho:o<D.length)=>(show ((w.alloc (.cells C.toArray 73)).alloc (.cells D.toArray 73)).there (w.heap.size+1) o 1 from fun j hj=>by obtain rfl:j=0:=oM;refine⟨?_,Bb (hbk D) _⟩;rw [Ab (hbk D),Ia,Hy,Ad ho];rfl)
 have JH:=Aa (hth Z 35 (by rw [hlz];omega));have JG:=Aa (hth D 36 (by rw [<- hD.out,Nk,hlz];omega));have hw1:Hid (((w.alloc (.cells C.toArray 73)).alloc (.cells Z.toArray 73)).setCell ⟨w.heap.size+1,35,none⟩ (.string ⟨id.toArray⟩)=(w.alloc (.cells C.toArray 73)).alloc (.cells D.toArray 73)):=Aa (by rw [Jy _ _ _ _ _ sM,List.setIfInBounds_toArray,hD.out]);have hw2:Hid (((w.alloc (.cells C.toArray 73)).alloc (.cells D.toArray 73)).setCell ⟨w.heap.size+1,36,none⟩ (.int .i64 n)=(w.alloc (.cells C.toArray 73)).alloc (.cells C'.toArray 73)):=Aa (by rw [Jy _ _ _ _ _ sM,List.setIfInBounds_toArray,<- hD.out,hset']);have is:(prog.info? 9).map (·.size)=some 1:=kR;have ii:(prog.info? 3).map (·.size)=some 1:=kR;have m0:=(kk Z.toArray 0).trans k0;have m35:=(kk Z.toArray 35).trans k35;have m36:=(kk D.toArray 36).trans k36;dsimp only [As,A5,Av,Br,Ax,aA,aJ,zC,zM,zL,zH,oU,CH.Formula.op,CH.Formula.name,CH.Formula.cmp,CH.Formula.n,List.cons_append,List.nil_append] at hZ;have hlit:=congrArg List.toArray hZ;replace hlz:=Aa hlz;clear hset' hbk hth kk k35 k36 hZ hC hC' i37 h0 h35 h36;rcases hk with rfl|rfl|rfl;all_goals
  go_enter func131,ntmps131;go_wp2_with (first|refine K8 (w.heap.size+1) sM rfl 73 _ _ rfl Z rfl rfl (by rw [hlz.out];rfl) iZ h1Z ?_|refine M8 rfl 9 _ _ rfl (w.heap.size+1) 35 (.string ⟨id.toArray⟩) _ rfl rfl rfl JH.out is hw1.out ?_|refine M8 rfl 3 _ _ rfl (w.heap.size+1) 36 (.int .i64 n) _ rfl rfl rfl JG.out ii hw2.out ?_|refine Bd rfl 73 _ rfl w.heap.size 0 rfl C _ hra.out underlying73 rfl iA ?_|refine Bd rfl 73 _ rfl (w.heap.size+1) 0 rfl C' _ hrb.out underlying73 rfl iB ?_)
  refine CmZ (S.out _ hB2.out) fun w1 hb1=>?_;go_wp2;go_ret;exact⟨rfl,hB2.out.trans (hb1.mono hB2.out.size)⟩
theorem Abo (k:Int) (C Z:List ZC) (w:ZB) (hk:¬ (1<=k/\k<=7)) (hZ:As ⟨k,zC,zM,zL,zH,[],0⟩ oU=Z) (hC:C.length=37) (h0:C[0]?=some (.int .i64 k)) : ZE prog 131 #[.agg C.toArray] w (Ret w (.bool false)):=by
 have i37:(prog.info? 73).map (·.size)=some 37:=kR;have hlz:Z.length=37:=by rw [<- hZ];rfl
 have iZ:(prog.info? 73).map (·.size)=some Z.length:=by rw [hlz];exact i37
 have h1Z:∀ v∈Z,v.oneCell'=true:=by rw [<- hZ];exact Ek (Col w.heap.size w k [] 0)
 have k0:=Bp w C 73 0 _ h0;have hB2:=Aa fun o=>((Ac _ w).alloc nR (.cells C.toArray 73)).alloc sM o;have m0:=(((Ac _ (w.alloc (.cells C.toArray 73))).alloc nR (.cells Z.toArray 73)).cell (p:=⟨w.heap.size,0,none⟩) sM).trans k0;dsimp only [As,A5,Av,Br,Ax,aA,aJ,zC,zM,zL,zH,oU,CH.Formula.op,CH.Formula.name,CH.Formula.cmp,CH.Formula.n,List.cons_append,List.nil_append] at hZ;have hlit:=congrArg List.toArray hZ;have n1:(k==1)=false/\¬ k=1:=⟨by simp;omega,oM⟩
 have n2:(k==2)=false/\¬ k=2:=⟨by simp;omega,oM⟩
 have n3:(k==3)=false/\¬ k=3:=⟨by simp;omega,oM⟩
 have n4:(k==4)=false/\¬ k=4:=⟨by simp;omega,oM⟩
 have n5:(k==5)=false/\¬ k=5:=⟨by simp;omega,oM⟩
 have n6:(k==6)=false/\¬ k=6:=⟨by simp;omega,oM⟩
 have n7:(k==7)=false/\¬ k=7:=⟨by simp;omega,oM⟩
 obtain⟨n1,m1⟩:=n1;obtain⟨n2,m2⟩:=n2;obtain⟨n3,m3⟩:=n3;obtain⟨n4,m4⟩:=n4;obtain⟨n5,m5⟩:=n5;obtain⟨n6,m6⟩:=n6;obtain⟨n7,m7⟩:=n7;replace hlz:=Aa hlz;clear hZ hC h0 i37 hk;go_enter func131,ntmps131;go_wp2_with (refine K8 (w.heap.size+1) sM rfl 73 _ _ rfl Z rfl rfl (by rw [hlz.out];rfl) iZ h1Z ?_)
 go_ret;exact⟨rfl,hB2.out _⟩
theorem Q9 (a:Q02) (s:eG) (w:ZB) (h:dA w.heap.size w a s) : ZE prog 131 #[.agg (As a s).toArray] w (Ret w (.bool (ZH (1<=a.kind/\a.kind<=7)&&CH.unused a))):=by
 by_cases hk:1<=a.kind/\a.kind<=7
 ·rw [Am hk,a_Bool_true_and];have S:=I33 a s w h hk;have hone:∀ v∈As a s,v.oneCell'=true:=Ek h;obtain⟨k,ch,me,li,ho,id,n⟩:=a;dsimp only at hk;rcases (oM:k=1\/k=2\/k=3\/k=4\/k=5\/k=6\/k=7) with rfl|rfl|rfl|rfl|rfl|rfl|rfl;·exact Ml 1 1 64 _ _ (A5 ch s.vn) _ w _ (.inl ⟨rfl,rfl,rfl⟩) ⟨_,underlying64,rfl⟩ rfl kR rfl rfl rfl (fun j u hj=>V8 (l:=[aJ 1]) rfl j u hj) (fun v hv=>hone v (Gm _ (Ju _ hv))) rfl (by show 1+5<=37;omega) S
  ·exact Ml 2 6 69 _ _ (Av me s.vk) _ w _ (.inr (.inl ⟨rfl,rfl,rfl⟩)) ⟨_,underlying69,rfl⟩ rfl kR rfl rfl rfl (fun j u hj=>V8 (l:=aJ 2::A5 ch s.vn) rfl j u hj) (fun v hv=>hone v (Gm _ (Ja _ (Ju _ hv)))) rfl (by show 6+12<=37;omega) S
  ·exact Sc 3 _ _ _ id n w _ (.inl rfl) rfl rfl rfl rfl rfl rfl S
  ·exact Ml 4 18 71 _ _ (Br li s.vm s.vp) _ w _ (.inr (.inr (.inl ⟨rfl,rfl,rfl⟩))) ⟨_,underlying71,rfl⟩ rfl kR rfl rfl rfl (fun j u hj=>V8 (l:=aJ 4::(A5 ch s.vn++Av me s.vk)) rfl j u hj) (fun v hv=>hone v (Gm _ (Ja _ (Ja _ (Ju _ hv))))) rfl (by show 18+7<=37;omega) S
  ·exact Sc 5 _ _ _ id n w _ (.inr (.inl rfl)) rfl rfl rfl rfl rfl rfl S
  ·exact Ml 6 25 59 _ _ (Ax ho s.vj) _ w _ (.inr (.inr (.inr ⟨rfl,rfl,rfl⟩))) ⟨_,underlying59,rfl⟩ rfl kR rfl rfl rfl (fun j u hj=>V8 (l:=aJ 6::(A5 ch s.vn++(Av me s.vk++Br li s.vm s.vp))) rfl j u hj) (fun v hv=>hone v (Gm _ (Ja _ (Ja _ (Ja _ (Ju _ hv)))))) rfl (by show 25+10<=37;omega) S
  ·exact Sc 7 _ _ _ id n w _ (.inr (.inr rfl)) rfl rfl rfl rfl rfl rfl S
 ·rw [Ak hk,Gi];exact Abo a.kind _ _ w hk rfl rfl rfl
theorem C8 (a:Q02) (s:eG) (w:ZB) (h:dA w w a s) (hu:CH.unused a=true) (hk:1<=a.kind/\a.kind<=7) : ZE prog 131 #[.agg (As a s).toArray] w (Ret w (.bool true)):=by have:=Q9 a s w h;rwa [Am hk,hu] at this
def I39 (w:ZB) (n:Nat) (e:Ending) (w':ZB):Prop:=∃ v ls,e=.returned v/\At 0 w' v ls/\ls.length<=n/\Below w w w'
theorem At.low {base base':Nat} {v:ZC} (h:At base w v ls) (hb:base'<=base):At base' w v ls:=by
 obtain⟨hlen,h|⟨g,cap,cur,hv,hg,h⟩⟩:=h;·exact⟨hlen,.inl h⟩
 ·exact⟨hlen,.inr ⟨g,cap,cur,hv,Af hb hg,h⟩⟩
theorem Wo {g:Nat} {s:Q00} {T:ZJ} (h:w.heap[g]?=some (.cells #[↑s] T (0,0))):∃ B,Strs B w (.slice (some ⟨g,0,none⟩) 1 1) [s]:=by
 refine⟨g+1,some ⟨g,0,none⟩,1,rfl,Bg _,oM,fun _=>⟨g,0,rfl,Fj _,fun j l hj=>?_⟩⟩;cases j with
 |zero =>simp only [Fv,Fe] at hj;subst hj;exact (Ab h 0).trans rfl
 |succ j=>simp at hj
theorem At.two {base:Nat} {v:ZC} (h:At base w v ls):v=.slice none 0 0/\ls=[]\/∃ g cap,v=.slice (some ⟨g,0,none⟩) ls.length cap/\ls.length<=cap/\cap<=9223372036854775807:=by
 obtain⟨hlen,⟨rfl,h0⟩|⟨g,cap,cur,rfl,hb,hg,hn,hc,hsz,htk⟩⟩:=h;·exact .inl ⟨rfl,Bo.1 h0⟩
 ·exact .inr ⟨g,cap,rfl,hn,by unfold maxLen at hc;omega⟩
theorem Ck {o:Oper} {a:Act} {K:Act->ZB->Prop} (s x:Operand) (ho:o.op=.call { callee:=.builtin .append,args:=#[s,x],argTypes:=#[22,22] }) (base:Nat) (v:ZC) (ls:List Q00) (hs:a.eval s=v) (hown:At base w v ls) (B:Nat) (vx:ZC) (lx:List Q00) (hx:a.eval x=vx) (hX:Strs B w vx lx) (hlen:ls.length+lx.length<=1000000) (hbase:base<=w.heap.size) (h:∀ v' w',At base w' v' (ls++lx)->w.grownBy w' v.ownBlock->K (a.put o.dst v') w'):o.wp prog a w K Q:=by
 obtain⟨i,hi,hz0,hz1,hz2⟩:=H8 Qq;rcases hX.source with⟨ad,c,rfl,hnews⟩|⟨c,rfl,hm,hnil⟩
 ·refine wp_append_own w s x 22 ho base 9 i _ 1 16 underlying22 hi hz0 hz1 hz2 rfl dC v ls.length _ hs hown ad lx.length c (lx.map aA) hx sM hnews ?_ ?_ ?_ hbase ?_;·intro u hu;obtain⟨l,_,rfl⟩:=Dz.1 hu;rfl
  ·exact FD145
  ·omega
  ·intro v' w' h1 h2 _;exact h v' w' (by unfold At;simpa using h1) h2
 ·have hl0:lx=[]:=Bo.1 hm;subst hl0;obtain⟨av,cv,rfl,hcv,_,_⟩:=hown.form;have hr:=Ni (P:=prog) w 22 o.type 9 i underlying22 hi av ls.length cv c hcv;unfold Oper.wp execOp;simp only [ho,resolve,invoke,builtin,Js,Kv,Io,List.map_toArray,Fa,Iq,hs,hx,hr,Bj];exact h _ _ (by simpa using hown) (World.grownBy.refl _ _)
theorem Htw (v:ZC) (ls:List Q00) (s:Q00) (w:ZB) (hv:At 0 w v ls) (hn:ls.length<=1000) : ZE prog 270 #[v,↑s] w (I39 w (ls.length+1)):=by
 have hB0:Below w w w.drew:=(Ac _ w).drew;have hv0:=Aa hv;rcases hv.two with⟨rfl,rfl⟩|⟨g,cap,rfl,hl,hcap⟩
 ·clear hv hn;obtain⟨LA,hLA⟩:∃ LA,Hid (([]:List Q00)=LA):=⟨_,Aa rfl⟩
  obtain⟨LB,hLB⟩:∃ LB,Hid (([]:List Q00)=LB):=⟨_,Aa rfl⟩
  go_enter func270,ntmps270;go_wp2_with fail;go_loopw [5] (fun i wr=>i=.int .i64 0/\wr=w) (fun i _=>0);case atStart=>exact⟨rfl,rfl⟩
  case round =>
   obtain⟨rfl,rfl⟩:=hrel;have hA:Hid (∀ W',Below wr wr W'->Strs wr W' (.slice none 0 0) LA):=Aa fun W' _=>by rw [<- hLA.out];exact⟨none,0,rfl,Bg _,oM,fun h=>absurd rfl h⟩
   have hD:Hid (∀ W',Below wr wr W'->Strs wr W' (.slice none 0 0) LB):=Aa fun W' _=>by rw [<- hLB.out];exact⟨none,0,rfl,Bg _,oM,fun h=>absurd rfl h⟩
   have hLn:Hid (LA.length+1+LB.length<=0+1):=Aa (by rw [<- hLA.out,<- hLB.out];simp);go_wp2_with fail;refine Ed (S:=fun W'=>Below wr wr W') kR hB0 fun kz=>?_;refine tj 1 ?_;push_cast;refine tj 2 ?_;push_cast;refine tj 3 ?_;push_cast;refine tj 5 ?_;push_cast;refine tj 8 ?_;push_cast;refine tj 9 ?_;push_cast;refine tj 10 ?_;push_cast;refine Ew (rs:=[0,6]) kR sM ?_;refine Cc (o:=_) rfl (fun K hK=>?_) ?_;focus
    go_simp;have hB1:Below wr wr (wr.alloc (.cells #[] 9)).drew:=((Ac _ wr).alloc nR _).drew;have hO1:At wr (wr.alloc (.cells #[] 9)).drew (.slice (some ⟨wr,0,none⟩) 0 0) []:=(Fu wr [] sM).below (Ac _ _).drew;have hg1:wr.heap.size<(wr.alloc (.cells #[] 9)).drew.heap.size:=by show _<(wr.alloc (.cells #[] 9)).heap.size;simp
    refine hK.out _ _ hB1 fun kz=>?_;clear hK;generalize (wr.alloc (.cells #[] 9)).drew=W1 at *;push_cast;refine Ew (rs:=[4,6]) kR sM ?_;refine Cc (o:=_) rfl (fun K hK=>?_) ?_;focus rw [Au rF];refine Ck _ _ rfl wr _ [] rfl hO1 wr _ LA rfl (hA.out W1 hB1) (by have:=hLn.out;simp;omega) hB1.size ?_;intro v2 w2 hO2 hg2;rw [Dl] at hO2;have hB2:Below wr wr w2:=hB1.grown hg2 hB1.size (fun j hj=>(Dw hO1 j hj).1);refine hK.out _ _ hB2 fun kz=>?_;clear hK;push_cast;refine rk 6 rfl fun K hK=>?_;go_simp;have hBx:Below wr wr (w2.alloc (.cells #[↑s] 9)):=hB2.alloc hB2.size _;have hOx:At wr (w2.alloc (.cells #[↑s] 9)) v2 LA:=hO2.below ((Ac _ w2).alloc nR _);have hXx:=Wo (Aw w2 (.cells #[↑s] 9));refine hK.out _ _ hBx fun kz=>?_;clear hK hB1 hO1 hO2 hg2 hB2 hg1;generalize (w2.alloc (.cells #[↑s] 9))=Wx at *;push_cast
    rotate_left;focus refine Cc (o:=_) rfl (fun K hK=>?_) Eo;go_simp;have hB2:Below wr wr (W1.alloc (.cells #[↑s] 9)):=hB1.alloc hB1.size _;have hO2:At wr (W1.alloc (.cells #[↑s] 9)) (.slice (some ⟨wr,0,none⟩) 0 0) []:=hO1.below ((Ac _ W1).alloc nR _);have hX2:=Aw W1 (.cells #[↑s] 9);refine hK.out _ _ hB2 fun kz=>?_;clear hK;push_cast;refine rk 4 rfl fun K hK=>?_;rw [Au rF];refine Ck _ _ rfl wr _ [] rfl hO2 wr _ LA rfl (hA.out _ hB2) (by have:=hLn.out;simp;omega) hB2.size ?_;intro v2 Wx hOx hg2;rw [Dl] at hOx;have hBx:Below wr wr Wx:=hB2.grown hg2 hB2.size (fun j hj=>(Dw hO2 j hj).1);have hXx:=Wo ((hg2.block W1 sM (fun e=>by injection e with e;dsimp only at e;omega)).trans hX2);refine hK.out _ _ hBx fun kz=>?_;clear hK hB1 hO1 hO2 hg2 hB2 hX2 hg1;push_cast
    rotate_left
   rotate_left 2;focus
    refine Cc (o:=_) rfl (fun K hK=>?_) Eo;go_simp;have hB1:Below wr wr (wr.alloc (.cells #[↑s] 9)).drew:=((Ac _ wr).alloc nR _).drew;have hX1:(wr.alloc (.cells #[↑s] 9)).drew.heap[wr.heap.size]?=_:=Aw wr (.cells #[↑s] 9);have hg1:wr.heap.size<(wr.alloc (.cells #[↑s] 9)).drew.heap.size:=by show _<(wr.alloc (.cells #[↑s] 9)).heap.size;simp
    refine hK.out _ _ hB1 fun kz=>?_;clear hK;generalize (wr.alloc (.cells #[↑s] 9)).drew=W1 at *;push_cast;refine rk 0 rfl fun K hK=>?_;go_simp;have hB2:Below wr wr (W1.alloc (.cells #[] 9)):=hB1.alloc hB1.size _;have hO2:At wr (W1.alloc (.cells #[] 9)) (.slice (some ⟨W1,0,none⟩) 0 0) []:=(Fu W1 [] sM).low hB1.size;have hX2:=(((Ac _ W1).alloc nR (.cells #[] 9)).block wr.heap.size hg1).trans hX1;refine hK.out _ _ hB2 fun kz=>?_;clear hK;push_cast;refine rk 4 rfl fun K hK=>?_;rw [Au rF];refine Ck _ _ rfl wr _ [] rfl hO2 wr _ LA rfl (hA.out _ hB2) (by have:=hLn.out;simp;omega) hB2.size ?_;intro v2 Wx hOx hg2;rw [Dl] at hOx;have hBx:Below wr wr Wx:=hB2.grown hg2 hB2.size (fun j hj=>(Dw hO2 j hj).1);have hXx:=Wo ((hg2.block wr (by simp;omega) (fun e=>by injection e with e;dsimp only at e;omega)).trans hX2);refine hK.out _ _ hBx fun kz=>?_;clear hK hB1 hO2 hg2 hB2 hX2 hX1 hg1;push_cast
   all_goals obtain⟨BX,hXx⟩:=hXx;refine rk 7 rfl fun K hK=>?_;rw [Au rF];refine Ck _ _ rfl wr _ LA rfl hOx BX _ [s] rfl hXx (by have:=hLn.out;simp;omega) hBx.size ?_;intro v4 w4 hO4 hg4;have hB4:Below wr wr w4:=hBx.grown hg4 hBx.size (fun j hj=>(Dw hOx j hj).1);refine hK.out _ _ hB4 fun kz=>?_;clear hK;push_cast;refine rk 11 rfl fun K hK=>?_;rw [Au rF];refine Ck _ _ rfl wr _ (LA++[s]) rfl hO4 wr _ LB rfl (hD.out _ hB4) (by have:=hLn.out;simp;omega) hB4.size ?_;intro v5 w5 hO5 hg5;have hB5:Below wr wr w5:=hB4.grown hg5 hB4.size (fun j hj=>(Dw hO4 j hj).1);refine hK.out _ _ hB5 fun kz=>?_;clear hK;push_cast;refine tj 12 ?_;push_cast;refine Dy kR ?_ _;go_wp2;all_goals go_ret;exact⟨v5,LA++[s]++LB,rfl,hO5.low (Az _),by have:=hLn.out;simp;omega,hB5⟩
 ·have HV:=Aa hv.strs;clear hv;obtain⟨N,hN⟩:∃ N,ls.length=N:=⟨_,rfl⟩
  rw [hN] at hl hn hv0 HV ⊢;replace hN:=Aa hN;go_enter func270,ntmps270;go_wp2_with fail;go_loopw [5] (fun i wr=>∃ k:Nat,k<=N/\i=↑k/\wr=w) (fun i _=>N - (ZG i).toNat);case atStart=>exact⟨0,Az _,rfl,rfl⟩
  case round =>
   obtain⟨k,hk,rfl,rfl⟩:=hrel;obtain⟨LA,hLA⟩:∃ LA,Hid (ls.take k=LA):=⟨_,Aa rfl⟩
   obtain⟨LB,hLB⟩:∃ LB,Hid (ls.drop k=LB):=⟨_,Aa rfl⟩
   have hA:Hid (∀ W',Below wr wr W'->Strs wr W' (.slice (some ⟨g,0,none⟩) k cap) LA):=Aa fun W' hb=>by rw [<- hLA.out];exact (HV.out.take k (by rw [hN.out];exact hk)).below hb nR
   have hD:Hid (∀ W',Below wr wr W'->Strs wr W' (.slice (if cap=k then some ⟨g,0,none⟩ else some ⟨g,k,none⟩) (N - k) (cap - k)) LB):=Aa fun W' hb=>by
    rw [<- hLB.out];refine⟨_,cap - k,by rw [Ei,hN.out],by rw [Ei,hN.out];omega,oM,fun hn0=>?_⟩;have hkN:k<N:=by
     rcases H9 k N with h|h;·exact h
     ·exact absurd (Jl (by rw [hN.out];exact h)) hn0
    rw [Ai oM];obtain⟨_,_,ev,_,_,hne⟩:=HV.out;injection ev with ev1 ev2 ev3;obtain⟨b,off,e,hbl,kj⟩:=hne (by intro h;have:=hN.out;simp [h] at this;omega);rw [<- ev1] at e;cases e;refine⟨g,k,rfl,hbl,fun j l hj=>?_⟩;rw [Gu] at hj;have:=kj (k+j) l hj;rw [Bf] at this;exact (hb.cell (p:=⟨g,k+j,none⟩) hbl).trans this
   have hLn:Hid (LA.length+1+LB.length<=N+1):=Aa (by rw [<- hLA.out,<- hLB.out,C9,Ei,hN.out];omega);have hkc:(k:Int)<=(cap:Int):=oM;have hkn:(k:Int)<=(N:Int):=oM;have z0:(0:Int)<=(k:Int):=oM;have zk:((k:Int)).toNat=k:=oM;by_cases hlt:k<N;focus
    obtain⟨_,_,ev,_,_,hne⟩:=HV.out;injection ev with ev1 ev2 ev3;rw [<- ev1] at hne;clear ev1 ev2 ev3;obtain⟨b,off,e,hbl,kj⟩:=hne (by intro h;have:=hN.out;simp [h] at this;omega);cases e;obtain⟨l,hl'⟩:∃ l,ls[k]?=some l:=⟨_,Ad (by rw [hN.out];exact hlt)⟩
    have e1:=kj k l hl';rw [Bf] at e1;have hk':(k:Int)<(N:Int):=oM;clear kj hl' hne;go_wp2_with fail;all_goals first |(exact⟨⟨k+1,oM,by go_num,trivial⟩,by simp [ZG];omega⟩) |(go_ret;exact⟨_,ls,rfl,hv0.out,by rw [hN.out];omega,Ac _ _⟩) |skip
   rotate_left;focus have hk':¬ (k:Int)<(N:Int):=oM;go_wp2_with fail
   all_goals
    refine Ed (S:=fun W'=>Below wr wr W') kR hB0 fun kz=>?_;refine tj 1 ?_;push_cast;refine tj 2 ?_;push_cast;refine tj 3 ?_;push_cast;refine tj 5 ?_;push_cast;refine tj 8 ?_;push_cast;refine tj 9 ?_;push_cast;refine tj 10 ?_;push_cast;refine Ew (rs:=[0,6]) kR sM ?_;refine Cc (o:=_) rfl (fun K hK=>?_) ?_;focus
     go_simp;have hB1:Below wr wr (wr.alloc (.cells #[] 9)).drew:=((Ac _ wr).alloc nR _).drew;have hO1:At wr (wr.alloc (.cells #[] 9)).drew (.slice (some ⟨wr,0,none⟩) 0 0) []:=(Fu wr [] sM).below (Ac _ _).drew;have hg1:wr.heap.size<(wr.alloc (.cells #[] 9)).drew.heap.size:=by show _<(wr.alloc (.cells #[] 9)).heap.size;simp
     refine hK.out _ _ hB1 fun kz=>?_;clear hK;generalize (wr.alloc (.cells #[] 9)).drew=W1 at *;push_cast;refine Ew (rs:=[4,6]) kR sM ?_;refine Cc (o:=_) rfl (fun K hK=>?_) ?_;focus rw [Au rF];refine Ck _ _ rfl wr _ [] rfl hO1 wr _ LA rfl (hA.out W1 hB1) (by have:=hLn.out;simp;omega) hB1.size ?_;intro v2 w2 hO2 hg2;rw [Dl] at hO2;have hB2:Below wr wr w2:=hB1.grown hg2 hB1.size (fun j hj=>(Dw hO1 j hj).1);refine hK.out _ _ hB2 fun kz=>?_;clear hK;push_cast;refine rk 6 rfl fun K hK=>?_;go_simp;have hBx:Below wr wr (w2.alloc (.cells #[↑s] 9)):=hB2.alloc hB2.size _;have hOx:At wr (w2.alloc (.cells #[↑s] 9)) v2 LA:=hO2.below ((Ac _ w2).alloc nR _);have hXx:=Wo (Aw w2 (.cells #[↑s] 9));refine hK.out _ _ hBx fun kz=>?_;clear hK hB1 hO1 hO2 hg2 hB2 hg1;generalize (w2.alloc (.cells #[↑s] 9))=Wx at *;push_cast
     rotate_left;focus refine Cc (o:=_) rfl (fun K hK=>?_) Eo;go_simp;have hB2:Below wr wr (W1.alloc (.cells #[↑s] 9)):=hB1.alloc hB1.size _;have hO2:At wr (W1.alloc (.cells #[↑s] 9)) (.slice (some ⟨wr,0,none⟩) 0 0) []:=hO1.below ((Ac _ W1).alloc nR _);have hX2:=Aw W1 (.cells #[↑s] 9);refine hK.out _ _ hB2 fun kz=>?_;clear hK;push_cast;refine rk 4 rfl fun K hK=>?_;rw [Au rF];refine Ck _ _ rfl wr _ [] rfl hO2 wr _ LA rfl (hA.out _ hB2) (by have:=hLn.out;simp;omega) hB2.size ?_;intro v2 Wx hOx hg2;rw [Dl] at hOx;have hBx:Below wr wr Wx:=hB2.grown hg2 hB2.size (fun j hj=>(Dw hO2 j hj).1);have hXx:=Wo ((hg2.block W1 sM (fun e=>by injection e with e;dsimp only at e;omega)).trans hX2);refine hK.out _ _ hBx fun kz=>?_;clear hK hB1 hO1 hO2 hg2 hB2 hX2 hg1;push_cast
     rotate_left
    rotate_left 2;focus
     refine Cc (o:=_) rfl (fun K hK=>?_) Eo;go_simp;have hB1:Below wr wr (wr.alloc (.cells #[↑s] 9)).drew:=((Ac _ wr).alloc nR _).drew;have hX1:(wr.alloc (.cells #[↑s] 9)).drew.heap[wr.heap.size]?=_:=Aw wr (.cells #[↑s] 9);have hg1:wr.heap.size<(wr.alloc (.cells #[↑s] 9)).drew.heap.size:=by show _<(wr.alloc (.cells #[↑s] 9)).heap.size;simp
     refine hK.out _ _ hB1 fun kz=>?_;clear hK;generalize (wr.alloc (.cells #[↑s] 9)).drew=W1 at *;push_cast;refine rk 0 rfl fun K hK=>?_;go_simp;have hB2:Below wr wr (W1.alloc (.cells #[] 9)):=hB1.alloc hB1.size _;have hO2:At wr (W1.alloc (.cells #[] 9)) (.slice (some ⟨W1,0,none⟩) 0 0) []:=(Fu W1 [] sM).low hB1.size;have hX2:=(((Ac _ W1).alloc nR (.cells #[] 9)).block wr.heap.size hg1).trans hX1;refine hK.out _ _ hB2 fun kz=>?_;clear hK;push_cast;refine rk 4 rfl fun K hK=>?_;rw [Au rF];refine Ck _ _ rfl wr _ [] rfl hO2 wr _ LA rfl (hA.out _ hB2) (by have:=hLn.out;simp;omega) hB2.size ?_;intro v2 Wx hOx hg2;rw [Dl] at hOx;have hBx:Below wr wr Wx:=hB2.grown hg2 hB2.size (fun j hj=>(Dw hO2 j hj).1);have hXx:=Wo ((hg2.block wr (by simp;omega) (fun e=>by injection e with e;dsimp only at e;omega)).trans hX2);refine hK.out _ _ hBx fun kz=>?_;clear hK hB1 hO2 hg2 hB2 hX2 hX1 hg1;push_cast
    all_goals obtain⟨BX,hXx⟩:=hXx;refine rk 7 rfl fun K hK=>?_;rw [Au rF];refine Ck _ _ rfl wr _ LA rfl hOx BX _ [s] rfl hXx (by have:=hLn.out;simp;omega) hBx.size ?_;intro v4 w4 hO4 hg4;have hB4:Below wr wr w4:=hBx.grown hg4 hBx.size (fun j hj=>(Dw hOx j hj).1);refine hK.out _ _ hB4 fun kz=>?_;clear hK;push_cast;refine rk 11 rfl fun K hK=>?_;rw [Au rF];refine Ck _ _ rfl wr _ (LA++[s]) rfl hO4 wr _ LB rfl (hD.out _ hB4) (by have:=hLn.out;simp;omega) hB4.size ?_;intro v5 w5 hO5 hg5;have hB5:Below wr wr w5:=hB4.grown hg5 hB4.size (fun j hj=>(Dw hO4 j hj).1);refine hK.out _ _ hB5 fun kz=>?_;clear hK;push_cast;refine tj 12 ?_;push_cast;refine Dy kR ?_ _;go_wp2;all_goals go_ret;exact⟨v5,LA++[s]++LB,rfl,hO5.low (Az _),by have:=hLn.out;simp;omega,hB5⟩
theorem Xq (v:ZC) (ls:List Q00) (s:Q00) (w:ZB) (hv:Strs w w v ls) : ZE prog 268 #[v,↑s] w (Ret w (.bool (ls.contains s))):=by
 obtain⟨a,cap,rfl,hl,hcap,hne⟩:=hv;replace hne:=Aa hne;obtain⟨R,hR⟩:∃ R,ls.contains s=R:=⟨_,rfl⟩
 rw [hR];replace hR:=Aa hR;obtain⟨N,hN⟩:∃ N,ls.length=N:=⟨_,rfl⟩
 rw [hN] at hl ⊢;replace hN:=Aa hN;go_enter func268,ntmps268;go_wp2_with fail;go_loopw [5] (fun i wr=>∃ k:Nat,k<=N/\i=↑k/\wr=w/\Hid ((ls.take k).contains s=false)) (fun i _=>N - (ZG i).toNat);case atStart=>exact⟨0,Az _,rfl,rfl,Aa rfl⟩
 case round =>
  obtain⟨k,hk,rfl,rfl,hc⟩:=hrel;by_cases hlt:k<N
  ·obtain⟨b,off,rfl,hbl,kj⟩:=hne.out (by intro h;have:=hN.out;simp [h] at this;omega);obtain⟨l,hl'⟩:∃ l,ls[k]?=some l:=⟨_,Ad (by rw [hN.out];exact hlt)⟩
   have e1:=kj k l hl';have z0:(0:Int)<=(k:Int):=oM;have zk:((k:Int)).toNat=k:=oM;have hk':(k:Int)<(N:Int):=oM;cases hx:l==s with
   |true =>
    obtain rfl:=eq_of_beq hx;obtain rfl:true=R:=by rw [<- hR.out];exact (List.contains_iff_mem.2 (Ap hl')).symm
    clear kj hl' hx;exact FD30
   |false =>
    obtain⟨q1,q2,q3⟩:=Iv hx;have hc2:=Aa (show (ls.take (k+1)).contains s=false from by rw [Pm hl',hc.out,hx];rfl);clear kj hl';go_wp2;go_roundw;case rel=>exact⟨k+1,oM,by go_num,by first|rfl|trivial,hc2⟩
    case measure=>simp [ZG];omega
  ·obtain rfl:k=N:=oM;obtain rfl:false=R:=by rw [<- hR.out,<- hc.out,Bz (by rw [hN.out];exact Bg _)]
   exact FD30
theorem Hws (a:Option Addr) (cap:Nat) (s:Q00) (w:ZB) : ZE prog 212 #[.slice a 0 cap,↑s] w (Ret w (.int .i64 (-1))):=by
 go_enter func212,ntmps212;go_wp2_with fail;go_loopw [5] (fun i wr=>i=.int .i64 0/\wr=w) (fun _ _=>0);case atStart=>exact⟨rfl,rfl⟩
 case round =>obtain⟨rfl,rfl⟩:=hrel;exact FD30
theorem X7:∀ {l:List Q00},(∀ (j k:Nat) (x y:Q00),l[j]?=some x->l[k]?=some y->j<k->(x==y)=false)->dY l=true
 |[],_=>rfl
 |z::l,h=>by
  have h1:l.contains z=false:=by
   rw [Je,Dc]
   intro hm
   obtain⟨k,hk⟩:=Dj.1 hm
   have:=h 0 (k+1) z z rfl (by simpa using hk) oM
   simp at this
  rw [dY,h1,X7 fun j k x y hj hk hlt=>h (j+1) (k+1) x y (by simpa using hj) (by simpa using hk) oM]
  rfl
structure lH (h:aQ):Prop where
 id:CH.isName h.id=true
 company:CH.isName h.company=true
 holder:CH.isName h.holder=true
 nom:h.ah=[]\/CH.isName h.ah=true/\h.joint.length=0
 vU:h.aC=[]\/CH.isName h.aC=true
 j4:h.joint.length<=4
 jn:∀ x∈h.joint,CH.isName x=true
 jt:∀ (j k:Nat) (x y:Q00),h.joint[j]?=some x->h.joint[k]?=some y->j<k->(x==y)=false
 jh:∀ x∈h.joint,(x==h.holder)=false
 ch:(h.company==h.holder)=false
 cn:(h.company==h.ah)=false
 cj:∀ x∈h.joint,(x==h.company)=false
 cap:0<=h.capital/\h.capital<=100
 vot:0<=h.cZ/\h.cZ<=100
 st:0<=h.start/\h.start<=100000
 en:h.stop = -1\/0<=h.stop/\h.stop<=100000/\h.start<h.stop
theorem H5 {h:aQ} (hh:bC h=true):lH h:=by
 unfold bC CH.within at hh
 simp only [Ba,Ec,F9,Eb,Bq,Gt,J6,Dc,Nu,Nat.not_lt] at hh
 obtain⟨⟨⟨⟨⟨⟨⟨⟨⟨a1,a2⟩,a3⟩,a4⟩,a5⟩,a6⟩,a7⟩,a8,a9⟩,⟨⟨b1,b2⟩,b3⟩,b4⟩,b5,b6⟩:=hh
 have hnt:=X9 (h.holder::h.joint) a9
 have hc:=b1
 rw [Je,Dc] at hc
 have hne:∀ {x y:Q00},x≠y->(x==y)=false:=fun e=>by simpa using e
 exact {
  id:=a1
  company:=a2
  holder:=a3
  nom:=by
   rcases a4 with e|e
   ·exact .inl e
   ·refine .inr ⟨e,?_⟩
    rcases a7 with f|f
    ·have:=(Bn e).1
     simp only [bne_eq_false_iff_eq] at f
     rw [f] at this
     simp at this
    ·omega
  vU:=a5
  j4:=a6
  jn:=fun x hx=>Df.1 a8 x hx
  jt:=fun j k x y hj hk hlt=>hnt (j+1) (k+1) x y (by simpa using hj) (by simpa using hk) oM
  jh:=fun x hx=>by
   obtain⟨j,hj⟩:=Dj.1 hx
   have:=hnt 0 (j+1) h.holder x rfl (by simpa using hj) oM
   simp only [Cb,ne_eq] at this ⊢
   exact fun e=>this e.symm
  ch:=hne fun e=>hc (by rw [e];simp)
  cn:=b2
  cj:=fun x hx=>hne fun e=>hc (by rw [<- e];exact Gm _ hx)
  cap:=b3
  vot:=b4
  st:=b5
  en:=by omega }
theorem Log {h:aQ} (H:lH h):bC h=true:=by
 have hnt:dY (h.holder::h.joint)=true:=X7 (fun j k x y hj hk hlt=>by
  cases j with
  |zero =>
   cases k with
   |zero=>omega
   |succ k =>cases hj;have:=H.jh y (Ap hk);simp only [Cb,ne_eq] at this ⊢;exact fun e=>this e.symm
  |succ j =>
   cases k with
   |zero=>omega
   |succ k=>exact H.jt j k x y hj hk oM)
 have hc:(h.holder::h.joint).contains h.company=false:=by
  rw [Je,Dc,Bl];rintro (e|e);·have:=H.ch;rw [e] at this;simp at this
  ·have:=H.cj _ e;simp at this
 have hw:∀ n m:Int,0<=n/\n<=m->CH.within n m=true:=fun n m e=>by unfold CH.within;rw [decide_eq_true e.1,decide_eq_true e.2];rfl
 unfold bC;rw [H.id,H.company,H.holder,hnt,hc,H.cn,hw _ _ H.cap,hw _ _ H.vot,hw _ _ H.st,Am H.j4,Df.2 H.jn];have e1:(h.ah==[]||CH.isName h.ah)=true:=by
  rcases H.nom with e|e;·rw [e];rfl
  ·rw [e.1,Bool.or_true]
 have e2:(h.aC==[]||CH.isName h.aC)=true:=by
  rcases H.vU with e|e;·rw [e];rfl
  ·rw [e,Bool.or_true]
 have e3:(h.ah != []&&ZH (0<h.joint.length))=false:=by
  rcases H.nom with e|e;·rw [e];rfl
  ·rw [e.2];simp
 have e4:(h.stop==-1||CH.within h.stop 100000&&ZH (h.stop > h.start))=true:=by
  rcases H.en with e|e;·rw [e];rfl
  ·rw [hw _ _ ⟨e.1,e.2.1⟩,Am e.2.2,a_Bool_true_and,Bool.or_true]
 rw [e1,e2,e3,e4];rfl
structure sN (h:aQ):Prop where
 id:h.id.length<=4611686018427387904
 company:h.company.length<=4611686018427387904
 holder:h.holder.length<=4611686018427387904
 ah:h.ah.length<=4611686018427387904
 aC:h.aC.length<=4611686018427387904
 joint:∀ x∈h.joint,x.length<=4611686018427387904
theorem Q5 (h:aQ) (vj:ZC) (w:ZB) (hv:Strs w w vj h.joint) (hL:sN h) : ZE prog 211 #[.agg (Ax h vj).toArray] w (Ret w (.bool (bC h))):=by
 obtain⟨R,hR⟩:∃ R,bC h=R:=⟨_,rfl⟩
 rw [hR];have bad:Hid (¬ lH h->R=false):=Aa fun q=>by rw [<- hR,<- Gz];exact fun e=>q (H5 e)
 have good:Hid (lH h->R=true):=Aa fun H=>hR.symm.trans (Log H);clear hR;have T1:=Aa fun (W:ZB)=>Gr h.id W hL.id;have T2:=Aa fun (W:ZB)=>Gr h.company W hL.company;have T3:=Aa fun (W:ZB)=>Gr h.holder W hL.holder;have T4:=Aa fun (W:ZB)=>Gr h.ah W hL.ah;have T5:=Aa fun (W:ZB)=>Gr h.aC W hL.aC;have TC:=Aa fun (W:ZB) (hb:Below w w W)=>Xq vj h.joint h.company W ((hv.below hb nR).mono hb.size);have TJ:=Aa fun (k:Nat) (x:Q00) (hx:h.joint[k]?=some x) (W:ZB)=>Gr x W (hL.joint x (Ap hx));have Y1:=Aa fun (W:ZB)=>Xr h.start W;have Y2:=Aa fun (W:ZB)=>Xr h.stop W;have hB0:=Aa fun o=>(Ac _ w).alloc nR o;clear hL;have HV:=Aa hv;obtain⟨a,cap,rfl,hl,hcap,hne⟩:=hv;replace hne:=Aa hne;obtain⟨N,hN⟩:∃ N,h.joint.length=N:=⟨_,rfl⟩
 rw [hN] at hl TC;dsimp only [Ax,aA,aJ] at *;rw [hN];replace hN:=Aa hN;go_enter func211,ntmps211;go_wp2_with fail;have B:=hB0.out;generalize hWd:w.alloc _=W at *;have hBW:Below w w W:=by rw [<- hWd];exact B _
 have K:=Aa (Cp (C:=_) hWd);clear hWd hB0 B;refine CmZ (T1.out _) fun w1 hb=>?_;have c:=K.out _ hb 1 _ rfl;cases hid:CH.isName h.id with
 |false =>
  obtain rfl:=bad.out fun H=>by rw [H.id] at hid;cases hid
  exact FD143
 |true =>
 go_wp2_with fail;refine CmZ (T2.out _) fun w2 hb2=>?_;replace hb:=hb.trans (hb2.mono hb.size);clear c hb2;have c:=K.out _ hb 2 _ rfl;cases hco:CH.isName h.company with
 |false =>
  obtain rfl:=bad.out fun H=>by rw [H.company] at hco;cases hco
  exact FD143
 |true =>
 go_wp2_with fail;refine CmZ (T3.out _) fun w3 hb3=>?_;replace hb:=hb.trans (hb3.mono hb.size);clear c hb3 T1 T2 T3;have k1:=K.out _ hb 1 _ rfl;have k2:=K.out _ hb 2 _ rfl;have k3:=K.out _ hb 3 _ rfl;have k4:=K.out _ hb 4 _ rfl;cases hho:CH.isName h.holder with
 |false =>
  obtain rfl:=bad.out fun H=>by rw [H.holder] at hho;cases hho
  exact FD143
 |true =>
 have hcl:=I0 (Bn hco).1;have zy:=Hi (Bn hco).1;have hno:h.ah=[]\/(h.ah.isEmpty=false/\((⟨h.ah.toArray⟩:ByteArray)==⟨#[]⟩)=false/\¬ h.ah=[]):=Fo _;rcases hno with n0|⟨x1,x2,x3⟩;rotate_left;focus
  go_wp2_with fail;refine CmZ (T4.out _) fun w4 hb4=>?_;replace hb:=hb.trans (hb4.mono hb.size);clear k1 k2 k3 k4 hb4;have k1:=K.out _ hb 1 _ rfl;have k2:=K.out _ hb 2 _ rfl;have k3:=K.out _ hb 3 _ rfl;have k4:=K.out _ hb 4 _ rfl;cases hnn:CH.isName h.ah;focus
   obtain rfl:=bad.out fun H=>by
    rcases H.nom with e|e;·exact x3 e
    ·rw [e.1] at hnn;cases hnn
   go_wp2;go_ret;exact⟨rfl,hBW.trans (hb.mono hBW.size)⟩
  have hP:=Aa (show h.ah=[]\/CH.isName h.ah=true from .inr hnn);clear hnn
 rotate_left;focus rw [n0] at k3;have hP:=Aa (show h.ah=[]\/CH.isName h.ah=true from .inl n0)
 all_goals
  clear T4;rcases Fo h.aC with p0|⟨y1,y2,y3⟩;rotate_left;focus
   go_wp2_with fail;refine CmZ (T5.out _) fun w5 hb5=>?_;replace hb:=hb.trans (hb5.mono hb.size);clear k1 k2 k3 k4 hb5;have k1:=K.out _ hb 1 _ rfl;have k2:=K.out _ hb 2 _ rfl;have k3:=K.out _ hb 3 _ rfl;have k4:=K.out _ hb 4 _ rfl;cases hpn:CH.isName h.aC;focus
    obtain rfl:=bad.out fun H=>by
     rcases H.vU with e|e;·exact y3 e
     ·rw [e] at hpn;cases hpn
    go_wp2;go_ret;exact⟨rfl,hBW.trans (hb.mono hBW.size)⟩
   have hP2:=Aa (show h.aC=[]\/CH.isName h.aC=true from .inr hpn);clear hpn y1 y2 y3;first|rw [n0] at k3|skip
  rotate_left;focus rw [p0] at k4;have hP2:=Aa (show h.aC=[]\/CH.isName h.aC=true from .inl p0)
 all_goals
  clear T5;have k5:=K.out _ hb 5 _ rfl;rcases (oM:4<N\/N=0\/(0<N/\N<=4)) with n5|rfl|⟨n1,n4⟩;focus
   obtain rfl:=bad.out fun H=>by have:=H.j4;rw [hN.out] at this;omega
   go_wp2;go_ret;exact⟨rfl,hBW.trans (hb.mono hBW.size)⟩
  rotate_left;focus
   have hN1:=hN.out;first
    |(have:=x3
      obtain rfl:=bad.out fun H=>by
       rcases H.nom with e|e
       ·exact x3 e
       ·omega
      go_wp2
      go_ret
      exact⟨rfl,hBW.trans (hb.mono hBW.size)⟩)
    |skip
  rotate_left
 all_goals
  cases hch:h.company==h.holder;rotate_left;focus
   obtain rfl:=bad.out fun H=>by rw [H.ch] at hch;cases hch
   have s0:=eq_of_beq hch;have s1:((⟨h.company.toArray⟩:ByteArray)==⟨h.holder.toArray⟩)=true:=by rw [Cr];exact hch
   go_wp2;go_ret;exact⟨rfl,hBW.trans (hb.mono hBW.size)⟩
  obtain⟨s1,s2,s3⟩:=Iv hch;cases hcn:h.company==h.ah with
  |true =>
   first
    |(have:=x3
      obtain rfl:=bad.out fun H=>by rw [H.cn] at hcn;cases hcn
      rw [eq_of_beq hcn] at k1 s1 s2 s3
      go_wp2
      go_ret
      exact⟨rfl,hBW.trans (hb.mono hBW.size)⟩)
    |(exfalso;rw [eq_of_beq hcn,n0] at zy;cases zy)
  |false =>
  obtain⟨s4,s5,s6⟩:=Iv hcn;go_wp2_with fail;refine CmZ (TC.out _ (hBW.trans (hb.mono hBW.size))) fun w6 hb6=>?_;replace hb:=hb.trans (hb6.mono hb.size);clear k1 k2 k3 k4 k5 hb6 s1 s2 s3 s4 s5 s6 hcl zy;cases hcj:h.joint.contains h.company with
  |true =>
   obtain rfl:=bad.out fun H=>by have:=H.cj h.company (List.contains_iff_mem.1 hcj);simp at this
   go_wp2;go_ret;exact⟨rfl,hBW.trans (hb.mono hBW.size)⟩
  |false =>
  replace hb:=Aa hb;go_wp2_with fail;go_loopw [3] (fun iv wr=>∃ k:Nat,k<=h.joint.length/\iv=↑k/\Hid (Below W W wr)/\Hid (∀ (j:Nat) (x:Q00),j<k->h.joint[j]?=some x->CH.isName x=true/\(x==h.holder)=false/\(h.joint.take j).contains x=false)) (fun iv _=>h.joint.length - (ZG iv).toNat);case atStart=>exact⟨0,Az _,rfl,hb,Aa fun j x hj=>absurd hj (Nat.not_lt_zero _)⟩
  case round =>
   obtain⟨k,hk,rfl,hB,hI⟩:=hrel;have c5:=K.out wr hB.out 5 _ rfl;have hBw:Below w w wr:=hBW.trans (hB.out.mono hBW.size);by_cases hlt:k<h.joint.length
   ·obtain⟨b,off,rfl,hbl,kj⟩:=hne.out (by intro e;rw [e] at hlt;simp at hlt);obtain⟨x,hx⟩:∃ x,h.joint[k]?=some x:=⟨_,Ad hlt⟩
    have e1:=(hBw.cell (p:=⟨b,off+k,none⟩) hbl).trans (kj k x hx);have c2:=K.out wr hB.out 2 _ rfl;obtain⟨bc,hbc⟩:∃ bc,(h.joint.take k).contains x=bc:=⟨_,rfl⟩
    have I:=Aa (TJ.out k x hx);have HH:=Aa fun (W':ZB) (hb':Below wr wr W')=>Xq (.slice (some ⟨b,off,none⟩) k cap) (h.joint.take k) x W' (((HV.out.take k oM).below (hBw.trans (hb'.mono hBw.size)) nR).mono (Af hBw.size hb'.size));rw [hbc] at HH;have hall:=Aa fun (q:CH.isName x=true/\(x==h.holder)=false/\bc=false) (j:Nat) (y:Q00) (hj:j<k+1) (hy:h.joint[j]?=some y)=>(show CH.isName y=true/\(y==h.holder)=false/\(h.joint.take j).contains y=false from by
     rcases Nat.lt_succ_iff_lt_or_eq.1 hj with e|e;·exact hI.out j y e hy
     ·subst e;rw [hx] at hy;cases hy;exact⟨q.1,q.2.1,hbc.trans q.2.2⟩)
    have hbad:=Aa fun (q:¬ (CH.isName x=true/\(x==h.holder)=false/\bc=false))=>bad.out fun H=>q ⟨H.jn x (Ap hx),H.jh x (Ap hx),by
     rw [<- hbc,<- Gz];intro e;obtain⟨j,hj⟩:=Dj.1 (List.contains_iff_mem.1 e);rw [List.getElem?_take] at hj;split at hj;·rename_i hjk;have:=H.jt j k x x hj hx hjk;simp at this
     ·cases hj⟩
    have g1:=@Ag _ _ _ e1;have g2:=@Ag _ _ _ c2;have g5:=@Ag _ _ _ c5;have hj:=hN.out;rw [hj] at hlt;have z0:(0:Int)<=(k:Int):=oM;have zk:((k:Int)).toNat=k:=oM;have hcl:k<=cap:=oM;clear kj hx hbc hI;first
     |(exfalso;omega)
     |(
       have hk':(k:Int)<(N:Int):=oM
       replace hj:=Aa hj
       have hs:=@Iv x h.holder
       have ht:(x==h.holder)=true->((⟨x.toArray⟩:ByteArray)==⟨h.holder.toArray⟩)=true:=fun e=>by rw [Cr];exact e
       have ht2:(x==h.holder)=true->x=h.holder:=eq_of_beq
       generalize CH.isName x=bI at *
       generalize hq:(x==h.holder)=bq at *
       have hc:bI=false/\R=false\/(bI=true/\bq=true/\R=false)/\((⟨x.toArray⟩:ByteArray)==⟨h.holder.toArray⟩)=true/\x=h.holder \/
         (bI=true/\bq=false/\bc=true/\R=false)/\(((⟨x.toArray⟩:ByteArray)==⟨h.holder.toArray⟩)=false/\¬ x=h.holder/\¬ h.holder=x) \/
         (bI=true/\bq=false/\bc=false)/\(((⟨x.toArray⟩:ByteArray)==⟨h.holder.toArray⟩)=false/\¬ x=h.holder/\¬ h.holder=x):=by
        cases bI
        ·exact .inl ⟨rfl,hbad.out (by rintro⟨q,_⟩;cases q)⟩
        cases bq
        rotate_left
        ·exact .inr (.inl ⟨⟨rfl,rfl,hbad.out (by rintro⟨_,q,_⟩;cases q)⟩,ht rfl,ht2 rfl⟩)
        cases bc
        ·exact .inr (.inr (.inr ⟨⟨rfl,rfl,rfl⟩,hs rfl⟩))
        ·exact .inr (.inr (.inl ⟨⟨rfl,rfl,rfl,hbad.out (by rintro⟨_,_,q⟩;cases q)⟩,hs rfl⟩))
       clear hs ht ht2 hbad
       rcases hc with⟨rfl,rfl⟩|⟨⟨rfl,rfl,rfl⟩,s1,rfl⟩|⟨⟨rfl,rfl,rfl,rfl⟩,s1,s2,s3⟩|⟨⟨rfl,rfl,rfl⟩,s1,s2,s3⟩
       all_goals
        go_wp2_with fail
        refine Ar kR kR ?_
        repeat (quiet_step (first|(with_reducible exact Bc (I.out _))|(with_reducible exact Bc (HH.out _ (D6 _ _ _)))))
        refine Bv ?_
        intro wq hbq
        replace hbq:=An hbq
        clear g1 g2 g5 I HH
        have hB2:=Aa (hB.out.trans (hbq.mono hB.out.size))
        clear hbq e1 c2 c5 hB hBw
        first
         |(
           have hI2:=Aa (hall.out sM)
           clear hall
           go_wp2
           go_roundw
           case rel=>exact⟨k+1,by have:=hj.out;omega,by go_num,hB2,hI2⟩
           case measure=>have:=hj.out;simp [ZG];omega)
         |(
           go_wp2
           go_ret
           exact⟨rfl,hBW.trans (hB2.out.mono hBW.size)⟩))
   ·have hj:=hN.out;obtain rfl:k=h.joint.length:=oM;have uJ:=Aa fun (g1:0<=h.capital/\h.capital<=100) (g2:0<=h.cZ/\h.cZ<=100) (g3:0<=h.start/\h.start<=100000) (g4:h.stop = -1\/0<=h.stop/\h.stop<=100000/\h.start<h.stop)=>(good.out ⟨hid,hco,hho,(by first|exact .inl n0|exact hP.out.imp (fun e=>e) (fun e=>⟨e,hj⟩)),hP2.out,oM,(fun x hx=>by
     obtain⟨j,hj⟩:=Dj.1 hx;exact (hI.out j x (lS hj) hj).1),(fun j k x y hj hk hlt=>by
     have:=(hI.out k y (lS hk) hk).2.2;rw [<- Gz,Eb];rintro rfl;rw [<- Gz] at this;exact this (List.contains_iff_mem.2 (Dj.2 ⟨j,by rw [List.getElem?_take,Au hlt];exact hj⟩))),(fun x hx=>by
     obtain⟨j,hj⟩:=Dj.1 hx;exact (hI.out j x (lS hj) hj).2.1),hch,hcn,(fun x hx=>by
     rw [<- Gz,Eb];rintro rfl;rw [List.contains_iff_mem.2 hx] at hcj;cases hcj),g1,g2,g3,g4⟩:R=true).symm
    have hw:∀ n,CH.within n 100000=true->0<=n/\n<=100000:=fun n e=>by unfold CH.within at e;simpa using e
    have hw':∀ n,CH.within n 100000=false->¬ (0<=n/\n<=100000):=fun n e=>by unfold CH.within at e;simpa using e
    replace hw:=Aa hw;replace hw':=Aa hw';have c6:=K.out wr hB.out 6 _ rfl;have c7:=K.out wr hB.out 7 _ rfl;have c8:=K.out wr hB.out 8 _ rfl;rw [hj];clear hI hlt hBw hk;cases z1:ZH (0<=h.capital) with
    |false =>
     obtain rfl:=bad.out fun H=>by have:=H.cap;simp only [Dc] at z1;omega
     go_wp2;go_ret;exact⟨rfl,hBW.trans (hB.out.mono hBW.size)⟩
    |true =>
    cases z2:ZH (h.capital<=100) with
    |false =>
     obtain rfl:=bad.out fun H=>by have:=H.cap;simp only [Dc] at z2;omega
     go_wp2;go_ret;exact⟨rfl,hBW.trans (hB.out.mono hBW.size)⟩
    |true =>
    cases z3:ZH (0<=h.cZ) with
    |false =>
     obtain rfl:=bad.out fun H=>by have:=H.vot;simp only [Dc] at z3;omega
     go_wp2;go_ret;exact⟨rfl,hBW.trans (hB.out.mono hBW.size)⟩
    |true =>
    cases z4:ZH (h.cZ<=100) with
    |false =>
     obtain rfl:=bad.out fun H=>by have:=H.vot;simp only [Dc] at z4;omega
     go_wp2;go_ret;exact⟨rfl,hBW.trans (hB.out.mono hBW.size)⟩
    |true =>
    go_wp2_with fail;refine CmZ (Y1.out _) fun w7 hb7=>?_;have hB7:=hB.out.trans (hb7.mono hB.out.size);clear c5 c6 c7 c8;have c8:=K.out w7 hB7 8 _ rfl;have c9:=K.out w7 hB7 9 _ rfl;cases y1:CH.within h.start 100000 with
    |false =>obtain rfl:=bad.out fun H=>hw'.out _ y1 H.st;go_wp2;go_ret;exact⟨rfl,hBW.trans (hB7.mono hBW.size)⟩
    |true =>
    replace uJ:=Aa (uJ.out ⟨G5 z1,G5 z2⟩ ⟨G5 z3,G5 z4⟩ (hw.out _ y1));rcases (oM:h.stop = -1\/¬ h.stop = -1) with e9|e9;·obtain rfl:=uJ.out (.inl e9);rw [e9] at c9;go_wp2;go_ret;exact⟨rfl,hBW.trans (hB7.mono hBW.size)⟩
    ·have r1:(h.stop==-1)=false:=by simpa using e9
     go_wp2_with fail;refine CmZ (Y2.out _) fun w8 hb8=>?_;have hB8:=hB7.trans (hb8.mono hB7.size);clear c8 c9;have c8:=K.out w8 hB8 8 _ rfl;have c9:=K.out w8 hB8 9 _ rfl;cases y2:CH.within h.stop 100000 with
     |false =>obtain rfl:=bad.out fun H=>H.en.elim e9 fun q=>hw'.out _ y2 ⟨q.1,q.2.1⟩;go_wp2;go_ret;exact⟨rfl,hBW.trans (hB8.mono hBW.size)⟩
     |true =>
     cases r2:ZH (h.start<h.stop) with
     |false =>obtain rfl:=bad.out fun H=>H.en.elim e9 fun q=>of_decide_eq_false r2 q.2.2;go_wp2;go_ret;exact⟨rfl,hBW.trans (hB8.mono hBW.size)⟩
     |true =>obtain rfl:=uJ.out (.inr ⟨(hw.out _ y2).1,(hw.out _ y2).2,G5 r2⟩);go_wp2;go_ret;exact⟨rfl,hBW.trans (hB8.mono hBW.size)⟩
theorem Hte (h:aQ) (vj:ZC) (w:ZB) (hv:Strs w w vj h.joint) (hen:h.stop = -1\/h.start<h.stop) : ZE prog 271 #[.agg (Ax h vj).toArray,↑h.start] w (Ret w (.bool true)):=by
 have hB0:=Aa fun o=>(Ac _ w).alloc nR o;obtain⟨_,_,rfl,_,_⟩:=hv.form;clear hv;generalize h.joint.length=n1 at *;dsimp only [Ax,aA,aJ] at *;rcases hen with e|e;·rw [e];clear e;go_enter func271,ntmps271;exact FD121
 ·have q1:ZH (h.start<h.stop)=true:=Am e;by_cases e1:h.stop = -1;·rw [e1];clear e e1 q1;go_enter func271,ntmps271;exact FD121
  ·have q2:(h.stop==-1)=false:=by simpa using e1
   clear e1;go_enter func271,ntmps271;exact FD121
theorem Htd (h:aQ) (vj:ZC) (g:Nat) (w:ZB) (hr:w.rangeAt g 0 (Ax h vj)) (hg:g<w.heap.size) (hv:Strs w w vj h.joint) (hen:h.stop = -1\/h.start<h.stop) (hc:0<=h.capital/\h.capital<=100) (hvo:0<=h.cZ/\h.cZ<=100) : ZE prog 214 #[.slice (some ⟨g,0,none⟩) 1 1] w (Ret w (.bool true)):=by
 have R:=Aa fun (W:ZB) (hb:Below w w W)=>Hte h vj W ((hv.below hb nR).mono hb.size) hen;have HR:=Aa fun (W:ZB) (hb:Below w w W) (j:Nat) (u:ZC) (hj:(Ax h vj)[j]?=some u)=>(show W.cell? ⟨g,j,none⟩=some u from by have:=hr j u hj;rw [Bf] at this;exact (hb.cell (p:=⟨g,j,none⟩) hg).trans this)
 obtain⟨_,_,rfl,_,_⟩:=hv.form;clear hv hr;generalize h.joint.length=n1 at *;dsimp only [Ax,aA,aJ] at *;go_enter func214,ntmps214;go_wp2_with fail;go_loopw [3] (fun iv wr=>(iv=.int .i64 0\/iv=.int .i64 1)/\Hid (Below w w wr)) (fun iv _=>1 - (ZG iv).toNat);case atStart=>exact⟨.inl rfl,Aa (Ac _ _)⟩
 case round =>
  obtain⟨rfl|rfl,hB⟩:=hrel
  ·go_wp2_with fail;go_loopw [4,5,6] (fun cv vv kv wr=>((kv=.int .i64 0/\cv=.int .i64 0/\vv=.int .i64 0)\/(kv=.int .i64 1/\cv=↑h.capital/\vv=↑h.cZ))/\Hid (Below w w wr)) (fun _ _ kv _=>1 - (ZG kv).toNat);case atStart=>exact⟨.inl ⟨rfl,rfl,rfl⟩,hB⟩
   case round =>
    obtain⟨⟨rfl,rfl,rfl⟩|⟨rfl,rfl,rfl⟩,hB⟩:=hrel
    ·have x:=HR.out _ hB.out;have x0:=x 0 _ rfl;have x1:=x 1 _ rfl;have x2:=x 2 _ rfl;have x3:=x 3 _ rfl;have x4:=x 4 _ rfl;have x5:=x 5 _ rfl;have x6:=x 6 _ rfl;have x7:=x 7 _ rfl;have x8:=x 8 _ rfl;have x9:=x 9 _ rfl;have y0:=@Ag _ _ _ x0;have y1:=@Ag _ _ _ x1;have y2:=@Ag _ _ _ x2;have y3:=@Ag _ _ _ x3;have y4:=@Ag _ _ _ x4;have y5:=@Ag _ _ _ x5;have y6:=@Ag _ _ _ x6;have y7:=@Ag _ _ _ x7;have y8:=@Ag _ _ _ x8;have y9:=@Ag _ _ _ x9;have RR:=Aa fun (W':ZB) (hb':Below _ _ W')=>R.out W' (hB.out.trans (hb'.mono hB.out.size));have eqc:((⟨h.company.toArray⟩:ByteArray)==⟨h.company.toArray⟩)=true:=by rw [Cr];simp
     clear x;go_wp2_with fail;refine Ar kR kR ?_;repeat (quiet_step ((with_reducible exact Bc (RR.out _ (D6 _ _ _)))))
     refine Bv ?_;intro wq hbq;replace hbq:=An hbq;clear y0 y1 y2 y3 y4 y5 y6 y7 y8 y9 x0 x1 x2 x3 x4 x5 x6 x7 x8 x9 RR;have hB2:=Aa (hB.out.trans (hbq.mono hB.out.size));have x6:=HR.out _ hB2.out 6 _ rfl;have x7:=HR.out _ hB2.out 7 _ rfl;go_wp2;go_roundw;case rel=>exact⟨.inr ⟨by go_num,by go_num,by go_num⟩,hB2⟩
     case measure=>simp [ZG]
    ·have q1:ZH (100<h.capital)=false:=Ak oM;have q2:ZH (100<h.cZ)=false:=Ak oM;go_wp2;go_roundw;case rel=>exact⟨.inr (by go_num),hB⟩
     case measure=>simp [ZG]
  ·exact FD112
end
end Go.Proofs.Y
