/- ChainMatch, part 12 of 26. -/
import Derived.Test.YtajmjabodcmonaaGreatDoorP09
set_option linter.all false
set_option maxHeartbeats 40000000
set_option maxRecDepth 100000
open Go renaming undef -> ZA, World -> ZB, Value -> ZC, Calls -> ZE, redrawn -> ZI
open Go.RowKit renaming intOf -> ZG
open Decidable renaming decide -> ZH
open Go.Lib renaming byteCells -> ZL
namespace Go.Proofs.Y
section
open Go.Lib Go.Proofs.Tryz Go.RowKit Go.Shelf Go.Sort CH
variable {B:Nat} {w:ZB} {a:Q02} {l:List Q02}
theorem At2 (k:Int):k=1\/k=2\/k=4\/k=6\/k=5\/k=3\/k=7\/(k≠1/\k≠2/\k≠4/\k≠6/\k≠5/\k≠3/\k≠7):=oM
def Im (B:Nat) (w:ZB):List CH.Word->List ZC->Prop
 |[],[]=>True
 |x::xs,v::vs=>Mz B w x v/\Im B w xs vs
 |_,_=>False
theorem Im.get:∀ {ws:List CH.Word} {vs:List ZC},Im B w ws vs->∀ (j:Nat) (x:CH.Word),ws[j]?=some x->∃ v,vs[j]?=some v/\Mz B w x v
 |[],_,_,j,x,h=>by simp at h
 |y::ws,[],h,_,_,_=>by exact h.elim
 |y::ws,v::vs,h,0,x,hx=>by
  simp only [Fv,Fe] at hx
  subst hx
  exact⟨v,rfl,h.1⟩
 |y::ws,v::vs,h,j+1,x,hx=>Im.get h.2 j x (by simpa using hx)
theorem Mz.mono {B':Nat} {x:CH.Word} {v:ZC} (h:Mz B w x v) (hB:B<=B'):Mz B' w x v:=by
 cases x with
 |int n=>exact h
 |str s=>exact h
 |strs l =>obtain⟨sv,h1,h2,h3⟩:=h;exact⟨sv,h1,h2.mono hB,h3⟩
theorem K3 (ws:List CH.Word) (vs:List ZC) (T:TypeId) (n:Nat) (w:ZB) (hG:Gl w) (hv:Im w w ws vs) (hn:ws.length=n) (hl:n<=100) (hJ:(CH.words ws).length<=140737488355328) : ZE prog 57 #[.slice (some ⟨w,0,none⟩) n n] (w.alloc (.cells vs.toArray T)) (Ret (w.alloc (.cells vs.toArray T)) (aA (CH.words ws))):=by have hb:Below w w (w.alloc (.cells vs.toArray T)):=(Ac _ w).alloc nR _;subst hn;refine Jul ws w _ (hG.below hb) sM (fun j x hx=>?_) hl hJ;obtain⟨v,h1,h2⟩:=hv.get j x hx;refine⟨v,?_,(h2.below hb nR).mono hb.size⟩;rw [Ab (Aw w _) j];simpa using h1
def iQ:Option Q00->ZC
 |some t=>.tuple #[↑t,.bool true]
 |none=>.tuple #[.string ⟨#[]⟩,.bool false]
def Cl (a:Q02):Q00:=(aP a).getD []++[10]
theorem Pv (l:List Q02) (ha:aP a=none):fE (a::l)=none:=by
 conv=>lhs;unfold fE
 rw [ha]
theorem Pq {t:Q00} (l:List Q02) (ha:aP a=some t):fE (a::l)=(fE l).map (t++[10]++·):=by
 conv=>lhs;unfold fE
 rw [ha]
theorem My {t:Q00} (ha:aP a=some t):Cl a=t++[10]:=by unfold Cl;rw [ha];rfl
theorem Kb:∀ l:List Q02,(∀ a∈l,(aP a).isSome=true)->fE l=some (l.flatMap Cl)
 |[],_=>by unfold fE;rfl
 |a::l,h=>by
  obtain⟨t,ht⟩:=Option.isSome_iff_exists.1 (h a (List.mem_cons_self ..))
  rw [Pq l ht,Kb l fun x hx=>h x (Gm _ hx),Dx,My ht]
  rfl
theorem Kc (ha:aP a=none):∀ l:List Q02,a∈l->fE l=none
 |[],h=>by cases h
 |b::l,h=>by
  rcases Bl.1 h with rfl|h
  ·exact Pv l ha
  ·cases hb:aP b with
   |none=>exact Pv l hb
   |some t=>rw [Pq l hb,Kc ha l h];rfl
theorem Bsd {α β:Type} (f:α->List β) (l:List α) (k:Nat) (x:α) (h:l[k]?=some x):(l.take (k+1)).flatMap f=(l.take k).flatMap f++f x:=by rw [aI l k x h,Hg];simp
def Fl (v:Q01):List CH.Word:=[.str ([118,101,114,115,105,111,110]:Q00),.int v.authority,.int v.number,.int v.pos,.str v.prev]
theorem R5 {v:Q01} (h:sF v):(CH.words (Fl v)).length<=1000000:=by
 have h3:((Fl v).flatMap CH.Word.texts).length<=80:=by unfold Fl;simp only [Dx,Gx,Ah,Lb,Bj];show 1+(1+(1+(1+(1+0))))<=80;omega
 refine Af (Q1 _ 10000 80 ?_ h3) dC;intro x hx;simp only [Fl,Bl,Ci,Et] at hx;rcases hx with rfl|rfl|rfl|rfl|rfl;·exact Cv _ sM
 ·exact Cw _ h.authority
 ·exact Cw _ h.number
 ·exact Cw _ h.pos
 ·exact Cv _ h.prev
theorem Tf (v:Q01):CH.bare v=if !(ZH (0<=v.authority)&&ZH (v.authority<6)&&ZH (1<=v.number)&&ZH (v.number<=200)&&ZH (0<=v.pos)&&ZH (v.pos<=144001439)&&ZH ((v.acts.length:Int)<=40))||((v.number==1) != (v.prev==[]))||(v.prev != []&&!ay v.prev) then none else (fE v.acts).map (CH.words (Fl v)++[10]++·):=by
 unfold CH.bare CH.within aW Fl;have e1:ZH (v.authority<=5)=ZH (v.authority<6):=by rw [Eh];omega
 have e2:ZH (v.acts.length<=40)=ZH ((v.acts.length:Int)<=40):=by rw [Eh];omega
 rw [e1,e2];simp only [Bool.and_assoc]
theorem Wz (h:∀ a∈l,∃ s,fH B w a s):(l.flatMap Cl).length<=l.length*100000101:=by
 induction l with
 |nil=>simp
 |cons a l ih =>
  have h1:=ih fun x hx=>h x (by simp [hx]);obtain⟨s,hs⟩:=h a sM;have h2:(Cl a).length<=100000101:=by
   unfold Cl;cases ht:aP a with
   |none=>simp
   |some t =>have:=Mp ht hs;simp;omega
  rw [Dx,Ah,A8,Nat.add_mul];omega
theorem F0.acts {v:ZC} (h:F0 B w v l):∀ a∈l,∃ s,fH B w a s:=fun a ha=>by obtain⟨_,_,_,_,_,h4⟩:=h;obtain⟨b,off,_,_,hx⟩:=h4 (fun e=>by rw [e] at ha;cases ha);obtain⟨j,hj⟩:=Dj.1 ha;obtain⟨s,_,hs⟩:=hx j a hj;exact⟨s,hs⟩
def Hdv:Prop:=∀ (a:Q02) (s:eG) (W:ZB),Gc W->fH W W a s->ZE prog 26 #[.agg (As a s).toArray] W (Ret W (bU (aP a)))
theorem Ptr (AT:Hdv) (v:Q01) (s:aS) (w:ZB) (hG:Gc w) (h:aG w w v s) : ZE prog 35 #[.agg (Al v s).toArray] w (Ret w (iQ (CH.bare v))):=by
 obtain⟨R,hR⟩:∃ R,Hid (iQ (CH.bare v)=R):=⟨_,Aa rfl⟩
 rw [hR.out];obtain⟨va,v1,v2⟩:=s;have hS:=h.small;have hA:F0 w w va v.acts:=h.acts;obtain⟨aa,ca,rfl,ha1,ha2,ha3⟩:=id hA;dsimp only [Al];have D:=fun W=>Cvh v.prev W (Af hS.prev dC);have hl:=Aa (R5 hS);have hll:=Aa (Wz hA.acts);have hR1:=hR.out;rw [Tf] at hR1;clear hR;generalize hN:v.acts.length=N at *;obtain⟨b1,h1⟩:∃ b,ZH (0<=v.authority)=b:=⟨_,rfl⟩
 obtain⟨b2,h2⟩:∃ b,ZH (v.authority<6)=b:=⟨_,rfl⟩
 obtain⟨b3,h3⟩:∃ b,ZH (1<=v.number)=b:=⟨_,rfl⟩
 obtain⟨b4,h4⟩:∃ b,ZH (v.number<=200)=b:=⟨_,rfl⟩
 obtain⟨b5,h5⟩:∃ b,ZH (0<=v.pos)=b:=⟨_,rfl⟩
 obtain⟨b6,h6⟩:∃ b,ZH (v.pos<=144001439)=b:=⟨_,rfl⟩
 obtain⟨b7,h7⟩:∃ b,ZH ((N:Int)<=40)=b:=⟨_,rfl⟩
 obtain⟨b8,h8⟩:∃ b,(v.number==1)=b:=⟨_,rfl⟩
 obtain⟨b10,h10⟩:∃ b,ay v.prev=b:=⟨_,rfl⟩
 rw [h1,h2,h3,h4,h5,h6,h7,h8,h10] at hR1;rw [h10] at D;have D:=Aa D;have HA:=Aa hA;have HS:=Aa hS;have HN:=Aa hN;have HA3:=Aa ha3;clear hN hS hA h ha3 h10;have hR1:=Aa hR1;have hB0:=fun o=>(Ac _ w).alloc nR o;have hW:=fun o=>Aw w o;rcases (by cases b1 <;> cases b2 <;> cases b3 <;> cases b4 <;> cases b5 <;> cases b6 <;> cases b7 <;> simp:(b1=false)\/(b1=true/\b2=false)\/(b1=true/\b2=true/\b3=false)\/(b1=true/\b2=true/\b3=true/\b4=false)\/(b1=true/\b2=true/\b3=true/\b4=true/\b5=false)\/(b1=true/\b2=true/\b3=true/\b4=true/\b5=true/\b6=false)\/(b1=true/\b2=true/\b3=true/\b4=true/\b5=true/\b6=true/\b7=false)\/(b1=true/\b2=true/\b3=true/\b4=true/\b5=true/\b6=true/\b7=true)) with rfl|⟨rfl,rfl⟩|⟨rfl,rfl,rfl⟩|⟨rfl,rfl,rfl,rfl⟩|⟨rfl,rfl,rfl,rfl,rfl⟩|⟨rfl,rfl,rfl,rfl,rfl,rfl⟩|⟨rfl,rfl,rfl,rfl,rfl,rfl,rfl⟩|⟨rfl,rfl,rfl,rfl,rfl,rfl,rfl⟩;iterate 7 ·go_enter func35,ntmps35;go_wp2_with fail;refine Aj (Aq rfl _ _ _) rfl ?_;exact⟨by rw [<- hR1.out];rfl,(hB0 _)⟩
 have te:=Aa (G4 v.prev);have hR2:Hid (iQ (if (b8 != v.prev.isEmpty||(!v.prev.isEmpty&&!b10))=true then none else (fE v.acts).map (CH.words (Fl v)++[10]++·))=R):=Aa (by rw [<- hR1.out];cases v.prev <;> rfl);clear hR1;obtain⟨b9,h9⟩:∃ b,v.prev.isEmpty=b:=⟨_,rfl⟩
 rw [h9] at hR2;have hbW:=fun o=>Aa (Aw w o);rcases (by cases b8 <;> cases b9 <;> cases b10 <;> simp:(b8=true/\b9=false)\/(b8=false/\b9=true)\/(b8=false/\b9=false/\b10=false)\/(b8=true/\b9=true)\/(b8=false/\b9=false/\b10=true)) with⟨rfl,rfl⟩|⟨rfl,rfl⟩|⟨rfl,rfl,rfl⟩|⟨rfl,rfl⟩|⟨rfl,rfl,rfl⟩;·exact FD134
 ·exact FD134
 ·go_enter func35,ntmps35;go_wp2_with fail;refine CmZ (D.out _) fun w1 hb1=>?_;clear D;go_wp2;refine Aj (Aq rfl _ _ _) rfl ?_;exact⟨by rw [<- hR2.out];rfl,(hB0 _).trans (hb1.mono sM)⟩
 ·go_enter func35,ntmps35;go_wp2_with fail;have hB1:=hB0 (.cells #[↑v.authority,↑v.number,↑v.pos,↑v.prev,.slice aa N ca,↑v.sel.index,v1,v2] 38);have hlt1:w.heap.size<(w.alloc (.cells #[↑v.authority,↑v.number,↑v.pos,↑v.prev,.slice aa N ca,↑v.sel.index,v1,v2] 38)).heap.size:=sM;have k4:(w.alloc (.cells #[↑v.authority,↑v.number,↑v.pos,↑v.prev,.slice aa N ca,↑v.sel.index,v1,v2] 38)).cell? ⟨w,4,none⟩=some (.slice aa N ca):=Ab (Aw w _) 4;have hXs:w.heap.size+1=(w.alloc (.cells #[↑v.authority,↑v.number,↑v.pos,↑v.prev,.slice aa N ca,↑v.sel.index,v1,v2] 38)).heap.size:=sM;rw [hXs];generalize w.alloc (.cells #[↑v.authority,↑v.number,↑v.pos,↑v.prev,.slice aa N ca,↑v.sel.index,v1,v2] 38)=W1 at *;clear hXs hB0 hW hbW D;exact FD1
 ·go_enter func35,ntmps35;go_wp2_with fail;refine CmZ (D.out _) fun W1 hb1=>?_;have hB1:Below w w W1:=(hB0 _).trans (hb1.mono sM);have hblk:=(hb1.block w sM).trans (hW _);have hlt1:w.heap.size<W1.heap.size:=(aZ hblk)
  have k0:W1.cell? ⟨w,0,none⟩=some ↑v.authority:=Ab hblk 0;have k1:W1.cell? ⟨w,1,none⟩=some ↑v.number:=Ab hblk 1;have k2:W1.cell? ⟨w,2,none⟩=some ↑v.pos:=Ab hblk 2;have k3:W1.cell? ⟨w,3,none⟩=some ↑v.prev:=Ab hblk 3;have k4:W1.cell? ⟨w,4,none⟩=some (.slice aa N ca):=Ab hblk 4;clear hb1 hblk hB0 hW hbW D;go_wp2_with fail;exact FD1
theorem I38 (a:Q02) (s:eG) (w:ZB) (hG:Gc w) (h:fH w w a s) (U:∀ W,Below w w W->ZE prog 53 #[.agg (As a s).toArray] W (Ret W (.bool (CH.unused a)))) : ZE prog 26 #[.agg (As a s).toArray] w (Ret w (bU (aP a))):=by
 obtain⟨R,hR⟩:∃ R,Hid (bU (aP a)=R):=⟨_,Aa rfl⟩
 rw [hR.out];have HH:=Aa fun (W:ZB) (hb:Below w w W)=>(h.below hb nR).mono hb.size;have hB0:=fun o=>(Ac _ w).alloc nR o;have HS:=Aa h.small;obtain⟨vn,vk,vm,vp,vj⟩:=s;clear h;generalize hC:As a { vn:=vn,vk:=vk,vm:=vm,vp:=vp,vj:=vj }=C at U ⊢;have hlen:(prog.info? 73).map (·.size)=some C.length:=by rw [<- hC];kernel_rfl
 have hC:=Aa hC;have hr0:=Aa (Bp w C 73);have U:=Aa U;obtain⟨u,hu⟩:∃ u,CH.unused a=u:=⟨_,rfl⟩
 rw [hu] at U;have hu:=Aa hu;go_enter func26,ntmps26;go_wp2_with (refine Bd rfl 73 _ rfl w 0 rfl C _ hr0.out underlying73 rfl hlen ?_)
 refine CmZ (U.out _ (hB0 _)) fun w1 hb1=>?_;clear U;have hB1:Below w w w1:=(hB0 _).trans (hb1.mono sM);have hlt1:w.heap.size<w1.heap.size:=Ae sM hb1.size;have hr1:w1.rangeAt w 0 C:=A6 hr0.out hb1 sM;rw [<- hC.out] at hr1;have k0:w1.cell? ⟨w,0,none⟩=some ↑a.kind:=hr1 0 _ rfl;have r1:w1.rangeAt w 1 (A5 a.change vn++(Av a.measure vk++(Br a.licence vm vp++(Ax a.holding vj++[aA a.id,aJ a.n])))):=Cx (l:=[aJ a.kind]) hr1 1 rfl;have r6:=Cx r1 6 rfl;have r18:=Cx r6 18 rfl;have r25:=Cx r18 25 rfl;have r35:=Cx r25 35 rfl;have r1:=Aa (G1 r1);have r6:=Aa (G1 r6);have r18:=Aa (G1 r18);have r25:=Aa (G1 r25);have r35:=Aa r35;clear hb1 hB0 hr0 hr1 hC hlen;cases u with
 |false =>go_wp2;refine Aj (Aq rfl _ _ _) rfl ?_;exact⟨by rw [<- hR.out];unfold aP;rw [hu.out];rfl,hB1⟩
 |true =>
  rcases At2 a.kind with hk|hk|hk|hk|hk|hk|hk|hk
  ·rw [hk] at k0;have hR1:Hid (bU ((bQ a.change).map (([99,104,97,110,103,101,32]:Q00)++·))=R):=Aa (by rw [<- hR.out];unfold aP;rw [hu.out,hk];rfl);have T:=Crs vn a.change w1 (hG.below hB1) (HH.out w1 hB1).names HS.out.change HS.out.pos.1 HS.out.pos.2;obtain⟨t,ht⟩:∃ t,bQ a.change=t:=⟨_,rfl⟩
   have hl:∀ x,t=some x->x.length<=1000000:=fun x hx=>Vi (ht.trans hx) HS.out.change HS.out.pos;rw [ht] at T hR1;clear ht;have hcl:(prog.info? 64).map (·.size)=some (A5 a.change vn).length:=kR;generalize A5 a.change vn=CC at *;have T:=Aa T;go_wp2_with (refine Bd rfl 64 _ rfl w 1 rfl CC _ r1.out underlying64 rfl hcl ?_)
   refine CmZ T.out fun w2 hb2=>?_;clear T;cases t with
   |none =>exact FD38
   |some t =>have hl:=hl t rfl;have hl4:¬ (9223372036854775807<7+t.length):=oM;exact FD38
  ·rw [hk] at k0;have hR1:Hid (bU ((dh a.measure).map (([109,101,97,115,117,114,101,32]:Q00)++·))=R):=Aa (by rw [<- hR.out];unfold aP;rw [hu.out,hk];rfl);have T:=Vr a.measure vk w1 (hG.below hB1).gl (HH.out w1 hB1).meas;obtain⟨t,ht⟩:∃ t,dh a.measure=t:=⟨_,rfl⟩
   have hl:∀ x,t=some x->x.length<=100000000:=fun x hx=>S6 (ht.trans hx) (HH.out w1 hB1).meas;rw [ht] at T hR1;clear ht;have hcl:(prog.info? 69).map (·.size)=some (Av a.measure vk).length:=kR;generalize Av a.measure vk=CC at *;have T:=Aa T;go_wp2_with (refine Bd rfl 69 _ rfl w 6 rfl CC _ r6.out underlying69 rfl hcl ?_)
   refine CmZ T.out fun w2 hb2=>?_;clear T;cases t with
   |none =>exact FD38
   |some t =>have hl:=hl t rfl;have hl4:¬ (9223372036854775807<8+t.length):=oM;exact FD38
  ·rw [hk] at k0;have hR1:Hid (bU (if aO a.licence=true then some (CH.words (Lw a.licence)++[59]) else none)=R):=Aa (by rw [<- hR.out];unfold aP;rw [hu.out,hk];rfl);have hcl:(prog.info? 71).map (·.size)=some (Br a.licence vm vp).length:=kR;have h1c:∀ v∈Br a.licence vm vp,v.oneCell'=true:=by
    obtain⟨_,_,e1,_,_⟩:=(HH.out w1 hB1).lm.form;obtain⟨_,_,e2,_,_⟩:=(HH.out w1 hB1).lp.form;change vm=_ at e1;change vp=_ at e2;intro v hv;simp only [Br,Bl,Ci,Et] at hv;rcases hv with rfl|rfl|rfl|rfl|rfl|rfl|rfl;·rfl
    ·rw [e1];rfl
    ·rw [e2];rfl
    all_goals rfl
   have T:=Aa fun (W:ZB) (hb:Below w w W)=>Cst (Br a.licence vm vp) a.licence W ⟨vm,vp,rfl,(HH.out W hb).lm,(HH.out W hb).lp⟩ HS.out.lid HS.out.lm HS.out.lp;have hn1:=Aa (Bp w1 (Br a.licence vm vp) 71);obtain⟨ok,hok⟩:∃ ok,aO a.licence=ok:=⟨_,rfl⟩
   rw [hok] at T hR1;have hok:=Aa hok;generalize hLL:Br a.licence vm vp=LL at *;have hLL:=Aa hLL;have hBa:=fun o=>hB1.alloc hB1.size o;go_wp2_with (first|refine Bd rfl 71 _ rfl w 18 rfl LL _ r18.out underlying71 rfl hcl ?_|refine Bw rfl 71 _ _ rfl LL rfl rfl (by rw [<- hLL.out];rfl) hcl h1c ?_|refine Bd rfl 71 _ rfl w1 0 rfl LL _ hn1.out underlying71 rfl hcl ?_)
   refine CmZ (T.out _ (hBa _)) fun w2 hb2=>?_;clear T;have hB2:Below w w w2:=(hBa _).trans (hb2.mono (hBa _).size);have hr2:w2.rangeAt w1 0 LL:=A6 hn1.out hb2 sM;rw [<- hLL.out] at hr2;cases ok with
   |false =>exact FD63
   |true =>
    have hA2:=HH.out w2 hB2;have hlm:Strs w2 w2 vm a.licence.measures:=hA2.lm;have hlp:Strs w2 w2 vp a.licence.aH:=hA2.lp;obtain⟨q1,q2,q3,q4,q5,q6⟩:=O6 hok.out;obtain⟨am,cm,rfl,_,_⟩:=hlm.form;obtain⟨ap,cp,rfl,_,_⟩:=hlp.form;have g0:w2.cell? ⟨w1,0,none⟩=some (aA a.licence.id):=hr2 0 _ rfl;have g1:w2.cell? ⟨w1,1,none⟩=some (.slice am a.licence.measures.length cm):=hr2 1 _ rfl;have g2:w2.cell? ⟨w1,2,none⟩=some (.slice ap a.licence.aH.length cp):=hr2 2 _ rfl;have g3:w2.cell? ⟨w1,3,none⟩=some ↑a.licence.quota:=hr2 3 _ rfl;have g4:w2.cell? ⟨w1,4,none⟩=some ↑a.licence.uses:=hr2 4 _ rfl;have g5:w2.cell? ⟨w1,5,none⟩=some ↑a.licence.start:=hr2 5 _ rfl;have g6:w2.cell? ⟨w1,6,none⟩=some ↑a.licence.aF:=hr2 6 _ rfl;have hwl:=Rn hok.out HS.out.lid HS.out.lm HS.out.lp;have hWV:Im w2 w2 (Lw a.licence) [.iface 9 (aA ([108,105,99,101,110,99,101]:Q00)),.iface 9 (aA a.licence.id),.iface 3 ↑a.licence.quota,.iface 3 ↑a.licence.uses,.iface 3 ↑a.licence.start,.iface 3 ↑a.licence.aF,.iface 3 ↑a.licence.measures.length,.iface 22 (.slice am a.licence.measures.length cm),.iface 22 (.slice ap a.licence.aH.length cp)] := ⟨rfl,rfl,⟨rfl,q3⟩,⟨rfl,q4⟩,⟨rfl,q5⟩,⟨rfl,q6⟩,⟨rfl,oM,oM⟩,⟨_,rfl,hlm,oM⟩,⟨_,rfl,hlp,oM⟩,trivial⟩
    have WN:=Aa fun T=>K3 (Lw a.licence) _ T 9 w2 (hG.below hB2).gl hWV rfl dC oM;generalize hWW:CH.words (Lw a.licence)=WW at *;have hl4:¬ (9223372036854775807<WW.length+1):=oM;have hR2:Hid (bU (some (WW++[59]))=R):=Aa (by rw [<- hR1.out,Au rfl]);clear hR1 hr2 hWV hlm hlp hA2 q1 q2 q3 q4 q5 q6 hn1 hLL;generalize a.licence.measures.length=nm at *;generalize a.licence.aH.length=np at *;exact FD62
  ·rw [hk] at k0;have hR1:Hid (bU (if bC a.holding=true then some (CH.words (J2 a.holding)++[59]) else none)=R):=Aa (by rw [<- hR.out];unfold aP;rw [hu.out,hk];rfl);have hcl:(prog.info? 59).map (·.size)=some (Ax a.holding vj).length:=kR;have h1c:∀ v∈Ax a.holding vj,v.oneCell'=true:=by
    obtain⟨_,_,e1,_,_⟩:=(HH.out w1 hB1).hj.form;change vj=_ at e1;intro v hv;simp only [Ax,Bl,Ci,Et] at hv;rcases hv with rfl|rfl|rfl|rfl|rfl|rfl|rfl|rfl|rfl|rfl;·rfl
    ·rfl
    ·rfl
    ·rfl
    ·rfl
    ·rw [e1];rfl
    all_goals rfl
   have hn1:=Aa (Bp w1 (Ax a.holding vj) 59);obtain⟨ok,hok⟩:∃ ok,bC a.holding=ok:=⟨_,rfl⟩
   rw [hok] at hR1;have hok:=Aa hok;generalize hLL:Ax a.holding vj=LL at *;have nV:LL.length=10:=by rw [<- hLL];rfl
   have hLL:=Aa hLL;have hBa:=fun o=>hB1.alloc hB1.size o;go_wp2_with (first|refine Bd rfl 59 _ rfl w 25 rfl LL _ r25.out underlying59 rfl hcl ?_|refine Bw rfl 59 _ _ rfl LL rfl rfl (by rw [<- hLL.out];rfl) hcl h1c ?_|refine Bd rfl 59 _ rfl w1 0 rfl LL _ hn1.out underlying59 rfl hcl ?_)
   rw [Kk LL _ (by rw [nV];rfl)];have hBb:Below w w ((w1.alloc (.cells LL.toArray 59)).alloc (.cells LL.toArray 59)):=(hBa _).alloc (hBa _).size _;have T:=Aa (Ca8 (.slice (some ⟨w1+1,0,none⟩) 1 1) a.holding ((w1.alloc (.cells LL.toArray 59)).alloc (.cells LL.toArray 59)) ⟨w1+1,vj,rfl,sM,fun j x hj=>by rw [hLL.out] at hj;have:=Bp (w1.alloc (.cells LL.toArray 59)) LL 59 j x hj;rwa [Bf,Dt] at this,(HH.out _ hBb).hj⟩ HS.out.hold);refine T.out.mono ?_;rw [hok.out];rintro e w2 ⟨rfl,hb2⟩;clear T;have hB2:Below w w w2:=hBb.trans (hb2.mono hBb.size);have hr2:w2.rangeAt w1 0 LL:=A6 (M4 hn1.out _) hb2 (by simp;omega);rw [<- hLL.out] at hr2;clear nV;cases ok with
   |false =>exact FD63
   |true =>
    have hA2:=HH.out w2 hB2;have hlj:Strs w2 w2 vj a.holding.joint:=hA2.hj;obtain⟨q1,q3,q4,q5,q6⟩:=O7 hok.out;obtain⟨aj,cj,rfl,_,_⟩:=hlj.form;have g0:w2.cell? ⟨w1,0,none⟩=some (aA a.holding.id):=hr2 0 _ rfl;have g1:w2.cell? ⟨w1,1,none⟩=some (aA a.holding.company):=hr2 1 _ rfl;have g2:w2.cell? ⟨w1,2,none⟩=some (aA a.holding.holder):=hr2 2 _ rfl;have g3:w2.cell? ⟨w1,3,none⟩=some (aA a.holding.ah):=hr2 3 _ rfl;have g4:w2.cell? ⟨w1,4,none⟩=some (aA a.holding.aC):=hr2 4 _ rfl;have g5:w2.cell? ⟨w1,5,none⟩=some (.slice aj a.holding.joint.length cj):=hr2 5 _ rfl;have g6:w2.cell? ⟨w1,6,none⟩=some ↑a.holding.capital:=hr2 6 _ rfl;have g7:w2.cell? ⟨w1,7,none⟩=some ↑a.holding.cZ:=hr2 7 _ rfl;have g8:w2.cell? ⟨w1,8,none⟩=some ↑a.holding.start:=hr2 8 _ rfl;have g9:w2.cell? ⟨w1,9,none⟩=some ↑a.holding.stop:=hr2 9 _ rfl;have hwl:=O8 hok.out HS.out.hold;have hWV:Im w2 w2 (J2 a.holding) [.iface 9 (aA ([104,111,108,100,105,110,103]:Q00)),.iface 9 (aA a.holding.id),.iface 9 (aA a.holding.company),.iface 9 (aA a.holding.holder),.iface 9 (aA a.holding.ah),.iface 9 (aA a.holding.aC),.iface 3 ↑a.holding.capital,.iface 3 ↑a.holding.cZ,.iface 3 ↑a.holding.start,.iface 3 ↑a.holding.stop,.iface 22 (.slice aj a.holding.joint.length cj)] := ⟨rfl,rfl,rfl,rfl,rfl,rfl,⟨rfl,q3⟩,⟨rfl,q4⟩,⟨rfl,q5⟩,⟨rfl,q6⟩,⟨_,rfl,hlj,oM⟩,trivial⟩
    have WN:=Aa fun T=>K3 (J2 a.holding) _ T 11 w2 (hG.below hB2).gl hWV rfl dC oM;generalize hWW:CH.words (J2 a.holding)=WW at *;have hl4:¬ (9223372036854775807<WW.length+1):=oM;have hR2:Hid (bU (some (WW++[59]))=R):=Aa (by rw [<- hR1.out,Au rfl]);clear hR1 hr2 hWV hlj hA2 q1 q3 q4 q5 q6 hn1 hLL;generalize a.holding.joint.length=nj at *;exact FD62
  ·rw [hk] at k0;have hR1:Hid (bU (if (CH.ident a.id&&CH.within a.n 144001439)=true then some (CH.words (Ch a)++[59]) else none)=R):=Aa (by rw [<- hR.out];unfold aP Ch;rw [hu.out,hk];rfl);have k35:w1.cell? ⟨w,35,none⟩=some (aA a.id):=r35.out 0 _ rfl;have k36:w1.cell? ⟨w,36,none⟩=some ↑a.n:=r35.out 1 _ rfl;have I:=N4 a.id w1 (Af HS.out.id dC);obtain⟨bi,hbi⟩:∃ b,CH.ident a.id=b:=⟨_,rfl⟩
   rw [hbi] at I hR1;have I:=Aa I;clear hbi;go_wp2_with fail;refine CmZ I.out fun w2 hb2=>?_;have hB2:Below w w w2:=hB1.trans (hb2.mono hB1.size);have m0:=(hb2.cell (p:=⟨w,0,none⟩) hlt1).trans k0;have m35:=(hb2.cell (p:=⟨w,35,none⟩) hlt1).trans k35;have m36:=(hb2.cell (p:=⟨w,36,none⟩) hlt1).trans k36;clear I k0 k35 k36;obtain⟨c1,hc1⟩:∃ b,ZH (0<=a.n)=b:=⟨_,rfl⟩
   obtain⟨c2,hc2⟩:∃ b,ZH (a.n<=144001439)=b:=⟨_,rfl⟩
   have hR2:Hid (bU (if (bi&&(c1&&c2))=true then some (CH.words (Ch a)++[59]) else none)=R):=Aa (by rw [<- hR1.out];unfold CH.within;rw [hc1,hc2]);clear hR1;rcases (by cases bi <;> cases c1 <;> cases c2 <;> simp:(bi=false)\/(bi=true/\c1=false)\/(bi=true/\c1=true/\c2=false)\/(bi=true/\c1=true/\c2=true)) with rfl|⟨rfl,rfl⟩|⟨rfl,rfl,rfl⟩|⟨rfl,rfl,rfl⟩;iterate 3 ·go_wp2;refine Aj (Aq rfl _ _ _) rfl ?_;exact⟨by rw [<- hR2.out];rfl,hB2⟩
   have hmm:=@Ji prog;obtain⟨o1,o2,o3,u1,u2,u3,um⟩:=R0 w2 5 3 7 ([114,101,118,111,107,101]:Q00) ([114,101,112,101,97,108]:Q00) ([101,110,100]:Q00) rfl rfl rfl;have ul:=C5 Ty underlying117 (.string ⟨#[]⟩) V6 um 5;have ule:((Cd (5:Int) [((5:Int),aA ([114,101,118,111,107,101]:Q00)),(3,aA ([114,101,112,101,97,108]:Q00)),(7,aA ([101,110,100]:Q00))] 0).map (·.2)).getD (.string ⟨#[]⟩)=aA ([114,101,118,111,107,101]:Q00):=rfl;rw [ule] at ul;have hBX:Below w2 w2 ((((w2.alloc (.map #[] 0)).putObj w2.heap.size o1).putObj w2.heap.size o2).putObj w2.heap.size o3):=B8 (B8 (B8 ((Ac _ w2).alloc nR _) nR _) nR _) nR _;have hXs:((((w2.alloc (.map #[] 0)).putObj w2.heap.size o1).putObj w2.heap.size o2).putObj w2.heap.size o3).heap.size=w2.heap.size+1:=sM;have hl2:w.heap.size<w2.heap.size:=Ae hlt1 hb2.size;have x0:=(hBX.cell (p:=⟨w,0,none⟩) hl2).trans m0;have x35:=(hBX.cell (p:=⟨w,35,none⟩) hl2).trans m35;have x36:=(hBX.cell (p:=⟨w,36,none⟩) hl2).trans m36;have hBX:=Aa (hB2.trans (hBX.mono hB2.size));have hXs:=Aa hXs;have hR3:Hid (bU (some (CH.words (Ch a)++[59]))=R):=Aa (by rw [<- hR2.out];rfl);clear um ule hR2;go_wp2_with fail;rw [<- hXs.out];clear u1 u2 u3 ul hmm hXs;generalize ((((w2.alloc (.map #[] 0)).putObj w2.heap.size o1).putObj w2.heap.size o2).putObj w2.heap.size o3)=X at *;have hwl:=Mx HS.out.id HS.out.n;have hWV:Im X X (Ch a) [.iface 9 (aA ([114,101,118,111,107,101]:Q00)),.iface 9 (aA a.id),.iface 3 ↑a.n]:=by exact FD127
   have WN:=Aa fun T=>K3 (Ch a) _ T 3 X (hG.below hBX.out).gl hWV rfl dC oM;generalize hWW:CH.words (Ch a)=WW at *;have hl4:¬ (9223372036854775807<WW.length+1):=oM;refine CmZ (WN.out _) fun w3 hb3=>?_;clear WN hWV;go_wp2;refine Aj (Aq rfl _ _ _) rfl ?_;exact⟨by rw [<- hR3.out];rfl,(hBX.out.alloc hBX.out.size _).trans (hb3.mono (hBX.out.alloc hBX.out.size _).size)⟩
  ·rw [hk] at k0;have hR1:Hid (bU (if (CH.ident a.id&&CH.within a.n 100000)=true then some (CH.words (Ch a)++[59]) else none)=R):=Aa (by rw [<- hR.out];unfold aP Ch;rw [hu.out,hk];rfl);have k35:w1.cell? ⟨w,35,none⟩=some (aA a.id):=r35.out 0 _ rfl;have k36:w1.cell? ⟨w,36,none⟩=some ↑a.n:=r35.out 1 _ rfl;have I:=N4 a.id w1 (Af HS.out.id dC);obtain⟨bi,hbi⟩:∃ b,CH.ident a.id=b:=⟨_,rfl⟩
   rw [hbi] at I hR1;have I:=Aa I;clear hbi;go_wp2_with fail;refine CmZ I.out fun w2 hb2=>?_;have hB2:Below w w w2:=hB1.trans (hb2.mono hB1.size);have m0:=(hb2.cell (p:=⟨w,0,none⟩) hlt1).trans k0;have m35:=(hb2.cell (p:=⟨w,35,none⟩) hlt1).trans k35;have m36:=(hb2.cell (p:=⟨w,36,none⟩) hlt1).trans k36;clear I k0 k35 k36;obtain⟨c1,hc1⟩:∃ b,ZH (0<=a.n)=b:=⟨_,rfl⟩
   obtain⟨c2,hc2⟩:∃ b,ZH (a.n<=100000)=b:=⟨_,rfl⟩
   have hR2:Hid (bU (if (bi&&(c1&&c2))=true then some (CH.words (Ch a)++[59]) else none)=R):=Aa (by rw [<- hR1.out];unfold CH.within;rw [hc1,hc2]);clear hR1;rcases (by cases bi <;> cases c1 <;> cases c2 <;> simp:(bi=false)\/(bi=true/\c1=false)\/(bi=true/\c1=true/\c2=false)\/(bi=true/\c1=true/\c2=true)) with rfl|⟨rfl,rfl⟩|⟨rfl,rfl,rfl⟩|⟨rfl,rfl,rfl⟩;iterate 3 ·go_wp2;refine Aj (Aq rfl _ _ _) rfl ?_;exact⟨by rw [<- hR2.out];rfl,hB2⟩
   have hmm:=@Ji prog;obtain⟨o1,o2,o3,u1,u2,u3,um⟩:=R0 w2 5 3 7 ([114,101,118,111,107,101]:Q00) ([114,101,112,101,97,108]:Q00) ([101,110,100]:Q00) rfl rfl rfl;have ul:=C5 Ty underlying117 (.string ⟨#[]⟩) V6 um 3;have ule:((Cd (3:Int) [((5:Int),aA ([114,101,118,111,107,101]:Q00)),(3,aA ([114,101,112,101,97,108]:Q00)),(7,aA ([101,110,100]:Q00))] 0).map (·.2)).getD (.string ⟨#[]⟩)=aA ([114,101,112,101,97,108]:Q00):=rfl;rw [ule] at ul;have hBX:Below w2 w2 ((((w2.alloc (.map #[] 0)).putObj w2.heap.size o1).putObj w2.heap.size o2).putObj w2.heap.size o3):=B8 (B8 (B8 ((Ac _ w2).alloc nR _) nR _) nR _) nR _;have hXs:((((w2.alloc (.map #[] 0)).putObj w2.heap.size o1).putObj w2.heap.size o2).putObj w2.heap.size o3).heap.size=w2.heap.size+1:=sM;have hl2:w.heap.size<w2.heap.size:=Ae hlt1 hb2.size;have x0:=(hBX.cell (p:=⟨w,0,none⟩) hl2).trans m0;have x35:=(hBX.cell (p:=⟨w,35,none⟩) hl2).trans m35;have x36:=(hBX.cell (p:=⟨w,36,none⟩) hl2).trans m36;have hBX:=Aa (hB2.trans (hBX.mono hB2.size));have hXs:=Aa hXs;have hR3:Hid (bU (some (CH.words (Ch a)++[59]))=R):=Aa (by rw [<- hR2.out];rfl);clear um ule hR2;go_wp2_with fail;rw [<- hXs.out];clear u1 u2 u3 ul hmm hXs;generalize ((((w2.alloc (.map #[] 0)).putObj w2.heap.size o1).putObj w2.heap.size o2).putObj w2.heap.size o3)=X at *;have hwl:=Mx HS.out.id HS.out.n;have hWV:Im X X (Ch a) [.iface 9 (aA ([114,101,112,101,97,108]:Q00)),.iface 9 (aA a.id),.iface 3 ↑a.n]:=by exact FD127
   have WN:=Aa fun T=>K3 (Ch a) _ T 3 X (hG.below hBX.out).gl hWV rfl dC oM;generalize hWW:CH.words (Ch a)=WW at *;have hl4:¬ (9223372036854775807<WW.length+1):=oM;refine CmZ (WN.out _) fun w3 hb3=>?_;clear WN hWV;go_wp2;refine Aj (Aq rfl _ _ _) rfl ?_;exact⟨by rw [<- hR3.out];rfl,(hBX.out.alloc hBX.out.size _).trans (hb3.mono (hBX.out.alloc hBX.out.size _).size)⟩
  ·rw [hk] at k0;have hR1:Hid (bU (if (CH.ident a.id&&CH.within a.n 100000)=true then some (CH.words (Ch a)++[59]) else none)=R):=Aa (by rw [<- hR.out];unfold aP Ch;rw [hu.out,hk];rfl);have k35:w1.cell? ⟨w,35,none⟩=some (aA a.id):=r35.out 0 _ rfl;have k36:w1.cell? ⟨w,36,none⟩=some ↑a.n:=r35.out 1 _ rfl;have I:=N4 a.id w1 (Af HS.out.id dC);obtain⟨bi,hbi⟩:∃ b,CH.ident a.id=b:=⟨_,rfl⟩
   rw [hbi] at I hR1;have I:=Aa I;clear hbi;go_wp2_with fail;refine CmZ I.out fun w2 hb2=>?_;have hB2:Below w w w2:=hB1.trans (hb2.mono hB1.size);have m0:=(hb2.cell (p:=⟨w,0,none⟩) hlt1).trans k0;have m35:=(hb2.cell (p:=⟨w,35,none⟩) hlt1).trans k35;have m36:=(hb2.cell (p:=⟨w,36,none⟩) hlt1).trans k36;clear I k0 k35 k36;obtain⟨c1,hc1⟩:∃ b,ZH (0<=a.n)=b:=⟨_,rfl⟩
   obtain⟨c2,hc2⟩:∃ b,ZH (a.n<=100000)=b:=⟨_,rfl⟩
   have hR2:Hid (bU (if (bi&&(c1&&c2))=true then some (CH.words (Ch a)++[59]) else none)=R):=Aa (by rw [<- hR1.out];unfold CH.within;rw [hc1,hc2]);clear hR1;rcases (by cases bi <;> cases c1 <;> cases c2 <;> simp:(bi=false)\/(bi=true/\c1=false)\/(bi=true/\c1=true/\c2=false)\/(bi=true/\c1=true/\c2=true)) with rfl|⟨rfl,rfl⟩|⟨rfl,rfl,rfl⟩|⟨rfl,rfl,rfl⟩;iterate 3 ·go_wp2;refine Aj (Aq rfl _ _ _) rfl ?_;exact⟨by rw [<- hR2.out];rfl,hB2⟩
   have hmm:=@Ji prog;obtain⟨o1,o2,o3,u1,u2,u3,um⟩:=R0 w2 5 3 7 ([114,101,118,111,107,101]:Q00) ([114,101,112,101,97,108]:Q00) ([101,110,100]:Q00) rfl rfl rfl;have ul:=C5 Ty underlying117 (.string ⟨#[]⟩) V6 um 7;have ule:((Cd (7:Int) [((5:Int),aA ([114,101,118,111,107,101]:Q00)),(3,aA ([114,101,112,101,97,108]:Q00)),(7,aA ([101,110,100]:Q00))] 0).map (·.2)).getD (.string ⟨#[]⟩)=aA ([101,110,100]:Q00):=rfl;rw [ule] at ul;have hBX:Below w2 w2 ((((w2.alloc (.map #[] 0)).putObj w2.heap.size o1).putObj w2.heap.size o2).putObj w2.heap.size o3):=B8 (B8 (B8 ((Ac _ w2).alloc nR _) nR _) nR _) nR _;have hXs:((((w2.alloc (.map #[] 0)).putObj w2.heap.size o1).putObj w2.heap.size o2).putObj w2.heap.size o3).heap.size=w2.heap.size+1:=sM;have hl2:w.heap.size<w2.heap.size:=Ae hlt1 hb2.size;have x0:=(hBX.cell (p:=⟨w,0,none⟩) hl2).trans m0;have x35:=(hBX.cell (p:=⟨w,35,none⟩) hl2).trans m35;have x36:=(hBX.cell (p:=⟨w,36,none⟩) hl2).trans m36;have hBX:=Aa (hB2.trans (hBX.mono hB2.size));have hXs:=Aa hXs;have hR3:Hid (bU (some (CH.words (Ch a)++[59]))=R):=Aa (by rw [<- hR2.out];rfl);clear um ule hR2;go_wp2_with fail;rw [<- hXs.out];clear u1 u2 u3 ul hmm hXs;generalize ((((w2.alloc (.map #[] 0)).putObj w2.heap.size o1).putObj w2.heap.size o2).putObj w2.heap.size o3)=X at *;have hwl:=Mx HS.out.id HS.out.n;have hWV:Im X X (Ch a) [.iface 9 (aA ([101,110,100]:Q00)),.iface 9 (aA a.id),.iface 3 ↑a.n]:=by exact FD127
   have WN:=Aa fun T=>K3 (Ch a) _ T 3 X (hG.below hBX.out).gl hWV rfl dC oM;generalize hWW:CH.words (Ch a)=WW at *;have hl4:¬ (9223372036854775807<WW.length+1):=oM;refine CmZ (WN.out _) fun w3 hb3=>?_;clear WN hWV;go_wp2;refine Aj (Aq rfl _ _ _) rfl ?_;exact⟨by rw [<- hR3.out];rfl,(hBX.out.alloc hBX.out.size _).trans (hb3.mono (hBX.out.alloc hBX.out.size _).size)⟩
  ·obtain⟨n1,n2,n4,n6,n5,n3,n7⟩:=hk;have b1:(a.kind==1)=false:=by simpa using n1
   have b2:(a.kind==2)=false:=by simpa using n2
   have b4:(a.kind==4)=false:=by simpa using n4
   have b6:(a.kind==6)=false:=by simpa using n6
   have b5:(a.kind==5)=false:=by simpa using n5
   have b3:(a.kind==3)=false:=by simpa using n3
   have b7:(a.kind==7)=false:=by simpa using n7
   have hR1:Hid (bU none=R):=Aa (by rw [<- hR.out];unfold aP;rw [hu.out,if_neg dC,if_neg n1,if_neg n2,if_neg n4,if_neg n6,if_neg oM]);clear n1 n2 n4 n6 n5 n3 n7;exact FD100
attribute [local go_sem] Jt
theorem Ur (v:ZC) (ls:List Q00) (w:ZB) (hG:Gl w) (hv:Strs w w v ls) (hl:∀ l∈ls,l.length<=9223372036854775807) : ZE prog 120 #[v] w (Ret w (.bool (ls.any fun l=>!ay l))):=by have hC:=Uv _ _ _ Mru v ls w hG hv hl;have HC:=Aa hC;clear hC hv hl;go_enter func120,ntmps120;go_wp2_with fail;refine CmZ HC.out fun w1 hb=>?_;clear HC;exact FD130
def Mf (pub m:Q00) (idx:Int) (sig path:List Q00):Bool := sig.length==18&&(ZH (path.length<=8)&&(!(sig.any fun l=>!ay l)&&(!(path.any fun l=>!ay l)&&(ZH (0<=idx)&&(ZH (idx<2 ^ path.length) && dF pub (2 ^ path.length) idx.toNat (CH.dl (CH.ends sig m)) path)))))
structure xk (wq:ZB) (B i:Nat) (v1 v2:ZC) (sig:List Q00) (pre:List DP) (W:ZB):Prop where
 le:wq.heap.size+2<=W.heap.size
 box:W.heap[B]?=some (.cells #[↑i,v1,v2] 36 (0,0))
 ends:∃ v,W.heap[wq.heap.size]?=some (.cells #[v] 22 (0,0))/\At (wq+2) W v (pre.map fun x=>CH.chain (15 - x.2.val) (sig.getD x.1.val []))
 below:Below wq wq W
theorem xk.own (wq:ZB) (B i:Nat) (v1 v2:ZC) (sig:List Q00) (hBq:B<wq.heap.size) (C:Nat) (hC:wq.heap.size+2<=C):OwnFrom C (xk wq B i v1 v2 sig):=by intro pre W W' row h hg hr;obtain⟨h1,h2,⟨v,h5,h6⟩,h7⟩:=h;have key:∀ k,k<wq.heap.size+2->W'.heap[k]?=W.heap[k]?:=fun k hk=>hg.block k oM (fun e=>by have:=(hr k e.symm).1;omega);have hsz:=hg.size;exact⟨oM,(key B oM).trans h2,⟨v,(key _ oM).trans h5,Jn h6 hg (fun r e=>(hr r e).2)⟩, ⟨hg.os.trans h7.os,hg.tape.trans h7.tape,hg.output.trans h7.output,Af h7.size hsz,fun k hk=>(key k oM).trans (h7.block k hk)⟩⟩
theorem Env (h:Nat) (hh:h<=8):IntKind.i64.wrap ((2:Int) ^ h)=(2:Int) ^ h:=by rcases h with _|_|_|_|_|_|_|_|_|h;all_goals first|decide +kernel|omega
theorem Pse (sig:List Q00) (m:Q00) (hs:sig.length=18):CH.ends sig m=(eX m).map fun x=>CH.chain (15 - x.2.val) (sig.getD x.1.val []):=by
 apply Jf;intro k;unfold CH.ends;have hl:=CH.length_digits m;by_cases hk:k<18
 ·obtain⟨d,hg⟩:∃ d,(CH.digits m)[k]?=some d:=⟨_,Ad oM⟩
  obtain⟨t,hg2⟩:∃ t,sig[k]?=some t:=⟨_,Ad oM⟩
  obtain⟨hd,h2⟩:=jQ m k d hk hg;have hgd:sig.getD k []=t:=by simp [hg2]
  have hz:((CH.digits m).zip sig)[k]?=some (d,t):=List.getElem?_zip_eq_some.2 ⟨hg,hg2⟩;rw [Dq,Dq,h2,hz];simp only [Gq,hgd]
 ·rw [F8,F8];·rw [Bh,dS];omega
  ·rw [Bh,List.length_zip,hl];omega
theorem Ggx (sig:List Q00) (m:Q00) (hs:∀ l∈sig,l.length<=1000000):∀ l∈CH.ends sig m,l.length<=1000000:=by
 intro l hl;unfold CH.ends at hl;obtain⟨⟨d,t⟩,hx,rfl⟩:=Dz.1 hl;have ht:=hs t (List.of_mem_zip hx).2;cases h:15 - d with
 |zero=>simpa [CH.chain,h] using ht
 |succ n=>simp only [h];rw [iP];simp [dL]
theorem Bad (w:ZB) (o1 o2:Obj):((w.alloc o1).alloc o2).heap[w.heap.size]?=some o1/\((w.alloc o1).alloc o2).heap[w.heap.size+1]?=some o2:=by exact FD164
theorem Heq (pub m:Q00) (idx:Int) (v1 v2:ZC) (sig path:List Q00) (w:ZB) (hG:Gl w) (hm:m.length<=1000000) (h1:Strs w.heap.size w v1 sig) (h2:Strs w.heap.size w v2 path) (hl1:∀ l∈sig,l.length<=1000000) (hl2:∀ l∈path,l.length<=1000000) (hx:-9223372036854775808<=idx/\idx<=9223372036854775807) : ZE prog 67 #[.string ⟨pub.toArray⟩,.string ⟨m.toArray⟩,.agg #[.int .i64 idx,v1,v2]] w (Ret w (.bool (Mf pub m idx sig path))):=by
 have c1:∀ W,Below w.heap.size w W->ZE prog 120 #[v1] W (fun e w'=>e=.returned (.bool (sig.any fun l=>!ay l))/\Below W.heap.size W w'):=fun W hb =>Ur v1 sig W (hG.below hb) ((h1.below hb nR).mono hb.size) (fun l hl=>by have:=hl1 l hl;omega);have c2:∀ W,Below w.heap.size w W->ZE prog 120 #[v2] W (fun e w'=>e=.returned (.bool (path.any fun l=>!ay l))/\Below W.heap.size W w'):=fun W hb =>Ur v2 path W (hG.below hb) ((h2.below hb nR).mono hb.size) (fun l hl=>by have:=hl2 l hl;omega);obtain⟨a1,k1,e1,hk1,vC,JY⟩:=id h1;obtain⟨a2,k2,e2,hk2,vg,-⟩:=id h2;have hsig:sig.length=18->∃ b off,a1=some ⟨b,off,none⟩/\b<w.heap.size/\∀ j l,sig[j]?=some l->w.cell? ⟨b,off+j,none⟩=some (.string ⟨l.toArray⟩):=fun h=>JY (fun e=>by rw [e] at h;simp at h);subst e1 e2;have H1:=Aa h1;have H2:=Aa h2;have HV:Hid (Mf pub m idx sig path=(sig.length==18&&(ZH (path.length<=8)&&(!(sig.any fun l=>!ay l)&&(!(path.any fun l=>!ay l)&&(ZH (0<=idx)&&(ZH (idx<2 ^ path.length) &&
  dF pub (2 ^ path.length) idx.toNat (CH.dl (CH.ends sig m)) path))))))):=rfl
 generalize hV:Mf pub m idx sig path=V at HV;clear h1 h2 hV;generalize hn1:sig.length=n1 at *;generalize hn2:path.length=n2 at *;generalize hb1:(sig.any fun l=>!ay l)=b1 at *;generalize hb2:(path.any fun l=>!ay l)=b2 at *;have r1:∀ (d:Nat) (os:Array Obj),ZE prog 120 #[.slice a1 n1 k1] (Sort.grow (ZI (w.alloc (.cells #[.int .i64 idx,.slice a1 n1 k1,.slice a2 n2 k2] 36)) d) os) fun e w''=>e=.returned (.bool b1)/\∃ p:Regrown,w''=Sort.grow (ZI (w.alloc (.cells #[.int .i64 idx,.slice a1 n1 k1,.slice a2 n2 k2] 36)) p.d) p.os:=fun d os =>Bc (c1 _ ((Cn w _).trans ((D6 _ d os).mono sM)));have r2:∀ (d:Nat) (os:Array Obj),ZE prog 120 #[.slice a2 n2 k2] (Sort.grow (ZI (w.alloc (.cells #[.int .i64 idx,.slice a1 n1 k1,.slice a2 n2 k2] 36)) d) os) fun e w''=>e=.returned (.bool b2)/\∃ p:Regrown,w''=Sort.grow (ZI (w.alloc (.cells #[.int .i64 idx,.slice a1 n1 k1,.slice a2 n2 k2] 36)) p.d) p.os:=fun d os =>Bc (c2 _ ((Cn w _).trans ((D6 _ d os).mono sM)));have k0:∀ (d:Nat) (os:Array Obj),(Sort.grow (ZI (w.alloc (.cells #[.int .i64 idx,.slice a1 n1 k1,.slice a2 n2 k2] 36)) d) os).cell? ⟨w.heap.size,0,none⟩=some (.int .i64 idx):=Ag sM;have k1':∀ (d:Nat) (os:Array Obj),(Sort.grow (ZI (w.alloc (.cells #[.int .i64 idx,.slice a1 n1 k1,.slice a2 n2 k2] 36)) d) os).cell? ⟨w.heap.size,1,none⟩=some (.slice a1 n1 k1):=Ag sM;have k2':∀ (d:Nat) (os:Array Obj),(Sort.grow (ZI (w.alloc (.cells #[.int .i64 idx,.slice a1 n1 k1,.slice a2 n2 k2] 36)) d) os).cell? ⟨w.heap.size,2,none⟩=some (.slice a2 n2 k2):=Ag sM;refine (Jj (n:=4)).1 ?_;refine callsIn_of_wp_marks func67 rfl trivial ?_ rfl;simp only [ntmps67,Ip,A8,Bj,Nat.reduceAdd,Nat.reduceSub,Ig,Ie,I7,Il,Dl,Ea];refine Np.2 ?_;have e51:∀ args W,(callFunc 120 args).run prog W=.ok (.enter 120 args) W:=enters_of func120 kR rfl;have hB0:∀ W',Below (w.alloc (.cells #[.int .i64 idx,.slice a1 n1 k1,.slice a2 n2 k2] 36)).heap.size (w.alloc (.cells #[.int .i64 idx,.slice a1 n1 k1,.slice a2 n2 k2] 36)) W'->Below w.heap.size w W':=fun W' h =>(Cn w _).trans (h.mono sM);go_wp2_with fail;by_cases q1:n1=18;case neg =>
  have d1:((n1:Int) != 18)=true:=by simp;omega
  have HF:Hid (V=false):=Aa (by rw [HV.out];simp [q1]);clear HV q1;exact FD15
 case pos =>
 replace hsig:=hsig q1;subst q1;by_cases q2:n2<=8;case neg =>
  have d2:ZH ((8:Int)<(n2:Int))=true:=by simp;omega
  have HF:Hid (V=false):=Aa (by rw [HV.out];simp [q2]);clear HV q2;exact FD15
 case pos =>
 have d2:ZH ((8:Int)<(n2:Int))=false:=by simp;omega
 cases b1;case true =>have HF:Hid (V=false):=Aa (by rw [HV.out];simp);clear HV q2;exact FD15
 cases b2;case true =>have HF:Hid (V=false):=Aa (by rw [HV.out];simp);clear HV q2;exact FD15
 by_cases q3:0<=idx;case neg =>
  have d3:ZH (idx<0)=true:=by simp;omega
  have HF:Hid (V=false):=Aa (by rw [HV.out];simp [q3]);clear HV q2 q3;exact FD15
 case pos =>
 have d3:ZH (idx<0)=false:=by simp;omega
 have NI:(0:Int)<=(n2:Int):=oM;have hw64:=Mu n2 q2;have hwr:IntKind.i64.wrap ((2:Int) ^ n2)=(2:Int) ^ n2:=Env n2 q2;have hp2:=Dd n2 q2;obtain⟨i,rfl⟩:∃ i:Nat,idx=(i:Int):=⟨idx.toNat,oM⟩
 by_cases q4:i<2 ^ n2;case neg =>
  have d4:ZH ((2:Int) ^ n2<=(i:Int))=true:=by exact FD172
  have HF:Hid (V=false):=Aa (by
   rw [HV.out];have:ZH ((i:Int)<2 ^ n2)=false:=by rw [Dc,show ((2:Int) ^ n2)=((2 ^ n2:Nat):Int) from by simp];omega
   simp only [this];simp)
  clear HV q3 q4;exact FD15
 case pos =>
 have d4:ZH ((2:Int) ^ n2<=(i:Int))=false:=by rw [Dc,show ((2:Int) ^ n2)=((2 ^ n2:Nat):Int) from by simp];omega
 have HF:Hid (V=dF pub (2 ^ n2) i (CH.dl (CH.ends sig m)) path):=Aa (by
  rw [HV.out];have:ZH ((i:Int)<2 ^ n2)=true:=by exact FD172
  simp only [this];simp [q2])
 clear HV q3;refine Ar kR kR ?_;repeat (quiet_step (first|exact r1 _ _|exact r2 _ _))
 refine Bv ?_;intro wq hbq;replace hbq:=An hbq;clear r1 r2 k0 k1' k2' c1 c2;have EI:wq.heap[w.heap.size]?=some (.cells #[.int .i64 i,.slice a1 18 k1,.slice a2 n2 k2] 36 (0,0)):=by rw [hbq.block _ sM];simp only [World.alloc,Array.getElem?_push_size]
 have zG:=hB0 _ hbq;have CW:w.heap.size<wq.heap.size:=by have:=hbq.size;simp at this;omega
 have hGq:Gl wq:=hG.below zG;clear hbq hB0;go_wp2_with fail;refine CmZ (Yw m _) fun w1 hw1=>?_;have hI0:xk wq w.heap.size i (.slice a1 18 k1) (.slice a2 n2 k2) sig [] w1:=by
  subst hw1;refine⟨sM,?_,⟨_,(Bad wq _ _).1,At.nil _ _⟩,?_⟩;·rw [Kw _ _ _ (by simp;omega),Kw _ _ _ CW];exact EI
  ·exact ((Ac _ wq).alloc nR _).alloc sM _
 have hcm:w1.cell? ⟨wq.heap.size+1,0,none⟩=some (.string ⟨m.toArray⟩):=by subst hw1;exact Ab (Bad wq _ _).2 0
 have hsz1:w1.heap.size=wq.heap.size+1+1:=by subst hw1;simp
 have hG1:Gl w1:=hGq.below hI0.below;clear hw1;go_wp2_with fail;refine (Np (n:=4)).1 ?_;refine wpIn_rangeFunc_ownG (n:=4) (α:=DP) rfl dC (gf:=149) (lb:=#[.pointer (some ⟨wq.heap.size+1,0,none⟩)]) rfl trivial (enters_of func149 kR rfl) (Sv m oM 3 (wq.heap.size+1) dC w1 hG1 oM hcm) walksK_t walksK_b (Ac _ _) (fun _=>rfl) (xk wq w.heap.size i (.slice a1 18 k1) (.slice a2 n2 k2) sig) (fun _ _ _=>False) (xk.own _ _ _ _ _ _ CW _ oM) (fun _ _ _ _ _ hs _ _=>hs) hI0 (fun x=>{ tmps:=#[.string ⟨pub.toArray⟩,.string ⟨m.toArray⟩,.agg #[.int .i64 i,.slice a1 18 k1,.slice a2 n2 k2],ZA,ZA,.pointer (some ⟨w.heap.size,0,none⟩),.bool false,.int .i64 n2,.func (.func 120) #[] #[],.pointer (some ⟨wq.heap.size,0,none⟩),.int .i64 (x.1.val:Nat),.int .i64 (x.2.val:Nat),.pointer (some ⟨w.heap.size,2,none⟩),.slice a2 n2 k2,.int .i64 n2,.pointer (some ⟨w.heap.size,1,none⟩),.slice a1 18 k1,.int .i64 18,.bool false,.bool false,.int .i64 n2,.bool false,.bool false,.bool false,.func (.func 120) #[] #[],.pointer (some ⟨w.heap.size,1,none⟩),.slice a1 18 k1,.bool false,.bool false,.bool false,.func (.func 120) #[] #[],.pointer (some ⟨w.heap.size,2,none⟩),.slice a2 n2 k2,.bool false,.bool false,.bool false,.pointer (some ⟨w.heap.size,0,none⟩),.int .i64 i,.bool false,.bool false,.bool false,.pointer (some ⟨w.heap.size,0,none⟩),.int .i64 i,.int .i64 n2,.int .i64 (2 ^ n2),.bool false,.bool false,.string ⟨m.toArray⟩,.func (.func 149) #[] #[.pointer (some ⟨wq.heap.size+1,0,none⟩)],.int .i64 (x.1.val:Nat),.int .i64 (x.2.val:Nat),ZA,ZA,ZA,ZA,ZA,ZA,ZA,ZA,ZA,ZA,ZA,ZA,ZA,ZA,ZA,ZA,ZA,ZA,ZA,ZA,ZA],defers:=[] }) ?assign ?body ?done ?stop;case assign =>intro l x W K hK;gi_wp2;exact hK
 case stop =>rintro D c pre W _ _ hx _;exact hx.elim
 case body =>
  rintro l pre x W hI hlen;have JZ:=x.1.isLt;have KL:=x.2.isLt;have hGW:Gl W:=hGq.below hI.below;obtain⟨hle,hb0,⟨v,hb3,hO⟩,hbw⟩:=hI;obtain⟨sb,so,rfl,hsb,hsc⟩:=hsig;have hBW:∀ W',Below (wq.heap.size+2) W W'->Below w.heap.size w W':=fun W' h=>zG.trans ((hbw.trans (h.mono oM)).mono oM);have hxs:sig[x.1.val]?=some (sig.getD x.1.val []):=by have:x.1.val<sig.length:=oM;simp [this]
  have hSk:∀ W',Below (wq.heap.size+2) W W'->W'.cell? ⟨w.heap.size,1,none⟩=some (.slice (some ⟨sb,so,none⟩) 18 k1)/\W'.cell? ⟨sb,so+x.1.val,none⟩=some (.string ⟨(sig.getD x.1.val []).toArray⟩):=fun W' hb =>⟨by rw [hb.cell (p:=⟨w.heap.size,1,none⟩) (by simp;omega)];simp [World.cell?,hb0],by rw [(hBW W' hb).cell (p:=⟨sb,so+x.1.val,none⟩) hsb];exact hsc _ _ hxs⟩
  have hV:∀ W',Below (wq.heap.size+2) W W'->W'.cell? ⟨wq.heap.size,0,none⟩=some v:=fun W' hb=>by rw [hb.cell (p:=⟨wq.heap.size,0,none⟩) sM];simp [World.cell?,hb3]
  have hF:∀ W',Below (wq.heap.size+2) W W'->W'.frozen? ⟨wq.heap.size,0,none⟩=false:=fun W' hb=>by rw [hb.frozen (p:=⟨wq.heap.size,0,none⟩) sM];exact Bb hb3 _
  have hB1:Below (wq.heap.size+2) W W.drew:=(Ac _ W).drew;have hGd:Gl W.drew:=hGW.below (Ac _ W).drew;have hO1:At (wq.heap.size+2) W.drew v (pre.map fun x=>CH.chain (15 - x.2.val) (sig.getD x.1.val [])):=hO.below (Ac _ W).drew;have hv1:=hV _ hB1;have JU:pre.length<=18:=oM;have hxl:(sig.getD x.1.val []).length<=140737488355328:=by have:=hl1 _ (Ap hxs);omega
  have h15:((15:Int) - ((x.2.val:Nat):Int))=((15 - x.2.val:Nat):Int):=oM;have ND:IntKind.i64.wrap ((15 - x.2.val:Nat):Int)=((15 - x.2.val:Nat):Int):=(by decide +kernel:∀ y:Fin 16,IntKind.i64.wrap ((15 - y.val:Nat):Int)=((15 - y.val:Nat):Int)) x.2;have hi0:(0:Int)<=((x.1.val:Nat):Int):=oM;have OC:((x.1.val:Nat):Int)<18:=oM;generalize hsx:sig.getD x.1.val []=sx at *;clear hxs;generalize JB:15 - x.2.val=y15 at *;gi_wp2_with fail;refine Li (fun W'=>W'.cell? ⟨w.heap.size,1,none⟩=some (.slice (some ⟨sb,so,none⟩) 18 k1)/\W'.cell? ⟨sb,so+x.1.val,none⟩=some (.string ⟨sx.toArray⟩)) _ _ kR kR ?_ (hSk _ hB1) fun kz=>?_;·rintro⟨a,w,h⟩;exact h
  refine tj 1 ?_;push_cast;refine tj 2 ?_;push_cast;refine tj 3 ?_;push_cast;refine tj 4 ?_;push_cast;refine tj 5 ?_;push_cast;refine tj 6 ?_;push_cast;refine tj 7 ?_;push_cast;refine Ew (rs:=[0,8]) kR sM ?_;refine Cc (o:=_) rfl (fun K hK=>?_) ?_;focus go_simp;refine hK.out _ _ (hSk _ hB1) fun kz=>?_;clear hK K;push_cast;refine rk 8 rfl fun K hK=>?_;go_simp;refine CmZ (M6 sx y15 W.drew hGd oM hxl) fun w3 fG=>?_;have hB3:Below (wq.heap.size+2) W w3:=hB1.trans (fG.mono hle);have hv3:=hV _ hB3;have hv4:∀ o,(w3.alloc o).cell? ⟨wq.heap.size,0,none⟩=some v:=fun o=>hV _ (hB3.alloc (Af hle hB3.size) o);have hO3:=hO1.below fG;go_wp2_with fail;refine hK.out _ _ (hSk _ hB3) fun kz=>?_;clear hK K;push_cast;refine rk 9 rfl fun K hK=>?_;go_simp;refine hK.out _ _ (hSk _ (hB3.alloc (Af hle hB3.size) _)) fun kz=>?_;clear hK K;push_cast;refine rk 10 rfl fun K hK=>?_;rw [Au rF];refine Ca _ _ rfl (wq.heap.size+2) v _ rfl (hO3.alloc _) w3.heap.size _ (CH.chain y15 sx) rfl (Cm _ _ _ _ _) (by rw [Bh];omega) (by have:=hB3.size;simp;omega) ?_;intro v5 w5 hO5 hg5;obtain⟨a5,c5,rfl,nH,nG,nD⟩:=hO5.form;have hB5:Below (wq.heap.size+2) W w5:=(hB3.alloc (Af hle hB3.size) _).grown hg5 (by have:=hB3.size;simp;omega) (fun k e=>(hO3.ownBlock k e).1);have hv5:=hV _ hB5;have hf5:=hF _ hB5;refine hK.out _ _ (hSk _ hB5) fun kz=>?_;clear hK K;push_cast;refine rk 11 rfl fun K hK=>?_;go_simp;refine hK.out _ _ (⟨(D9 _ ⟨wq.heap.size,0,none⟩ ⟨w.heap.size,1,none⟩ _ (fun e=>by dsimp only at e;omega)).trans (hSk _ hB5).1,(World.cell?_setCell_far _ ⟨wq.heap.size,0,none⟩ ⟨sb,so+x.1.val,none⟩ _ (fun e=>by dsimp only at e;omega)).trans (hSk _ hB5).2⟩) (fun kz=>?_);clear hK K;push_cast;refine Dy kR ?_ _
  rotate_left 1;refine Cc (o:=_) rfl (fun K hK=>?_) Eo;focus
   go_simp;refine CmZ (M6 sx y15 W.drew hGd oM hxl) fun w3 fG=>?_;have hB3:Below (wq.heap.size+2) W w3:=hB1.trans (fG.mono hle);have hv3:=hV _ hB3;have hv4:∀ o,(w3.alloc o).cell? ⟨wq.heap.size,0,none⟩=some v:=fun o=>hV _ (hB3.alloc (Af hle hB3.size) o);have hO3:=hO1.below fG;go_wp2_with fail;refine hK.out _ _ (hSk _ hB3) fun kz=>?_;clear hK K;push_cast;refine Ew (rs:=[0,9]) kR sM ?_;refine Cc (o:=_) rfl (fun K hK=>?_) ?_;focus go_simp;refine hK.out _ _ (hSk _ hB3) fun kz=>?_;clear hK K;push_cast;refine rk 9 rfl fun K hK=>?_;go_simp;refine hK.out _ _ (hSk _ (hB3.alloc (Af hle hB3.size) _)) fun kz=>?_;clear hK K;push_cast;refine rk 10 rfl fun K hK=>?_;rw [Au rF];refine Ca _ _ rfl (wq.heap.size+2) v _ rfl (hO3.alloc _) w3.heap.size _ (CH.chain y15 sx) rfl (Cm _ _ _ _ _) (by rw [Bh];omega) (by have:=hB3.size;simp;omega) ?_;intro v5 w5 hO5 hg5;obtain⟨a5,c5,rfl,nH,nG,nD⟩:=hO5.form;have hB5:Below (wq.heap.size+2) W w5:=(hB3.alloc (Af hle hB3.size) _).grown hg5 (by have:=hB3.size;simp;omega) (fun k e=>(hO3.ownBlock k e).1);have hv5:=hV _ hB5;have hf5:=hF _ hB5;refine hK.out _ _ (hSk _ hB5) fun kz=>?_;clear hK K;push_cast;refine rk 11 rfl fun K hK=>?_;go_simp;refine hK.out _ _ (⟨(D9 _ ⟨wq.heap.size,0,none⟩ ⟨w.heap.size,1,none⟩ _ (fun e=>by dsimp only at e;omega)).trans (hSk _ hB5).1,(World.cell?_setCell_far _ ⟨wq.heap.size,0,none⟩ ⟨sb,so+x.1.val,none⟩ _ (fun e=>by dsimp only at e;omega)).trans (hSk _ hB5).2⟩) (fun kz=>?_);clear hK K;push_cast;refine Dy kR ?_ _
   rotate_left 1;refine Cc (o:=_) rfl (fun K hK=>?_) Eo;focus go_simp;refine hK.out _ _ (hSk _ (hB3.alloc (Af hle hB3.size) _)) fun kz=>?_;clear hK K;push_cast;refine rk 0 rfl fun K hK=>?_;go_simp;refine hK.out _ _ (hSk _ (hB3.alloc (Af hle hB3.size) _)) fun kz=>?_;clear hK K;push_cast;refine rk 10 rfl fun K hK=>?_;rw [Au rF];refine Ca _ _ rfl (wq.heap.size+2) v _ rfl (hO3.alloc _) w3.heap.size _ (CH.chain y15 sx) rfl (Cm _ _ _ _ _) (by rw [Bh];omega) (by have:=hB3.size;simp;omega) ?_;intro v5 w5 hO5 hg5;obtain⟨a5,c5,rfl,nH,nG,nD⟩:=hO5.form;have hB5:Below (wq.heap.size+2) W w5:=(hB3.alloc (Af hle hB3.size) _).grown hg5 (by have:=hB3.size;simp;omega) (fun k e=>(hO3.ownBlock k e).1);have hv5:=hV _ hB5;have hf5:=hF _ hB5;refine hK.out _ _ (hSk _ hB5) fun kz=>?_;clear hK K;push_cast;refine rk 11 rfl fun K hK=>?_;go_simp;refine hK.out _ _ (⟨(D9 _ ⟨wq.heap.size,0,none⟩ ⟨w.heap.size,1,none⟩ _ (fun e=>by dsimp only at e;omega)).trans (hSk _ hB5).1,(World.cell?_setCell_far _ ⟨wq.heap.size,0,none⟩ ⟨sb,so+x.1.val,none⟩ _ (fun e=>by dsimp only at e;omega)).trans (hSk _ hB5).2⟩) (fun kz=>?_);clear hK K;push_cast;refine Dy kR ?_ _
  all_goals
   have hbd:Below W.heap.size W w3:=(Ac _ W).drew.trans (fG.mono nR);have hko:∀ u,KeepsOthers W (w5.setCell ⟨wq.heap.size,0,none⟩ u):=fun u =>(((H0 hbd).trans (KeepsOthers.alloc _ _)).trans (KeepsOthers.of_grownBy hg5 (fun j o hj ho=>by obtain⟨_,cs,t,fr,hcs⟩:=(hO3.alloc _).ownBlock j hj;rw [ho] at hcs;cases hcs;rfl))).trans (KeepsOthers.setCell _ _ _);have hk5:∀ k,k<wq.heap.size+2->w5.heap[k]?=W.heap[k]?:=fun k hk=>hB5.block k hk;have hks:∀ k u,k≠wq.heap.size->(w5.setCell ⟨wq.heap.size,0,none⟩ u).heap[k]?=w5.heap[k]?:=fun k u hk=>Bt _ _ _ _ hk;refine⟨(hko _).from _,(hko _).walks,⟨?_,?_,⟨.slice a5 (pre.length+1) c5,?_,?_⟩,?_⟩⟩;·have:=(hko ZA).size;simp at this ⊢;omega
   ·rw [hks _ _ oM,hk5 _ oM];exact hb0
   ·exact A7 w5 wq.heap.size 0 _ _ _ _ ((hk5 _ oM).trans hb3)
   ·rw [Ep];have h0:=hO5.kJ (g:=wq.heap.size) oM 0 (.slice a5 (pre.length+1) c5);simp only [At,Ah,Bh,A8,Bj,Bf,Fa,Iq,hsx,JB] at h0 ⊢;exact h0
   ·exact⟨hB5.os.trans hbw.os,hB5.tape.trans hbw.tape,hB5.output.trans hbw.output,by have:=hbw.size;have:=(hko ZA).size;simp at this ⊢;omega,fun k hk=>by rw [hks _ _ oM,hk5 _ oM];exact hbw.block k hk⟩
 case done =>
  intro D xs W hD hxs hI hdef;subst hxs;have hGW:Gl W:=hGq.below hI.below;obtain⟨hle,hb0,⟨v,hb3,hO⟩,hbw⟩:=hI;have hbW:Below w.heap.size w W:=zG.trans (hbw.mono oM);have hel:((eX m).map fun x=>CH.chain (15 - x.2.val) (sig.getD x.1.val []))=CH.ends sig m:=(Pse sig m hn1).symm;rw [hel] at hO;have cO:∀ W',Below W.heap.size W W'->ZE prog 123 #[v] W' (fun e w'=>e=.returned (.string ⟨(CH.dl (CH.ends sig m)).toArray⟩)/\Below W'.heap.size W' w'):=fun W' hb =>
   Isi v _ W' (hGW.below hb) (hO.below hb).strs (by
    refine Af (O2 _ 1000000 (Ggx sig m hl1) oM) ?_;have:(CH.ends sig m).length<=18:=by rw [<- hel,Bh,dS];exact Bg _
    omega)
  have cT:∀ W',Below W.heap.size W W'->ZE prog 122 #[.string ⟨pub.toArray⟩,.int .i64 ((2:Int) ^ n2),.int .i64 i,.string ⟨(CH.dl (CH.ends sig m)).toArray⟩,.slice a2 n2 k2] W' (fun e w'=>e=.returned (.bool V)/\Below W'.heap.size W' w'):=fun W' hb=>by have hbb:Below w.heap.size w W':=hbW.trans (hb.mono hbW.size);have h3:=Zj pub (CH.dl (CH.ends sig m)) (2 ^ n2) i (.slice a2 n2 k2) path W' (hGW.below hb) q4 oM (by rw [gZ];omega) ((H2.out.below hbb nR).mono hbb.size) oM hl2;rw [show ((2 ^ n2:Nat):Int)=(2:Int) ^ n2 from by simp] at h3;rw [HF.out];exact h3
  obtain⟨va,vc,ve,hvf⟩:=hO.form;generalize hLe:(CH.ends sig m).length=ne at ve;subst ve;clear hvf hLe;generalize CH.dl (CH.ends sig m)=leaf at cO cT HF;have g0:∀ (d:Nat) (os:Array Obj),(grow (ZI W d) os).cell? ⟨w.heap.size,0,none⟩=some (.int .i64 i):=Ag (by simp [World.cell?,hb0]);have g2:∀ (d:Nat) (os:Array Obj),(grow (ZI W d) os).cell? ⟨w.heap.size,2,none⟩=some (.slice a2 n2 k2):=Ag (by simp [World.cell?,hb0]);have g3:∀ (d:Nat) (os:Array Obj),(grow (ZI W d) os).cell? ⟨wq.heap.size,0,none⟩=some (.slice va ne vc):=Ag (by simp [World.cell?,hb3]);have KJ:D<W.heap.size:=(aZ hdef)
  clear HF hb0 hb3 hO hel hcm hI0;go_wp2_with fail;refine Ar kR kR ?_;repeat (quiet_step (first|exact Bc (cO _ (D6 _ _ _))|exact Bc (cT _ (D6 _ _ _))))
  refine Bv ?_;intro wq hbq;replace hbq:=An hbq;go_wp2_with fail;refine⟨sM,.inl ⟨_,_,rfl,run_takeDeferred ((hbq.block D KJ).trans hdef),?_⟩⟩;exact⟨_,Ku rfl _ _ _,rfl,(hbW.trans (hbq.mono hbW.size)).grown (grownBy_putObj' _ _ _) (Af hbW.size hbq.size) (fun k e=>by cases e;omega)⟩
attribute [local go_sem] Jt
def gX (p:Int × Int):List ZC:=[aJ p.1,aJ p.2]
theorem Ggy (p:Int × Int):∀ u∈gX p,u.oneCell'=true:=by intro u hu;simp only [gX,Bl,Ci,Et] at hu;rcases hu with rfl|rfl <;> rfl
theorem Kn3:(prog.info? 89).map (fun i=>(i.zero,i.size,i.bytes))=some (some (.agg #[.int .i64 0,.int .i64 0]),2,16):=kR
theorem L34 (W:ZB) (a b:ZC) (T:TypeId):∀ (j:Nat) (u:ZC),([a,b]:List ZC)[j]?=some u->(W.alloc (.cells #[a,b] T)).cell? ((⟨W,0,none⟩:Addr).add j)=some u:=fun j u hj=>by have h:=Bp W [a,b] T j u hj;rw [Bf] at h;rw [show (⟨W,0,none⟩:Addr).add j=⟨W,j,none⟩ from by simp [Addr.add];omega];exact h
def ApP (w0:ZB) (Bs:Nat) (ps:List (Int × Int)) (W:ZB):Prop := (∃ v,Boxed W Bs 139 v/\W.ownsRow w0 89 2 v ps.length (ps.flatMap gX))/\Below w0 w0 W
theorem ApP.own (w0:ZB) (Bs B:Nat) (hB:w0.heap.size<=B):OwnFrom B (ApP w0 Bs):=by
 rintro ps W W' row ⟨⟨v,hv,hr⟩,hb⟩ hg hrow;refine⟨⟨v,hv.kept hg fun e=>?_,hr.kept hg ?_⟩,hb.grown hg hb.size fun k e=>Af hB (hrow k e).1⟩;·obtain⟨_,o,ho,hc⟩:=hrow Bs e.symm;have hv':W.heap[Bs]?=some (.cells #[v] 139 (0,0)):=hv;rw [hv'] at ho;cases ho;cases hc
 ·rcases hr.2 with⟨rfl,_⟩|⟨g,cap,cur,rfl,_,hgb,_⟩;·exact .inl rfl
  ·refine .inr fun e=>?_;obtain⟨_,o,ho,hc⟩:=hrow g (by simpa [Value.ownBlock] using e.symm);rw [hgb] at ho;cases ho;cases hc
theorem Y9 (Bm r:Nat) (kvs:List ((Int × Int) × ZC)) (w:ZB) (hBm:Bm<w.heap.size) (hm:w.cell? ⟨Bm,0,none⟩=some (.map (some r))) (hmap:Co Bk r w kvs) (hk:(kvs.map (·.1)).Nodup) (hN:kvs.length<=1000000) : ZE prog 222 #[.slice none 0 0,.func (.func 147) #[] #[.pointer (some ⟨Bm,0,none⟩)]] w fun e w' => ∃ v ps,e=.returned v/\I41 kvs ps/\w'.ownsRow w 89 2 v ps.length (ps.flatMap gX)/\Below w w w':=by
 refine (Jj (n:=4)).1 ?_;refine callsIn_of_wp_marks func222 rfl trivial ?_ rfl;simp only [ntmps222,Ip,A8,Bj,Nat.reduceAdd,Nat.reduceSub,Ig,Ie,I7,Il,Dl,Ea];gi_wp2;obtain⟨W0,hW0⟩:∃ W0,w.alloc (.cells #[.slice none 0 0] 139)=W0:=⟨_,rfl⟩
 have hb0:Below w w W0:=by rw [<- hW0];exact (Ac _ w).alloc nR _
 have hv0:Boxed W0 w 139 (.slice none 0 0):=by rw [<- hW0];exact Boxed.new w _ _
 rw [hW0];clear hW0;refine Fig (n:=4) (α:=Int × Int) rfl dC (gf:=147) (lb:=#[.pointer (some ⟨Bm,0,none⟩)]) rfl trivial (enters_of func147 kR rfl) (Ggl Fence.wide 3 trivial rfl dC Bm r kvs w hBm hm hmap hk) hb0 (fun _=>rfl) (ApP w w) (ApP.own _ _ _ hb0.size) ⟨⟨_,hv0,I5 W0 _ _ _⟩,hb0⟩ (fun x b=>{ tmps:=#[.slice none 0 0,.func (.func 147) #[] #[.pointer (some ⟨Bm,0,none⟩)],.pointer (some ⟨w,0,none⟩),ZA,.slice none 0 0,.pointer (some ⟨b,0,none⟩),.func (.func 147) #[] #[.pointer (some ⟨Bm,0,none⟩)],Bk x,ZA,ZA,ZA,ZA,ZA],defers:=[] }) (fun x W=>W.alloc (.cells #[aJ x.1,aJ x.2] 89)) (fun x b V=>V.heap[b]?=some (.cells #[aJ x.1,aJ x.2] 89 (0,0))) ?assign (fun x W=>(Ac _ W).alloc nR _) (fun x W=>Aw W _) ?bp ?body ?done;case assign =>intro l x W K hK;obtain⟨x1,x2⟩:=x;dsimp only [Bk] at hK ⊢;gi_wp2;exact hK
 case bp =>rintro x b V l o o' hx hl hc;refine (World.putObj_heap_other (fun e=>?_)).trans hx;subst e;rw [hx] at hl;cases hl;cases hc
 case body =>
  rintro l pre x b W ⟨⟨v,hv,hrow⟩,hb⟩ hx hlen;obtain⟨x1,x2⟩:=x;have hc:=hv.cell;have hf:=hv.frozen;have c0:W.cell? ⟨b,0,none⟩=some ↑x1:=Ab hx 0;have c1:W.cell? ⟨b,1,none⟩=some ↑x2:=Ab hx 1;obtain⟨i0,hi,hz0,hz1,hz2⟩:=H8 Kn3;have hWs:=hb.size;have hblt:=(aZ hx)
  dsimp only [Bk];have hNl:pre.length+1<=1000001:=oM;gi_wp2_with (first
   |(gi_at_builtin;refine wpListIn_append_own _ rfl _ _ 139 rfl w 89 i0 _ 2 16 underlying139 hi hz0 hz1 hz2 rfl dC _ _ _ rfl (hrow.alloc _) ⟨W,0,none⟩ 1 1 [↑x1,↑x2] rfl rfl (L34 _ _ _ _) (Ggy (x1,x2)) (by unfold maxLen;omega) oM (by simp;omega) ?_;intro v' w3 hown' hg3 hnil3
     have hap:=Boxed.appended hv dC hrow hWs nR hown' hg3
     obtain⟨g5,c5,e5⟩:=ownsRow_succ hown'
     subst e5
     have hv3:=hap.1
     have hc3:=hv3.cell
     have hf3:=hv3.frozen)
   |gi_in)
  refine⟨hap.2.2.2.1,hap.2.2.2.1.walks,⟨⟨_,hap.2.1,?_⟩,hb.trans hap.2.2.2.2⟩⟩;have h:=hap.2.2.1;rw [Ah,Di,Hg];exact h
 case done =>rintro D xs W hD hS ⟨⟨v,hv,hrow⟩,hb⟩ hK;have hc:=hv.cell;gi_wp2;have hbD:=(Ac w W).trans (belowK_b (w:=w) nR W D _ (.deferred none) (by have:=hb0.size;omega) hK rfl rfl);refine⟨sM,.inl ⟨_,_,rfl,run_takeDeferred (ds:=[]) hK,?_⟩⟩;refine⟨_,Ku rfl _ _ _,v,xs,rfl,hS,?_,hb.trans hbD⟩;exact ownsRow_putObj hrow _ hK rfl
theorem Cmm {base:Nat} {e:TypeId} {size:Nat} {v:ZC} {n:Nat} {xs:List ZC} (h:w.ownsRow base e size v n xs):∃ a c,v=.slice a n c:=by
 obtain⟨hlen,⟨rfl,h0⟩|⟨g,cap,cur,rfl,_⟩⟩:=h;·exact⟨none,0,by rw [h0]⟩
 ·exact⟨_,cap,rfl⟩
def Raw (w:ZB) (kvs:List ((Int × Int) × ZC)) (e:Ending) (w':ZB):Prop := ∃ a n c ps,e=.returned (.slice a n c)/\I41 kvs ps/\w'.ownsRow w 89 2 (.slice a n c) ps.length (ps.flatMap gX)/\ps.length=n/\Below w w w'
theorem Del (Bm r:Nat) (kvs:List ((Int × Int) × ZC)) (w:ZB) (hBm:Bm<w.heap.size) (hm:w.cell? ⟨Bm,0,none⟩=some (.map (some r))) (hmap:Co Bk r w kvs) (hk:(kvs.map (·.1)).Nodup) (hN:kvs.length<=1000000) : ZE prog 145 #[.func (.func 147) #[] #[.pointer (some ⟨Bm,0,none⟩)]] w (Raw w kvs):=by
 have A:=Aa (Y9 Bm r kvs w hBm hm hmap hk hN);go_enter func145,ntmps145;go_wp2_with fail;refine A.out.mono ?_;rintro e w1 ⟨v,ps,rfl,h1,h2,h3⟩;obtain⟨a,c,rfl⟩:=Cmm h2;have h1:=Aa h1;have h2:=Aa h2;obtain⟨n,hn⟩:∃ n,ps.length=n:=⟨_,rfl⟩
 rw [hn] at h2 ⊢;clear A;go_wp2;go_ret;exact⟨a,n,c,ps,rfl,h1.out,by rw [hn];exact h2.out,hn,h3⟩
end
end Go.Proofs.Y
namespace CH
section
def zC:Change:=⟨0,[],⟨[],[]⟩,0⟩
def zM:bD:=⟨[],[],0,[],.mk 0 [] 0 0 [],0,0,0⟩
def zL:fF:=⟨[],[],[],0,0,0,0⟩
def zH:aQ:=⟨[],[],[],[],[],[],0,0,0,0⟩
theorem Oq {n:Int} (h:Go.Lib.itoa n=[48]):n=0:=by
 unfold Go.Lib.itoa at h;split at h;·injection h with h1 h2;exact absurd h1 dC
 ·rename_i hn;rw [Go.Lib.decDigits] at h;split at h;·rename_i h10;injection h with h1;have h2:=congrArg UInt8.toNat h1;rw [UInt8.toNat_ofNat'] at h2;have:(48:UInt8).toNat=48:=rfl;omega
  ·rename_i h10;have h2:=congrArg List.length h;rw [Ah,Go.Lib.decDigits_length,Di,Di] at h2;have:=Go.Lib.nDigits_pos (n.toNat / 10);omega
theorem qX {c:Change} (h:dJ c=false):c=zC:=by obtain⟨k,id,⟨eid,ns⟩,p⟩:=c;unfold dJ at h;simp only [Gt,bne_eq_false_iff_eq,Dc] at h;obtain⟨⟨⟨⟨rfl,rfl⟩,rfl⟩,rfl⟩,h⟩:=h;have:ns=[]:=Bo.1 oM;subst this;rfl
theorem qm {l:fF} (h:dB l=false):l=zL:=by obtain⟨id,ms,ps,q,u,s,t⟩:=l;unfold dB at h;simp only [Gt,bne_eq_false_iff_eq,Dc] at h;obtain⟨⟨⟨⟨⟨⟨rfl,h1⟩,h2⟩,rfl⟩,rfl⟩,rfl⟩,rfl⟩:=h;have e1:ms=[]:=Bo.1 oM;have e2:ps=[]:=Bo.1 oM;subst e1 e2;rfl
theorem qo {h:aQ} (hh:dD h=false):h=zH:=by obtain⟨id,co,ho,no,pl,js,ca,vo,st,en⟩:=h;unfold dD at hh;simp only [Gt,bne_eq_false_iff_eq,Dc] at hh;obtain⟨⟨⟨⟨⟨⟨⟨⟨⟨rfl,rfl⟩,rfl⟩,rfl⟩,rfl⟩,h1⟩,rfl⟩,rfl⟩,rfl⟩,rfl⟩:=hh;have e1:js=[]:=Bo.1 oM;subst e1;rfl
theorem qE {m:bD} (h:bM m=true):m=zM:=by obtain⟨id,au,k,tg,⟨op,nm,cm,n,ks⟩,st,un,wi⟩:=m;unfold bM at h;simp only [Ba,Eb,List.cons.injEq,and_true,Formula.op,Formula.name,Formula.cmp,Formula.n,Formula.kids] at h;obtain⟨⟨rfl,rfl,rfl,h1,h2,h3,h4⟩,⟨⟨⟨rfl,rfl⟩,rfl⟩,rfl⟩,h5⟩:=h;have e1:=Oq h1;have e2:=Oq h2;have e3:=Oq h3;have e4:=Oq h4;have e5:ks=[]:=Bo.1 h5;subst e1 e2 e3 e4 e5;rfl
end
end CH
