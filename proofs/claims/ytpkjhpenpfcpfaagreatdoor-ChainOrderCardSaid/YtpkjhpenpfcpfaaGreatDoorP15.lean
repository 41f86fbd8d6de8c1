/-
  ChainOrder: the proof, part 16 of 28.
-/
import Derived.Test.YtpkjhpenpfcpfaaGreatDoorP10
import Derived.Test.YtpkjhpenpfcpfaaGreatDoorP11
set_option linter.unusedSimpArgs false
set_option linter.unusedVariables false
set_option maxHeartbeats 40000000
set_option maxRecDepth 100000
open Go renaming undef -> ZA, World -> ZB, Value -> ZC, Calls -> ZE, redrawn -> ZI
open Go.Act renaming put -> ZF
open Go.RowKit renaming intOf -> ZG
open Decidable renaming decide -> ZH
open Go.Lib renaming byteCells -> ZL
namespace Go.Proofs.YtpkjhpenpfcpfaaGreatDoor
section
open Go.Lib Go.Proofs.Tryz Go.RowKit Go.Shelf Go.Sort CH
theorem Zy (k:Int):k=1\/k=2\/k=4\/k=6\/k=5\/k=3\/k=7\/(k≠1/\k≠2/\k≠4/\k≠6/\k≠5/\k≠3/\k≠7):=oM
def Ke (B:Nat) (w:ZB):List CH.Word->List ZC->Prop
 |[],[]=>True
 |x::xs,v::vs=>M8 B w x v/\Ke B w xs vs
 |_,_=>False
theorem Ke.get {B:Nat} {w:ZB}:∀ {ws:List CH.Word} {vs:List ZC},Ke B w ws vs->∀ (j:Nat) (x:CH.Word),ws[j]?=some x->∃ v,vs[j]?=some v/\M8 B w x v
 |[],_,_,j,x,h=>by simp at h
 |y::ws,[],h,_,_,_=>by exact h.elim
 |y::ws,v::vs,h,0,x,hx=>by
  simp only [Fv,Ep] at hx
  subst hx
  exact⟨v,rfl,h.1⟩
 |y::ws,v::vs,h,j+1,x,hx=>Ke.get h.2 j x (by simpa using hx)
theorem M8.mono {B B':Nat} {w:ZB} {x:CH.Word} {v:ZC} (h:M8 B w x v) (hB:B<=B'):M8 B' w x v:=by
 cases x with
 |int n=>exact h
 |str s=>exact h
 |strs l =>obtain⟨sv,h1,h2,h3⟩:=h;exact⟨sv,h1,h2.mono hB,h3⟩
theorem Ln (ws:List CH.Word) (vs:List ZC) (T:TypeId) (n:Nat) (w:ZB) (hG:Gl w) (hv:Ke w w ws vs) (hn:ws.length=n) (hl:n<=100) (hJ:(CH.words ws).length<=140737488355328) : ZE prog 41 #[.slice (some ⟨w,0,none⟩) n n] (w.alloc (.cells vs.toArray T)) (Ret (w.alloc (.cells vs.toArray T)) (ay (CH.words ws))):=by have hb:Below w w (w.alloc (.cells vs.toArray T)):=(Ac _ w).alloc nR _;subst hn;refine I04 ws w _ (hG.below hb) sM (fun j x hx=>?_) hl hJ;obtain⟨v,h1,h2⟩:=hv.get j x hx;refine⟨v,?_,(h2.below hb nR).mono hb.size⟩;rw [Ab (Au w _) j];simpa using h1
def jQ:Option (List UInt8)->ZC
 |some t=>.tuple #[↑t,.bool true]
 |none=>.tuple #[.string ⟨#[]⟩,.bool false]
def Cn (a:CH.Act):List UInt8:=(aQ a).getD []++[10]
theorem O5 {a:CH.Act} (l:List CH.Act) (ha:aQ a=none):fB (a::l)=none:=by
 conv=>lhs;unfold fB
 rw [ha]
theorem O4 {a:CH.Act} {t:List UInt8} (l:List CH.Act) (ha:aQ a=some t):fB (a::l)=(fB l).map (t++[10]++·):=by
 conv=>lhs;unfold fB
 rw [ha]
theorem M7 {a:CH.Act} {t:List UInt8} (ha:aQ a=some t):Cn a=t++[10]:=by unfold Cn;rw [ha];rfl
theorem K2:∀ l:List CH.Act,(∀ a∈l,(aQ a).isSome=true)->fB l=some (l.flatMap Cn)
 |[],_=>by unfold fB;rfl
 |a::l,h=>by
  obtain⟨t,ht⟩:=Option.isSome_iff_exists.1 (h a (List.mem_cons_self ..))
  rw [O4 l ht,K2 l fun x hx=>h x (Gj _ hx),Ej,M7 ht]
  rfl
theorem K3 {a:CH.Act} (ha:aQ a=none):∀ l:List CH.Act,a∈l->fB l=none
 |[],h=>by cases h
 |b::l,h=>by
  rcases A8.1 h with rfl|h
  ·exact O5 l ha
  ·cases hb:aQ b with
   |none=>exact O5 l hb
   |some t=>rw [O4 l hb,K3 ha l h];rfl
theorem Ans {α β:Type} (f:α->List β) (l:List α) (k:Nat) (x:α) (h:l[k]?=some x):(l.take (k+1)).flatMap f=(l.take k).flatMap f++f x:=by rw [aK l k x h,Ig];simp
def F0 (v:CH.Version):List CH.Word:=[.str ([118,101,114,115,105,111,110]:List UInt8),.int v.authority,.int v.number,.int v.pos,.str v.prev]
theorem R0 {v:CH.Version} (h:qH v):(CH.words (F0 v)).length<=1000000:=by
 have h3:((F0 v).flatMap CH.Word.texts).length<=80:=by unfold F0;simp only [Ej,Gw,Aj,Lx,Bj];show 1+(1+(1+(1+(1+0))))<=80;omega
 refine Ag (P4 _ 10000 80 ?_ h3) dC;intro x hx;simp only [F0,A8,Bc,Dj] at hx;rcases hx with rfl|rfl|rfl|rfl|rfl;·exact Cz _ sM
 ·exact C0 _ h.authority
 ·exact C0 _ h.number
 ·exact C0 _ h.pos
 ·exact Cz _ h.prev
theorem Rz (v:CH.Version):CH.bare v=if !(ZH (0<=v.authority)&&ZH (v.authority<6)&&ZH (1<=v.number)&&ZH (v.number<=200)&&ZH (0<=v.pos)&&ZH (v.pos<=144001439)&&ZH ((v.acts.length:Int)<=40))||((v.number==1) != (v.prev==[]))||(v.prev != []&&!aC v.prev) then none else (fB v.acts).map (CH.words (F0 v)++[10]++·):=by
 unfold CH.bare CH.within aW F0;have e1:ZH (v.authority<=5)=ZH (v.authority<6):=by rw [Em];omega
 have e2:ZH (v.acts.length<=40)=ZH ((v.acts.length:Int)<=40):=by rw [Em];omega
 rw [e1,e2];simp only [Bool.and_assoc]
theorem Wk {B:Nat} {w:ZB} {l:List CH.Act} (h:∀ a∈l,∃ s,fJ B w a s):(l.flatMap Cn).length<=l.length*100000101:=by
 induction l with
 |nil=>simp
 |cons a l ih =>
  have h1:=ih fun x hx=>h x (by simp [hx]);obtain⟨s,hs⟩:=h a sM;have h2:(Cn a).length<=100000101:=by
   unfold Cn;cases ht:aQ a with
   |none=>simp
   |some t =>have:=Mx ht hs;simp;omega
  rw [Ej,Aj,Az,Nat.add_mul];omega
theorem Gr.acts {B:Nat} {w:ZB} {v:ZC} {l:List CH.Act} (h:Gr B w v l):∀ a∈l,∃ s,fJ B w a s:=fun a ha=>by obtain⟨_,_,_,_,_,h4⟩:=h;obtain⟨b,off,_,_,hx⟩:=h4 (fun e=>by rw [e] at ha;cases ha);obtain⟨j,hj⟩:=Dy.1 ha;obtain⟨s,_,hs⟩:=hx j a hj;exact⟨s,hs⟩
def F27:Prop:=∀ (a:CH.Act) (s:eX) (W:ZB),Gc W->fJ W W a s->ZE prog 17 #[.agg (Av a s).toArray] W (Ret W (bQ (aQ a)))
theorem M14 (AT:F27) (v:CH.Version) (s:dA) (w:ZB) (hG:Gc w) (h:aP w w v s) : ZE prog 32 #[.agg (Al v s).toArray] w (Ret w (jQ (CH.bare v))):=by
 obtain⟨R,hR⟩:∃ R,Hid (jQ (CH.bare v)=R):=⟨_,Aa rfl⟩
 rw [hR.out];obtain⟨va,v1,v2⟩:=s;have hS:=h.small;have hA:Gr w w va v.acts:=h.acts;obtain⟨aa,ca,rfl,ha1,ha2,ha3⟩:=id hA;dsimp only [Al];have D:=fun W=>Bwb v.prev W (Ag hS.prev dC);have hl:=Aa (R0 hS);have hll:=Aa (Wk hA.acts);have hR1:=hR.out;rw [Rz] at hR1;clear hR;generalize hN:v.acts.length=N at *;obtain⟨b1,h1⟩:∃ b,ZH (0<=v.authority)=b:=⟨_,rfl⟩
 obtain⟨b2,h2⟩:∃ b,ZH (v.authority<6)=b:=⟨_,rfl⟩
 obtain⟨b3,h3⟩:∃ b,ZH (1<=v.number)=b:=⟨_,rfl⟩
 obtain⟨b4,h4⟩:∃ b,ZH (v.number<=200)=b:=⟨_,rfl⟩
 obtain⟨b5,h5⟩:∃ b,ZH (0<=v.pos)=b:=⟨_,rfl⟩
 obtain⟨b6,h6⟩:∃ b,ZH (v.pos<=144001439)=b:=⟨_,rfl⟩
 obtain⟨b7,h7⟩:∃ b,ZH ((N:Int)<=40)=b:=⟨_,rfl⟩
 obtain⟨b8,h8⟩:∃ b,(v.number==1)=b:=⟨_,rfl⟩
 obtain⟨b10,h10⟩:∃ b,aC v.prev=b:=⟨_,rfl⟩
 rw [h1,h2,h3,h4,h5,h6,h7,h8,h10] at hR1;rw [h10] at D;have D:=Aa D;have HA:=Aa hA;have HS:=Aa hS;have HN:=Aa hN;have HA3:=Aa ha3;clear hN hS hA h ha3 h10;have hR1:=Aa hR1;have hB0:=fun o=>(Ac _ w).alloc nR o;have hW:=fun o=>Au w o;rcases (by cases b1 <;> cases b2 <;> cases b3 <;> cases b4 <;> cases b5 <;> cases b6 <;> cases b7 <;> simp:(b1=false)\/(b1=true/\b2=false)\/(b1=true/\b2=true/\b3=false)\/(b1=true/\b2=true/\b3=true/\b4=false)\/(b1=true/\b2=true/\b3=true/\b4=true/\b5=false)\/(b1=true/\b2=true/\b3=true/\b4=true/\b5=true/\b6=false)\/(b1=true/\b2=true/\b3=true/\b4=true/\b5=true/\b6=true/\b7=false)\/(b1=true/\b2=true/\b3=true/\b4=true/\b5=true/\b6=true/\b7=true)) with rfl|⟨rfl,rfl⟩|⟨rfl,rfl,rfl⟩|⟨rfl,rfl,rfl,rfl⟩|⟨rfl,rfl,rfl,rfl,rfl⟩|⟨rfl,rfl,rfl,rfl,rfl,rfl⟩|⟨rfl,rfl,rfl,rfl,rfl,rfl,rfl⟩|⟨rfl,rfl,rfl,rfl,rfl,rfl,rfl⟩;iterate 7 ·go_enter func32,ntmps32;go_wp2_with fail;refine Ah (Am rfl _ _ _) rfl ?_;exact⟨by rw [<- hR1.out];rfl,(hB0 _)⟩
 have te:=Aa (Hp v.prev);have hR2:Hid (jQ (if (b8 != v.prev.isEmpty||(!v.prev.isEmpty&&!b10))=true then none else (fB v.acts).map (CH.words (F0 v)++[10]++·))=R):=Aa (by rw [<- hR1.out];cases v.prev <;> rfl);clear hR1;obtain⟨b9,h9⟩:∃ b,v.prev.isEmpty=b:=⟨_,rfl⟩
 rw [h9] at hR2;have hbW:=fun o=>Aa (Au w o);rcases (by cases b8 <;> cases b9 <;> cases b10 <;> simp:(b8=true/\b9=false)\/(b8=false/\b9=true)\/(b8=false/\b9=false/\b10=false)\/(b8=true/\b9=true)\/(b8=false/\b9=false/\b10=true)) with⟨rfl,rfl⟩|⟨rfl,rfl⟩|⟨rfl,rfl,rfl⟩|⟨rfl,rfl⟩|⟨rfl,rfl,rfl⟩;·exact FD115
 ·exact FD115
 ·go_enter func32,ntmps32;go_wp2_with fail;refine (D.out _).mono ?_;rintro e w1 ⟨rfl,hb1⟩;clear D;go_wp2;refine Ah (Am rfl _ _ _) rfl ?_;exact⟨by rw [<- hR2.out];rfl,(hB0 _).trans (hb1.mono sM)⟩
 ·go_enter func32,ntmps32;go_wp2_with fail;have hB1:=hB0 (.cells #[↑v.authority,↑v.number,↑v.pos,↑v.prev,.slice aa N ca,↑v.sel.index,v1,v2] 31);have hlt1:w.heap.size<(w.alloc (.cells #[↑v.authority,↑v.number,↑v.pos,↑v.prev,.slice aa N ca,↑v.sel.index,v1,v2] 31)).heap.size:=sM;have k4:(w.alloc (.cells #[↑v.authority,↑v.number,↑v.pos,↑v.prev,.slice aa N ca,↑v.sel.index,v1,v2] 31)).cell? ⟨w,4,none⟩=some (.slice aa N ca):=Ab (Au w _) 4;have hXs:w.heap.size+1=(w.alloc (.cells #[↑v.authority,↑v.number,↑v.pos,↑v.prev,.slice aa N ca,↑v.sel.index,v1,v2] 31)).heap.size:=sM;rw [hXs];generalize w.alloc (.cells #[↑v.authority,↑v.number,↑v.pos,↑v.prev,.slice aa N ca,↑v.sel.index,v1,v2] 31)=W1 at *;clear hXs hB0 hW hbW D;exact FD1
 ·go_enter func32,ntmps32;go_wp2_with fail;refine (D.out _).mono ?_;rintro e W1 ⟨rfl,hb1⟩;have hB1:Below w w W1:=(hB0 _).trans (hb1.mono sM);have hblk:=(hb1.block w sM).trans (hW _);have hlt1:w.heap.size<W1.heap.size:=(aZ hblk)
  have k0:W1.cell? ⟨w,0,none⟩=some ↑v.authority:=Ab hblk 0;have k1:W1.cell? ⟨w,1,none⟩=some ↑v.number:=Ab hblk 1;have k2:W1.cell? ⟨w,2,none⟩=some ↑v.pos:=Ab hblk 2;have k3:W1.cell? ⟨w,3,none⟩=some ↑v.prev:=Ab hblk 3;have k4:W1.cell? ⟨w,4,none⟩=some (.slice aa N ca):=Ab hblk 4;clear hb1 hblk hB0 hW hbW D;go_wp2_with fail;exact FD1
theorem H1n (a:CH.Act) (s:eX) (w:ZB) (hG:Gc w) (h:fJ w w a s) (U:∀ W,Below w w W->ZE prog 37 #[.agg (Av a s).toArray] W (Ret W (.bool (CH.unused a)))) : ZE prog 17 #[.agg (Av a s).toArray] w (Ret w (bQ (aQ a))):=by
 obtain⟨R,hR⟩:∃ R,Hid (bQ (aQ a)=R):=⟨_,Aa rfl⟩
 rw [hR.out];have HH:=Aa fun (W:ZB) (hb:Below w w W)=>(h.below hb nR).mono hb.size;have hB0:=fun o=>(Ac _ w).alloc nR o;have HS:=Aa h.small;obtain⟨vn,vk,vm,vp,vj⟩:=s;clear h;generalize hC:Av a { vn:=vn,vk:=vk,vm:=vm,vp:=vp,vj:=vj }=C at U ⊢;have hlen:(prog.info? 65).map (·.size)=some C.length:=by rw [<- hC];kernel_rfl
 have hC:=Aa hC;have hr0:=Aa (B7 w C 65);have U:=Aa U;obtain⟨u,hu⟩:∃ u,CH.unused a=u:=⟨_,rfl⟩
 rw [hu] at U;have hu:=Aa hu;go_enter func17,ntmps17;go_wp2_with (refine Bf rfl 65 _ rfl w 0 rfl C _ hr0.out underlying65 rfl hlen ?_)
 refine (U.out _ (hB0 _)).mono ?_;rintro e w1 ⟨rfl,hb1⟩;clear U;have hB1:Below w w w1:=(hB0 _).trans (hb1.mono sM);have hlt1:w.heap.size<w1.heap.size:=Ai sM hb1.size;have hr1:w1.rangeAt w 0 C:=Cg hr0.out hb1 sM;rw [<- hC.out] at hr1;have k0:w1.cell? ⟨w,0,none⟩=some ↑a.kind:=hr1 0 _ rfl;have r1:w1.rangeAt w 1 (A9 a.change vn++(A4 a.measure vk++(Bu a.licence vm vp++(A5 a.holding vj++[ay a.id,aJ a.n])))):=Dd (l:=[aJ a.kind]) hr1 1 rfl;have r6:=Dd r1 6 rfl;have r18:=Dd r6 18 rfl;have r25:=Dd r18 25 rfl;have r35:=Dd r25 35 rfl;have r1:=Aa (Hh r1);have r6:=Aa (Hh r6);have r18:=Aa (Hh r18);have r25:=Aa (Hh r25);have r35:=Aa r35;clear hb1 hB0 hr0 hr1 hC hlen;cases u with
 |false =>go_wp2;refine Ah (Am rfl _ _ _) rfl ?_;exact⟨by rw [<- hR.out];unfold aQ;rw [hu.out];rfl,hB1⟩
 |true =>
  rcases Zy a.kind with hk|hk|hk|hk|hk|hk|hk|hk
  ·rw [hk] at k0;have hR1:Hid (bQ ((bM a.change).map (([99,104,97,110,103,101,32]:List UInt8)++·))=R):=Aa (by rw [<- hR.out];unfold aQ;rw [hu.out,hk];rfl);have T:=Bst vn a.change w1 (hG.below hB1) (HH.out w1 hB1).names HS.out.change HS.out.pos.1 HS.out.pos.2;obtain⟨t,ht⟩:∃ t,bM a.change=t:=⟨_,rfl⟩
   have hl:∀ x,t=some x->x.length<=1000000:=fun x hx=>Up (ht.trans hx) HS.out.change HS.out.pos;rw [ht] at T hR1;clear ht;have hcl:(prog.info? 56).map (·.size)=some (A9 a.change vn).length:=kR;generalize A9 a.change vn=CC at *;have T:=Aa T;go_wp2_with (refine Bf rfl 56 _ rfl w 1 rfl CC _ r1.out underlying56 rfl hcl ?_)
   refine T.out.mono ?_;rintro e w2 ⟨rfl,hb2⟩;clear T;cases t with
   |none =>exact FD37
   |some t =>have hl:=hl t rfl;have hl4:¬ (9223372036854775807<7+t.length):=oM;exact FD37
  ·rw [hk] at k0;have hR1:Hid (bQ ((cu a.measure).map (([109,101,97,115,117,114,101,32]:List UInt8)++·))=R):=Aa (by rw [<- hR.out];unfold aQ;rw [hu.out,hk];rfl);have T:=Va a.measure vk w1 (hG.below hB1).gl (HH.out w1 hB1).meas;obtain⟨t,ht⟩:∃ t,cu a.measure=t:=⟨_,rfl⟩
   have hl:∀ x,t=some x->x.length<=100000000:=fun x hx=>S1 (ht.trans hx) (HH.out w1 hB1).meas;rw [ht] at T hR1;clear ht;have hcl:(prog.info? 61).map (·.size)=some (A4 a.measure vk).length:=kR;generalize A4 a.measure vk=CC at *;have T:=Aa T;go_wp2_with (refine Bf rfl 61 _ rfl w 6 rfl CC _ r6.out underlying61 rfl hcl ?_)
   refine T.out.mono ?_;rintro e w2 ⟨rfl,hb2⟩;clear T;cases t with
   |none =>exact FD37
   |some t =>have hl:=hl t rfl;have hl4:¬ (9223372036854775807<8+t.length):=oM;exact FD37
  ·rw [hk] at k0;have hR1:Hid (bQ (if aO a.licence=true then some (CH.words (Mg a.licence)++[59]) else none)=R):=Aa (by rw [<- hR.out];unfold aQ;rw [hu.out,hk];rfl);have hcl:(prog.info? 63).map (·.size)=some (Bu a.licence vm vp).length:=kR;have h1c:∀ v∈Bu a.licence vm vp,v.oneCell'=true:=by
    obtain⟨_,_,e1,_,_⟩:=(HH.out w1 hB1).lm.form;obtain⟨_,_,e2,_,_⟩:=(HH.out w1 hB1).lp.form;change vm=_ at e1;change vp=_ at e2;intro v hv;simp only [Bu,A8,Bc,Dj] at hv;rcases hv with rfl|rfl|rfl|rfl|rfl|rfl|rfl;·rfl
    ·rw [e1];rfl
    ·rw [e2];rfl
    all_goals rfl
   have T:=Aa fun (W:ZB) (hb:Below w w W)=>Bsu (Bu a.licence vm vp) a.licence W ⟨vm,vp,rfl,(HH.out W hb).lm,(HH.out W hb).lp⟩ HS.out.lid HS.out.lm HS.out.lp;have hn1:=Aa (B7 w1 (Bu a.licence vm vp) 63);obtain⟨ok,hok⟩:∃ ok,aO a.licence=ok:=⟨_,rfl⟩
   rw [hok] at T hR1;have hok:=Aa hok;generalize hLL:Bu a.licence vm vp=LL at *;have hLL:=Aa hLL;have hBa:=fun o=>hB1.alloc hB1.size o;go_wp2_with (first|refine Bf rfl 63 _ rfl w 18 rfl LL _ r18.out underlying63 rfl hcl ?_|refine Ca rfl 63 _ _ rfl LL rfl rfl (by rw [<- hLL.out];rfl) hcl h1c ?_|refine Bf rfl 63 _ rfl w1 0 rfl LL _ hn1.out underlying63 rfl hcl ?_)
   refine (T.out _ (hBa _)).mono ?_;rintro e w2 ⟨rfl,hb2⟩;clear T;have hB2:Below w w w2:=(hBa _).trans (hb2.mono (hBa _).size);have hr2:w2.rangeAt w1 0 LL:=Cg hn1.out hb2 sM;rw [<- hLL.out] at hr2;cases ok with
   |false =>exact FD95
   |true =>
    have hA2:=HH.out w2 hB2;have hlm:Strs w2 w2 vm a.licence.measures:=hA2.lm;have hlp:Strs w2 w2 vp a.licence.aG:=hA2.lp;obtain⟨q1,q2,q3,q4,q5,q6⟩:=Z2 hok.out;obtain⟨am,cm,rfl,_,_⟩:=hlm.form;obtain⟨ap,cp,rfl,_,_⟩:=hlp.form;have g0:w2.cell? ⟨w1,0,none⟩=some (ay a.licence.id):=hr2 0 _ rfl;have g1:w2.cell? ⟨w1,1,none⟩=some (.slice am a.licence.measures.length cm):=hr2 1 _ rfl;have g2:w2.cell? ⟨w1,2,none⟩=some (.slice ap a.licence.aG.length cp):=hr2 2 _ rfl;have g3:w2.cell? ⟨w1,3,none⟩=some ↑a.licence.quota:=hr2 3 _ rfl;have g4:w2.cell? ⟨w1,4,none⟩=some ↑a.licence.uses:=hr2 4 _ rfl;have g5:w2.cell? ⟨w1,5,none⟩=some ↑a.licence.start:=hr2 5 _ rfl;have g6:w2.cell? ⟨w1,6,none⟩=some ↑a.licence.aF:=hr2 6 _ rfl;have hwl:=Qz hok.out HS.out.lid HS.out.lm HS.out.lp;have hWV:Ke w2 w2 (Mg a.licence) [.iface 9 (ay ([108,105,99,101,110,99,101]:List UInt8)),.iface 9 (ay a.licence.id),.iface 3 ↑a.licence.quota,.iface 3 ↑a.licence.uses,.iface 3 ↑a.licence.start,.iface 3 ↑a.licence.aF,.iface 3 ↑a.licence.measures.length,.iface 22 (.slice am a.licence.measures.length cm),.iface 22 (.slice ap a.licence.aG.length cp)] := ⟨rfl,rfl,⟨rfl,q3⟩,⟨rfl,q4⟩,⟨rfl,q5⟩,⟨rfl,q6⟩,⟨rfl,oM,oM⟩,⟨_,rfl,hlm,oM⟩,⟨_,rfl,hlp,oM⟩,trivial⟩
    have WN:=Aa fun T=>Ln (Mg a.licence) _ T 9 w2 (hG.below hB2).gl hWV rfl dC oM;generalize hWW:CH.words (Mg a.licence)=WW at *;have hl4:¬ (9223372036854775807<WW.length+1):=oM;have hR2:Hid (bQ (some (WW++[59]))=R):=Aa (by rw [<- hR1.out,Ap rfl]);clear hR1 hr2 hWV hlm hlp hA2 q1 q2 q3 q4 q5 q6 hn1 hLL;generalize a.licence.measures.length=nm at *;generalize a.licence.aG.length=np at *;exact FD60
  ·rw [hk] at k0;have hR1:Hid (bQ (if bD a.holding=true then some (CH.words (Ks a.holding)++[59]) else none)=R):=Aa (by rw [<- hR.out];unfold aQ;rw [hu.out,hk];rfl);have hcl:(prog.info? 51).map (·.size)=some (A5 a.holding vj).length:=kR;have h1c:∀ v∈A5 a.holding vj,v.oneCell'=true:=by
    obtain⟨_,_,e1,_,_⟩:=(HH.out w1 hB1).hj.form;change vj=_ at e1;intro v hv;simp only [A5,A8,Bc,Dj] at hv;rcases hv with rfl|rfl|rfl|rfl|rfl|rfl|rfl|rfl|rfl|rfl;·rfl
    ·rfl
    ·rfl
    ·rfl
    ·rfl
    ·rw [e1];rfl
    all_goals rfl
   have hn1:=Aa (B7 w1 (A5 a.holding vj) 51);obtain⟨ok,hok⟩:∃ ok,bD a.holding=ok:=⟨_,rfl⟩
   rw [hok] at hR1;have hok:=Aa hok;generalize hLL:A5 a.holding vj=LL at *;have mO:LL.length=10:=by rw [<- hLL];rfl
   have hLL:=Aa hLL;have hBa:=fun o=>hB1.alloc hB1.size o;go_wp2_with (first|refine Bf rfl 51 _ rfl w 25 rfl LL _ r25.out underlying51 rfl hcl ?_|refine Ca rfl 51 _ _ rfl LL rfl rfl (by rw [<- hLL.out];rfl) hcl h1c ?_|refine Bf rfl 51 _ rfl w1 0 rfl LL _ hn1.out underlying51 rfl hcl ?_)
   rw [Tu LL _ (by rw [mO];rfl)];have hBb:Below w w ((w1.alloc (.cells LL.toArray 51)).alloc (.cells LL.toArray 51)):=(hBa _).alloc (hBa _).size _;have T:=Aa (Baz (.slice (some ⟨w1+1,0,none⟩) 1 1) a.holding ((w1.alloc (.cells LL.toArray 51)).alloc (.cells LL.toArray 51)) ⟨w1+1,vj,rfl,sM,fun j x hj=>by rw [hLL.out] at hj;have:=B7 (w1.alloc (.cells LL.toArray 51)) LL 51 j x hj;rwa [Bh,Dt] at this,(HH.out _ hBb).hj⟩ HS.out.hold);refine T.out.mono ?_;rw [hok.out];rintro e w2 ⟨rfl,hb2⟩;clear T;have hB2:Below w w w2:=hBb.trans (hb2.mono hBb.size);have hr2:w2.rangeAt w1 0 LL:=Cg (Nd hn1.out _) hb2 (by simp;omega);rw [<- hLL.out] at hr2;clear mO;cases ok with
   |false =>exact FD95
   |true =>
    have hA2:=HH.out w2 hB2;have hlj:Strs w2 w2 vj a.holding.joint:=hA2.hj;obtain⟨q1,q3,q4,q5,q6⟩:=Z3 hok.out;obtain⟨aj,cj,rfl,_,_⟩:=hlj.form;have g0:w2.cell? ⟨w1,0,none⟩=some (ay a.holding.id):=hr2 0 _ rfl;have g1:w2.cell? ⟨w1,1,none⟩=some (ay a.holding.company):=hr2 1 _ rfl;have g2:w2.cell? ⟨w1,2,none⟩=some (ay a.holding.holder):=hr2 2 _ rfl;have g3:w2.cell? ⟨w1,3,none⟩=some (ay a.holding.ah):=hr2 3 _ rfl;have g4:w2.cell? ⟨w1,4,none⟩=some (ay a.holding.aB):=hr2 4 _ rfl;have g5:w2.cell? ⟨w1,5,none⟩=some (.slice aj a.holding.joint.length cj):=hr2 5 _ rfl;have g6:w2.cell? ⟨w1,6,none⟩=some ↑a.holding.capital:=hr2 6 _ rfl;have g7:w2.cell? ⟨w1,7,none⟩=some ↑a.holding.bZ:=hr2 7 _ rfl;have g8:w2.cell? ⟨w1,8,none⟩=some ↑a.holding.start:=hr2 8 _ rfl;have g9:w2.cell? ⟨w1,9,none⟩=some ↑a.holding.stop:=hr2 9 _ rfl;have hwl:=Z6 hok.out HS.out.hold;have hWV:Ke w2 w2 (Ks a.holding) [.iface 9 (ay ([104,111,108,100,105,110,103]:List UInt8)),.iface 9 (ay a.holding.id),.iface 9 (ay a.holding.company),.iface 9 (ay a.holding.holder),.iface 9 (ay a.holding.ah),.iface 9 (ay a.holding.aB),.iface 3 ↑a.holding.capital,.iface 3 ↑a.holding.bZ,.iface 3 ↑a.holding.start,.iface 3 ↑a.holding.stop,.iface 22 (.slice aj a.holding.joint.length cj)] := ⟨rfl,rfl,rfl,rfl,rfl,rfl,⟨rfl,q3⟩,⟨rfl,q4⟩,⟨rfl,q5⟩,⟨rfl,q6⟩,⟨_,rfl,hlj,oM⟩,trivial⟩
    have WN:=Aa fun T=>Ln (Ks a.holding) _ T 11 w2 (hG.below hB2).gl hWV rfl dC oM;generalize hWW:CH.words (Ks a.holding)=WW at *;have hl4:¬ (9223372036854775807<WW.length+1):=oM;have hR2:Hid (bQ (some (WW++[59]))=R):=Aa (by rw [<- hR1.out,Ap rfl]);clear hR1 hr2 hWV hlj hA2 q1 q3 q4 q5 q6 hn1 hLL;generalize a.holding.joint.length=nj at *;exact FD60
  ·rw [hk] at k0;have hR1:Hid (bQ (if (CH.ident a.id&&CH.within a.n 144001439)=true then some (CH.words (Cl a)++[59]) else none)=R):=Aa (by rw [<- hR.out];unfold aQ Cl;rw [hu.out,hk];rfl);have k35:w1.cell? ⟨w,35,none⟩=some (ay a.id):=r35.out 0 _ rfl;have k36:w1.cell? ⟨w,36,none⟩=some ↑a.n:=r35.out 1 _ rfl;have I:=Od a.id w1 (Ag HS.out.id dC);obtain⟨bi,hbi⟩:∃ b,CH.ident a.id=b:=⟨_,rfl⟩
   rw [hbi] at I hR1;have I:=Aa I;clear hbi;go_wp2_with fail;refine I.out.mono ?_;rintro e w2 ⟨rfl,hb2⟩;have hB2:Below w w w2:=hB1.trans (hb2.mono hB1.size);have m0:=(hb2.cell (p:=⟨w,0,none⟩) hlt1).trans k0;have m35:=(hb2.cell (p:=⟨w,35,none⟩) hlt1).trans k35;have m36:=(hb2.cell (p:=⟨w,36,none⟩) hlt1).trans k36;clear I k0 k35 k36;obtain⟨c1,hc1⟩:∃ b,ZH (0<=a.n)=b:=⟨_,rfl⟩
   obtain⟨c2,hc2⟩:∃ b,ZH (a.n<=144001439)=b:=⟨_,rfl⟩
   have hR2:Hid (bQ (if (bi&&(c1&&c2))=true then some (CH.words (Cl a)++[59]) else none)=R):=Aa (by rw [<- hR1.out];unfold CH.within;rw [hc1,hc2]);clear hR1;rcases (by cases bi <;> cases c1 <;> cases c2 <;> simp:(bi=false)\/(bi=true/\c1=false)\/(bi=true/\c1=true/\c2=false)\/(bi=true/\c1=true/\c2=true)) with rfl|⟨rfl,rfl⟩|⟨rfl,rfl,rfl⟩|⟨rfl,rfl,rfl⟩;iterate 3 ·go_wp2;refine Ah (Am rfl _ _ _) rfl ?_;exact⟨by rw [<- hR2.out];rfl,hB2⟩
   have hmm:=@Ij prog;obtain⟨o1,o2,o3,u1,u2,u3,um⟩:=Rs w2 5 3 7 ([114,101,118,111,107,101]:List UInt8) ([114,101,112,101,97,108]:List UInt8) ([101,110,100]:List UInt8) rfl rfl rfl;have ul:=Dm My underlying106 (.string ⟨#[]⟩) Vk um 5;have ule:((Ch (5:Int) [((5:Int),ay ([114,101,118,111,107,101]:List UInt8)),(3,ay ([114,101,112,101,97,108]:List UInt8)),(7,ay ([101,110,100]:List UInt8))] 0).map (·.2)).getD (.string ⟨#[]⟩)=ay ([114,101,118,111,107,101]:List UInt8):=rfl;rw [ule] at ul;have hBX:Below w2 w2 ((((w2.alloc (.map #[] 0)).putObj w2.heap.size o1).putObj w2.heap.size o2).putObj w2.heap.size o3):=Bt (Bt (Bt ((Ac _ w2).alloc nR _) nR _) nR _) nR _;have hXs:((((w2.alloc (.map #[] 0)).putObj w2.heap.size o1).putObj w2.heap.size o2).putObj w2.heap.size o3).heap.size=w2.heap.size+1:=sM;have hl2:w.heap.size<w2.heap.size:=Ai hlt1 hb2.size;have x0:=(hBX.cell (p:=⟨w,0,none⟩) hl2).trans m0;have x35:=(hBX.cell (p:=⟨w,35,none⟩) hl2).trans m35;have x36:=(hBX.cell (p:=⟨w,36,none⟩) hl2).trans m36;have hBX:=Aa (hB2.trans (hBX.mono hB2.size));have hXs:=Aa hXs;have hR3:Hid (bQ (some (CH.words (Cl a)++[59]))=R):=Aa (by rw [<- hR2.out];rfl);clear um ule hR2;go_wp2_with fail;rw [<- hXs.out];clear u1 u2 u3 ul hmm hXs;generalize ((((w2.alloc (.map #[] 0)).putObj w2.heap.size o1).putObj w2.heap.size o2).putObj w2.heap.size o3)=X at *;have hwl:=M6 HS.out.id HS.out.n;have hWV:Ke X X (Cl a) [.iface 9 (ay ([114,101,118,111,107,101]:List UInt8)),.iface 9 (ay a.id),.iface 3 ↑a.n]:=by exact FD111
   have WN:=Aa fun T=>Ln (Cl a) _ T 3 X (hG.below hBX.out).gl hWV rfl dC oM;generalize hWW:CH.words (Cl a)=WW at *;have hl4:¬ (9223372036854775807<WW.length+1):=oM;refine (WN.out _).mono ?_;rintro e w3 ⟨rfl,hb3⟩;clear WN hWV;go_wp2;refine Ah (Am rfl _ _ _) rfl ?_;exact⟨by rw [<- hR3.out];rfl,(hBX.out.alloc hBX.out.size _).trans (hb3.mono (hBX.out.alloc hBX.out.size _).size)⟩
  ·rw [hk] at k0;have hR1:Hid (bQ (if (CH.ident a.id&&CH.within a.n 100000)=true then some (CH.words (Cl a)++[59]) else none)=R):=Aa (by rw [<- hR.out];unfold aQ Cl;rw [hu.out,hk];rfl);have k35:w1.cell? ⟨w,35,none⟩=some (ay a.id):=r35.out 0 _ rfl;have k36:w1.cell? ⟨w,36,none⟩=some ↑a.n:=r35.out 1 _ rfl;have I:=Od a.id w1 (Ag HS.out.id dC);obtain⟨bi,hbi⟩:∃ b,CH.ident a.id=b:=⟨_,rfl⟩
   rw [hbi] at I hR1;have I:=Aa I;clear hbi;go_wp2_with fail;refine I.out.mono ?_;rintro e w2 ⟨rfl,hb2⟩;have hB2:Below w w w2:=hB1.trans (hb2.mono hB1.size);have m0:=(hb2.cell (p:=⟨w,0,none⟩) hlt1).trans k0;have m35:=(hb2.cell (p:=⟨w,35,none⟩) hlt1).trans k35;have m36:=(hb2.cell (p:=⟨w,36,none⟩) hlt1).trans k36;clear I k0 k35 k36;obtain⟨c1,hc1⟩:∃ b,ZH (0<=a.n)=b:=⟨_,rfl⟩
   obtain⟨c2,hc2⟩:∃ b,ZH (a.n<=100000)=b:=⟨_,rfl⟩
   have hR2:Hid (bQ (if (bi&&(c1&&c2))=true then some (CH.words (Cl a)++[59]) else none)=R):=Aa (by rw [<- hR1.out];unfold CH.within;rw [hc1,hc2]);clear hR1;rcases (by cases bi <;> cases c1 <;> cases c2 <;> simp:(bi=false)\/(bi=true/\c1=false)\/(bi=true/\c1=true/\c2=false)\/(bi=true/\c1=true/\c2=true)) with rfl|⟨rfl,rfl⟩|⟨rfl,rfl,rfl⟩|⟨rfl,rfl,rfl⟩;iterate 3 ·go_wp2;refine Ah (Am rfl _ _ _) rfl ?_;exact⟨by rw [<- hR2.out];rfl,hB2⟩
   have hmm:=@Ij prog;obtain⟨o1,o2,o3,u1,u2,u3,um⟩:=Rs w2 5 3 7 ([114,101,118,111,107,101]:List UInt8) ([114,101,112,101,97,108]:List UInt8) ([101,110,100]:List UInt8) rfl rfl rfl;have ul:=Dm My underlying106 (.string ⟨#[]⟩) Vk um 3;have ule:((Ch (3:Int) [((5:Int),ay ([114,101,118,111,107,101]:List UInt8)),(3,ay ([114,101,112,101,97,108]:List UInt8)),(7,ay ([101,110,100]:List UInt8))] 0).map (·.2)).getD (.string ⟨#[]⟩)=ay ([114,101,112,101,97,108]:List UInt8):=rfl;rw [ule] at ul;have hBX:Below w2 w2 ((((w2.alloc (.map #[] 0)).putObj w2.heap.size o1).putObj w2.heap.size o2).putObj w2.heap.size o3):=Bt (Bt (Bt ((Ac _ w2).alloc nR _) nR _) nR _) nR _;have hXs:((((w2.alloc (.map #[] 0)).putObj w2.heap.size o1).putObj w2.heap.size o2).putObj w2.heap.size o3).heap.size=w2.heap.size+1:=sM;have hl2:w.heap.size<w2.heap.size:=Ai hlt1 hb2.size;have x0:=(hBX.cell (p:=⟨w,0,none⟩) hl2).trans m0;have x35:=(hBX.cell (p:=⟨w,35,none⟩) hl2).trans m35;have x36:=(hBX.cell (p:=⟨w,36,none⟩) hl2).trans m36;have hBX:=Aa (hB2.trans (hBX.mono hB2.size));have hXs:=Aa hXs;have hR3:Hid (bQ (some (CH.words (Cl a)++[59]))=R):=Aa (by rw [<- hR2.out];rfl);clear um ule hR2;go_wp2_with fail;rw [<- hXs.out];clear u1 u2 u3 ul hmm hXs;generalize ((((w2.alloc (.map #[] 0)).putObj w2.heap.size o1).putObj w2.heap.size o2).putObj w2.heap.size o3)=X at *;have hwl:=M6 HS.out.id HS.out.n;have hWV:Ke X X (Cl a) [.iface 9 (ay ([114,101,112,101,97,108]:List UInt8)),.iface 9 (ay a.id),.iface 3 ↑a.n]:=by exact FD111
   have WN:=Aa fun T=>Ln (Cl a) _ T 3 X (hG.below hBX.out).gl hWV rfl dC oM;generalize hWW:CH.words (Cl a)=WW at *;have hl4:¬ (9223372036854775807<WW.length+1):=oM;refine (WN.out _).mono ?_;rintro e w3 ⟨rfl,hb3⟩;clear WN hWV;go_wp2;refine Ah (Am rfl _ _ _) rfl ?_;exact⟨by rw [<- hR3.out];rfl,(hBX.out.alloc hBX.out.size _).trans (hb3.mono (hBX.out.alloc hBX.out.size _).size)⟩
  ·rw [hk] at k0;have hR1:Hid (bQ (if (CH.ident a.id&&CH.within a.n 100000)=true then some (CH.words (Cl a)++[59]) else none)=R):=Aa (by rw [<- hR.out];unfold aQ Cl;rw [hu.out,hk];rfl);have k35:w1.cell? ⟨w,35,none⟩=some (ay a.id):=r35.out 0 _ rfl;have k36:w1.cell? ⟨w,36,none⟩=some ↑a.n:=r35.out 1 _ rfl;have I:=Od a.id w1 (Ag HS.out.id dC);obtain⟨bi,hbi⟩:∃ b,CH.ident a.id=b:=⟨_,rfl⟩
   rw [hbi] at I hR1;have I:=Aa I;clear hbi;go_wp2_with fail;refine I.out.mono ?_;rintro e w2 ⟨rfl,hb2⟩;have hB2:Below w w w2:=hB1.trans (hb2.mono hB1.size);have m0:=(hb2.cell (p:=⟨w,0,none⟩) hlt1).trans k0;have m35:=(hb2.cell (p:=⟨w,35,none⟩) hlt1).trans k35;have m36:=(hb2.cell (p:=⟨w,36,none⟩) hlt1).trans k36;clear I k0 k35 k36;obtain⟨c1,hc1⟩:∃ b,ZH (0<=a.n)=b:=⟨_,rfl⟩
   obtain⟨c2,hc2⟩:∃ b,ZH (a.n<=100000)=b:=⟨_,rfl⟩
   have hR2:Hid (bQ (if (bi&&(c1&&c2))=true then some (CH.words (Cl a)++[59]) else none)=R):=Aa (by rw [<- hR1.out];unfold CH.within;rw [hc1,hc2]);clear hR1;rcases (by cases bi <;> cases c1 <;> cases c2 <;> simp:(bi=false)\/(bi=true/\c1=false)\/(bi=true/\c1=true/\c2=false)\/(bi=true/\c1=true/\c2=true)) with rfl|⟨rfl,rfl⟩|⟨rfl,rfl,rfl⟩|⟨rfl,rfl,rfl⟩;iterate 3 ·go_wp2;refine Ah (Am rfl _ _ _) rfl ?_;exact⟨by rw [<- hR2.out];rfl,hB2⟩
   have hmm:=@Ij prog;obtain⟨o1,o2,o3,u1,u2,u3,um⟩:=Rs w2 5 3 7 ([114,101,118,111,107,101]:List UInt8) ([114,101,112,101,97,108]:List UInt8) ([101,110,100]:List UInt8) rfl rfl rfl;have ul:=Dm My underlying106 (.string ⟨#[]⟩) Vk um 7;have ule:((Ch (7:Int) [((5:Int),ay ([114,101,118,111,107,101]:List UInt8)),(3,ay ([114,101,112,101,97,108]:List UInt8)),(7,ay ([101,110,100]:List UInt8))] 0).map (·.2)).getD (.string ⟨#[]⟩)=ay ([101,110,100]:List UInt8):=rfl;rw [ule] at ul;have hBX:Below w2 w2 ((((w2.alloc (.map #[] 0)).putObj w2.heap.size o1).putObj w2.heap.size o2).putObj w2.heap.size o3):=Bt (Bt (Bt ((Ac _ w2).alloc nR _) nR _) nR _) nR _;have hXs:((((w2.alloc (.map #[] 0)).putObj w2.heap.size o1).putObj w2.heap.size o2).putObj w2.heap.size o3).heap.size=w2.heap.size+1:=sM;have hl2:w.heap.size<w2.heap.size:=Ai hlt1 hb2.size;have x0:=(hBX.cell (p:=⟨w,0,none⟩) hl2).trans m0;have x35:=(hBX.cell (p:=⟨w,35,none⟩) hl2).trans m35;have x36:=(hBX.cell (p:=⟨w,36,none⟩) hl2).trans m36;have hBX:=Aa (hB2.trans (hBX.mono hB2.size));have hXs:=Aa hXs;have hR3:Hid (bQ (some (CH.words (Cl a)++[59]))=R):=Aa (by rw [<- hR2.out];rfl);clear um ule hR2;go_wp2_with fail;rw [<- hXs.out];clear u1 u2 u3 ul hmm hXs;generalize ((((w2.alloc (.map #[] 0)).putObj w2.heap.size o1).putObj w2.heap.size o2).putObj w2.heap.size o3)=X at *;have hwl:=M6 HS.out.id HS.out.n;have hWV:Ke X X (Cl a) [.iface 9 (ay ([101,110,100]:List UInt8)),.iface 9 (ay a.id),.iface 3 ↑a.n]:=by exact FD111
   have WN:=Aa fun T=>Ln (Cl a) _ T 3 X (hG.below hBX.out).gl hWV rfl dC oM;generalize hWW:CH.words (Cl a)=WW at *;have hl4:¬ (9223372036854775807<WW.length+1):=oM;refine (WN.out _).mono ?_;rintro e w3 ⟨rfl,hb3⟩;clear WN hWV;go_wp2;refine Ah (Am rfl _ _ _) rfl ?_;exact⟨by rw [<- hR3.out];rfl,(hBX.out.alloc hBX.out.size _).trans (hb3.mono (hBX.out.alloc hBX.out.size _).size)⟩
  ·obtain⟨n1,n2,n4,n6,n5,n3,n7⟩:=hk;have b1:(a.kind==1)=false:=by simpa using n1
   have b2:(a.kind==2)=false:=by simpa using n2
   have b4:(a.kind==4)=false:=by simpa using n4
   have b6:(a.kind==6)=false:=by simpa using n6
   have b5:(a.kind==5)=false:=by simpa using n5
   have b3:(a.kind==3)=false:=by simpa using n3
   have b7:(a.kind==7)=false:=by simpa using n7
   have hR1:Hid (bQ none=R):=Aa (by rw [<- hR.out];unfold aQ;rw [hu.out,if_neg dC,if_neg n1,if_neg n2,if_neg n4,if_neg n6,if_neg oM]);clear n1 n2 n4 n6 n5 n3 n7;go_wp2;refine Ah (Am rfl _ _ _) rfl ?_;exact⟨by rw [<- hR1.out];rfl,hB1⟩
end
section
open Go.Lib Go.Proofs.Tryz Go.RowKit Go.Shelf Go.Sort CH
attribute [local go_sem] I8
theorem Uf (v:ZC) (ls:List (List UInt8)) (w:ZB) (hG:Gl w) (hv:Strs w w v ls) (hl:∀ l∈ls,l.length<=9223372036854775807) : ZE prog 125 #[v] w (Ret w (.bool (ls.any fun l=>!aC l))):=by have hC:=T8 _ _ _ Kn8 v ls w hG hv hl;have HC:=Aa hC;clear hC hv hl;go_enter func125,ntmps125;go_wp2_with fail;refine HC.out.mono ?_;rintro e w1 ⟨rfl,hb⟩;clear HC;go_wp2;go_ret;exact⟨rfl,hb⟩
def S4 (pub m:List UInt8) (idx:Int) (sig path:List (List UInt8)):Bool := sig.length==18&&(ZH (path.length<=8)&&(!(sig.any fun l=>!aC l)&&(!(path.any fun l=>!aC l)&&(ZH (0<=idx)&&(ZH (idx<2 ^ path.length) && dU pub (2 ^ path.length) idx.toNat (CH.dl (CH.ends sig m)) path)))))
structure uT (wq:ZB) (B i:Nat) (v1 v2:ZC) (sig:List (List UInt8)) (pre:List DP) (W:ZB):Prop where
 le:wq.heap.size+2<=W.heap.size
 box:W.heap[B]?=some (.cells #[↑i,v1,v2] 29 (0,0))
 ends:∃ v,W.heap[wq.heap.size]?=some (.cells #[v] 22 (0,0))/\Ay (wq+2) W v (pre.map fun x=>CH.chain (15 - x.2.val) (sig.getD x.1.val []))
 below:Below wq wq W
theorem uT.own (wq:ZB) (B i:Nat) (v1 v2:ZC) (sig:List (List UInt8)) (hBq:B<wq.heap.size) (C:Nat) (hC:wq.heap.size+2<=C):OwnFrom C (uT wq B i v1 v2 sig):=by intro pre W W' row h hg hr;obtain⟨h1,h2,⟨v,h5,h6⟩,h7⟩:=h;have key:∀ k,k<wq.heap.size+2->W'.heap[k]?=W.heap[k]?:=fun k hk=>hg.block k oM (fun e=>by have:=(hr k e.symm).1;omega);have hsz:=hg.size;exact⟨oM,(key B oM).trans h2,⟨v,(key _ oM).trans h5,Kn h6 hg (fun r e=>(hr r e).2)⟩, ⟨hg.os.trans h7.os,hg.tape.trans h7.tape,hg.output.trans h7.output,Ag h7.size hsz,fun k hk=>(key k oM).trans (h7.block k hk)⟩⟩
theorem Ch5 (h:Nat) (hh:h<=8):IntKind.i64.wrap ((2:Int) ^ h)=(2:Int) ^ h:=by rcases h with _|_|_|_|_|_|_|_|_|h;all_goals first|decide +kernel|omega
theorem M10 (sig:List (List UInt8)) (m:List UInt8) (hs:sig.length=18):CH.ends sig m=(eP m).map fun x=>CH.chain (15 - x.2.val) (sig.getD x.1.val []):=by
 apply Jp;intro k;unfold CH.ends;have hl:=CH.length_digits m;by_cases hk:k<18
 ·obtain⟨d,hg⟩:∃ d,(CH.digits m)[k]?=some d:=⟨_,Ad oM⟩
  obtain⟨t,hg2⟩:∃ t,sig[k]?=some t:=⟨_,Ad oM⟩
  obtain⟨hd,h2⟩:=jE m k d hk hg;have hgd:sig.getD k []=t:=by simp [hg2]
  have hz:((CH.digits m).zip sig)[k]?=some (d,t):=List.getElem?_zip_eq_some.2 ⟨hg,hg2⟩;rw [Fe,Fe,h2,hz];simp only [Gv,hgd]
 ·rw [Gm,Gm];·rw [Cm,dO];omega
  ·rw [Cm,List.length_zip,hl];omega
theorem Log (sig:List (List UInt8)) (m:List UInt8) (hs:∀ l∈sig,l.length<=1000000):∀ l∈CH.ends sig m,l.length<=1000000:=by
 intro l hl;unfold CH.ends at hl;obtain⟨⟨d,t⟩,hx,rfl⟩:=Eo.1 hl;have ht:=hs t (List.of_mem_zip hx).2;cases h:15 - d with
 |zero=>simpa [CH.chain,h] using ht
 |succ n=>simp only [h];rw [jq];simp [eu]
theorem Z7 (w:ZB) (o1 o2:Obj):((w.alloc o1).alloc o2).heap[w.heap.size]?=some o1/\((w.alloc o1).alloc o2).heap[w.heap.size+1]?=some o2:=by exact FD140
theorem Geo (pub m:List UInt8) (idx:Int) (v1 v2:ZC) (sig path:List (List UInt8)) (w:ZB) (hG:Gl w) (hm:m.length<=1000000) (h1:Strs w.heap.size w v1 sig) (h2:Strs w.heap.size w v2 path) (hl1:∀ l∈sig,l.length<=1000000) (hl2:∀ l∈path,l.length<=1000000) (hx:-9223372036854775808<=idx/\idx<=9223372036854775807) : ZE prog 77 #[.string ⟨pub.toArray⟩,.string ⟨m.toArray⟩,.agg #[.int .i64 idx,v1,v2]] w (Ret w (.bool (S4 pub m idx sig path))):=by
 have c1:∀ W,Below w.heap.size w W->ZE prog 125 #[v1] W (fun e w'=>e=.returned (.bool (sig.any fun l=>!aC l))/\Below W.heap.size W w'):=fun W hb =>Uf v1 sig W (hG.below hb) ((h1.below hb nR).mono hb.size) (fun l hl=>by have:=hl1 l hl;omega);have c2:∀ W,Below w.heap.size w W->ZE prog 125 #[v2] W (fun e w'=>e=.returned (.bool (path.any fun l=>!aC l))/\Below W.heap.size W w'):=fun W hb =>Uf v2 path W (hG.below hb) ((h2.below hb nR).mono hb.size) (fun l hl=>by have:=hl2 l hl;omega);obtain⟨a1,k1,e1,hk1,tq,EP⟩:=id h1;obtain⟨a2,k2,e2,hk2,sZ,-⟩:=id h2;have hsig:sig.length=18->∃ b off,a1=some ⟨b,off,none⟩/\b<w.heap.size/\∀ j l,sig[j]?=some l->w.cell? ⟨b,off+j,none⟩=some (.string ⟨l.toArray⟩):=fun h=>EP (fun e=>by rw [e] at h;simp at h);subst e1 e2;have H1:=Aa h1;have H2:=Aa h2;have HV:Hid (S4 pub m idx sig path=(sig.length==18&&(ZH (path.length<=8)&&(!(sig.any fun l=>!aC l)&&(!(path.any fun l=>!aC l)&&(ZH (0<=idx)&&(ZH (idx<2 ^ path.length) &&
  dU pub (2 ^ path.length) idx.toNat (CH.dl (CH.ends sig m)) path))))))):=rfl
 generalize hV:S4 pub m idx sig path=V at HV;clear h1 h2 hV;generalize hn1:sig.length=n1 at *;generalize hn2:path.length=n2 at *;generalize hb1:(sig.any fun l=>!aC l)=b1 at *;generalize hb2:(path.any fun l=>!aC l)=b2 at *;have r1:∀ (d:Nat) (os:Array Obj),ZE prog 125 #[.slice a1 n1 k1] (Sort.grow (ZI (w.alloc (.cells #[.int .i64 idx,.slice a1 n1 k1,.slice a2 n2 k2] 29)) d) os) fun e w''=>e=.returned (.bool b1)/\∃ p:Regrown,w''=Sort.grow (ZI (w.alloc (.cells #[.int .i64 idx,.slice a1 n1 k1,.slice a2 n2 k2] 29)) p.d) p.os:=fun d os =>Bg (c1 _ ((Cq w _).trans ((Dx _ d os).mono sM)));have r2:∀ (d:Nat) (os:Array Obj),ZE prog 125 #[.slice a2 n2 k2] (Sort.grow (ZI (w.alloc (.cells #[.int .i64 idx,.slice a1 n1 k1,.slice a2 n2 k2] 29)) d) os) fun e w''=>e=.returned (.bool b2)/\∃ p:Regrown,w''=Sort.grow (ZI (w.alloc (.cells #[.int .i64 idx,.slice a1 n1 k1,.slice a2 n2 k2] 29)) p.d) p.os:=fun d os =>Bg (c2 _ ((Cq w _).trans ((Dx _ d os).mono sM)));have k0:∀ (d:Nat) (os:Array Obj),(Sort.grow (ZI (w.alloc (.cells #[.int .i64 idx,.slice a1 n1 k1,.slice a2 n2 k2] 29)) d) os).cell? ⟨w.heap.size,0,none⟩=some (.int .i64 idx):=Ae sM;have k1':∀ (d:Nat) (os:Array Obj),(Sort.grow (ZI (w.alloc (.cells #[.int .i64 idx,.slice a1 n1 k1,.slice a2 n2 k2] 29)) d) os).cell? ⟨w.heap.size,1,none⟩=some (.slice a1 n1 k1):=Ae sM;have k2':∀ (d:Nat) (os:Array Obj),(Sort.grow (ZI (w.alloc (.cells #[.int .i64 idx,.slice a1 n1 k1,.slice a2 n2 k2] 29)) d) os).cell? ⟨w.heap.size,2,none⟩=some (.slice a2 n2 k2):=Ae sM;refine (Iq (n:=4)).1 ?_;refine callsIn_of_wp_marks func77 rfl trivial ?_ rfl;simp only [ntmps77,Ht,Az,Bj,Nat.reduceAdd,Nat.reduceSub,Hf,He,Ie,Hq,Dp,Dn];refine Md.2 ?_;have e51:∀ args W,(callFunc 125 args).run prog W=.ok (.enter 125 args) W:=enters_of func125 kR rfl;have hB0:∀ W',Below (w.alloc (.cells #[.int .i64 idx,.slice a1 n1 k1,.slice a2 n2 k2] 29)).heap.size (w.alloc (.cells #[.int .i64 idx,.slice a1 n1 k1,.slice a2 n2 k2] 29)) W'->Below w.heap.size w W':=fun W' h =>(Cq w _).trans (h.mono sM);go_wp2_with fail;by_cases q1:n1=18;case neg =>
  have d1:((n1:Int) != 18)=true:=by simp;omega
  have HF:Hid (V=false):=Aa (by rw [HV.out];simp [q1]);clear HV q1;exact FD17
 case pos =>
 replace hsig:=hsig q1;subst q1;by_cases q2:n2<=8;case neg =>
  have d2:ZH ((8:Int)<(n2:Int))=true:=by simp;omega
  have HF:Hid (V=false):=Aa (by rw [HV.out];simp [q2]);clear HV q2;exact FD17
 case pos =>
 have d2:ZH ((8:Int)<(n2:Int))=false:=by simp;omega
 cases b1;case true =>have HF:Hid (V=false):=Aa (by rw [HV.out];simp);clear HV q2;exact FD17
 cases b2;case true =>have HF:Hid (V=false):=Aa (by rw [HV.out];simp);clear HV q2;exact FD17
 by_cases q3:0<=idx;case neg =>
  have d3:ZH (idx<0)=true:=by simp;omega
  have HF:Hid (V=false):=Aa (by rw [HV.out];simp [q3]);clear HV q2 q3;exact FD17
 case pos =>
 have d3:ZH (idx<0)=false:=by simp;omega
 have JC:(0:Int)<=(n2:Int):=oM;have hw64:=M3 n2 q2;have hwr:IntKind.i64.wrap ((2:Int) ^ n2)=(2:Int) ^ n2:=Ch5 n2 q2;have hp2:=Mm n2 q2;obtain⟨i,rfl⟩:∃ i:Nat,idx=(i:Int):=⟨idx.toNat,oM⟩
 by_cases q4:i<2 ^ n2;case neg =>
  have d4:ZH ((2:Int) ^ n2<=(i:Int))=true:=by exact FD145
  have HF:Hid (V=false):=Aa (by
   rw [HV.out];have:ZH ((i:Int)<2 ^ n2)=false:=by rw [Df,show ((2:Int) ^ n2)=((2 ^ n2:Nat):Int) from by simp];omega
   simp only [this];simp)
  clear HV q3 q4;exact FD17
 case pos =>
 have d4:ZH ((2:Int) ^ n2<=(i:Int))=false:=by rw [Df,show ((2:Int) ^ n2)=((2 ^ n2:Nat):Int) from by simp];omega
 have HF:Hid (V=dU pub (2 ^ n2) i (CH.dl (CH.ends sig m)) path):=Aa (by
  rw [HV.out];have:ZH ((i:Int)<2 ^ n2)=true:=by exact FD145
  simp only [this];simp [q2])
 clear HV q3;refine Ba kR kR ?_;repeat (quiet_step (first|exact r1 _ _|exact r2 _ _))
 refine Cj ?_;intro wq hbq;replace hbq:=As hbq;clear r1 r2 k0 k1' k2' c1 c2;have zK:wq.heap[w.heap.size]?=some (.cells #[.int .i64 i,.slice a1 18 k1,.slice a2 n2 k2] 29 (0,0)):=by rw [hbq.block _ sM];simp only [World.alloc,Array.getElem?_push_size]
 have xq:=hB0 _ hbq;have zn:w.heap.size<wq.heap.size:=by have:=hbq.size;simp at this;omega
 have hGq:Gl wq:=hG.below xq;clear hbq hB0;go_wp2_with fail;refine (Yf m _).mono ?_;rintro e w1 ⟨rfl,hw1⟩;have hI0:uT wq w.heap.size i (.slice a1 18 k1) (.slice a2 n2 k2) sig [] w1:=by
  subst hw1;refine⟨sM,?_,⟨_,(Z7 wq _ _).1,Ay.nil _ _⟩,?_⟩;·rw [J5 _ _ _ (by simp;omega),J5 _ _ _ zn];exact zK
  ·exact ((Ac _ wq).alloc nR _).alloc sM _
 have hcm:w1.cell? ⟨wq.heap.size+1,0,none⟩=some (.string ⟨m.toArray⟩):=by subst hw1;exact Ab (Z7 wq _ _).2 0
 have hsz1:w1.heap.size=wq.heap.size+1+1:=by subst hw1;simp
 have hG1:Gl w1:=hGq.below hI0.below;clear hw1;go_wp2_with fail;refine (Md (n:=4)).1 ?_;refine wpIn_rangeFunc_ownG (n:=4) (α:=DP) rfl dC (gf:=116) (lb:=#[.pointer (some ⟨wq.heap.size+1,0,none⟩)]) rfl trivial (enters_of func116 kR rfl) (Ru m oM 3 (wq.heap.size+1) dC w1 hG1 oM hcm) walksK_t walksK_b (Ac _ _) (fun _=>rfl) (uT wq w.heap.size i (.slice a1 18 k1) (.slice a2 n2 k2) sig) (fun _ _ _=>False) (uT.own _ _ _ _ _ _ zn _ oM) (fun _ _ _ _ _ hs _ _=>hs) hI0 (fun x=>{ tmps:=#[.string ⟨pub.toArray⟩,.string ⟨m.toArray⟩,.agg #[.int .i64 i,.slice a1 18 k1,.slice a2 n2 k2],ZA,ZA,.pointer (some ⟨w.heap.size,0,none⟩),.bool false,.int .i64 n2,.func (.func 125) #[] #[],.pointer (some ⟨wq.heap.size,0,none⟩),.int .i64 (x.1.val:Nat),.int .i64 (x.2.val:Nat),.pointer (some ⟨w.heap.size,2,none⟩),.slice a2 n2 k2,.int .i64 n2,.pointer (some ⟨w.heap.size,1,none⟩),.slice a1 18 k1,.int .i64 18,.bool false,.bool false,.int .i64 n2,.bool false,.bool false,.bool false,.func (.func 125) #[] #[],.pointer (some ⟨w.heap.size,1,none⟩),.slice a1 18 k1,.bool false,.bool false,.bool false,.func (.func 125) #[] #[],.pointer (some ⟨w.heap.size,2,none⟩),.slice a2 n2 k2,.bool false,.bool false,.bool false,.pointer (some ⟨w.heap.size,0,none⟩),.int .i64 i,.bool false,.bool false,.bool false,.pointer (some ⟨w.heap.size,0,none⟩),.int .i64 i,.int .i64 n2,.int .i64 (2 ^ n2),.bool false,.bool false,.string ⟨m.toArray⟩,.func (.func 116) #[] #[.pointer (some ⟨wq.heap.size+1,0,none⟩)],.int .i64 (x.1.val:Nat),.int .i64 (x.2.val:Nat),ZA,ZA,ZA,ZA,ZA,ZA,ZA,ZA,ZA,ZA,ZA,ZA,ZA,ZA,ZA,ZA,ZA,ZA,ZA,ZA,ZA],defers:=[] }) ?assign ?body ?done ?stop;case assign =>intro l x W K hK;gi_wp2;exact hK
 case stop =>rintro D c pre W _ _ hx _;exact hx.elim
 case body =>
  rintro l pre x W hI hlen;have ER:=x.1.isLt;have EZ:=x.2.isLt;have hGW:Gl W:=hGq.below hI.below;obtain⟨hle,hb0,⟨v,hb3,hO⟩,hbw⟩:=hI;obtain⟨sb,so,rfl,hsb,hsc⟩:=hsig;have hBW:∀ W',Below (wq.heap.size+2) W W'->Below w.heap.size w W':=fun W' h=>xq.trans ((hbw.trans (h.mono oM)).mono oM);have hxs:sig[x.1.val]?=some (sig.getD x.1.val []):=by have:x.1.val<sig.length:=oM;simp [this]
  have hSk:∀ W',Below (wq.heap.size+2) W W'->W'.cell? ⟨w.heap.size,1,none⟩=some (.slice (some ⟨sb,so,none⟩) 18 k1)/\W'.cell? ⟨sb,so+x.1.val,none⟩=some (.string ⟨(sig.getD x.1.val []).toArray⟩):=fun W' hb =>⟨by rw [hb.cell (p:=⟨w.heap.size,1,none⟩) (by simp;omega)];simp [World.cell?,hb0],by rw [(hBW W' hb).cell (p:=⟨sb,so+x.1.val,none⟩) hsb];exact hsc _ _ hxs⟩
  have hV:∀ W',Below (wq.heap.size+2) W W'->W'.cell? ⟨wq.heap.size,0,none⟩=some v:=fun W' hb=>by rw [hb.cell (p:=⟨wq.heap.size,0,none⟩) sM];simp [World.cell?,hb3]
  have hF:∀ W',Below (wq.heap.size+2) W W'->W'.frozen? ⟨wq.heap.size,0,none⟩=false:=fun W' hb=>by rw [hb.frozen (p:=⟨wq.heap.size,0,none⟩) sM];exact Bi hb3 _
  have hB1:Below (wq.heap.size+2) W W.drew:=(Ac _ W).drew;have hGd:Gl W.drew:=hGW.below (Ac _ W).drew;have hO1:Ay (wq.heap.size+2) W.drew v (pre.map fun x=>CH.chain (15 - x.2.val) (sig.getD x.1.val [])):=hO.below (Ac _ W).drew;have hv1:=hV _ hB1;have EL:pre.length<=18:=oM;have hxl:(sig.getD x.1.val []).length<=140737488355328:=by have:=hl1 _ (Aw hxs);omega
  have h15:((15:Int) - ((x.2.val:Nat):Int))=((15 - x.2.val:Nat):Int):=oM;have IZ:IntKind.i64.wrap ((15 - x.2.val:Nat):Int)=((15 - x.2.val:Nat):Int):=(by decide +kernel:∀ y:Fin 16,IntKind.i64.wrap ((15 - y.val:Nat):Int)=((15 - y.val:Nat):Int)) x.2;have hi0:(0:Int)<=((x.1.val:Nat):Int):=oM;have JK:((x.1.val:Nat):Int)<18:=oM;generalize hsx:sig.getD x.1.val []=sx at *;clear hxs;generalize DU:15 - x.2.val=y15 at *;gi_wp2_with fail;refine Lz (fun W'=>W'.cell? ⟨w.heap.size,1,none⟩=some (.slice (some ⟨sb,so,none⟩) 18 k1)/\W'.cell? ⟨sb,so+x.1.val,none⟩=some (.string ⟨sx.toArray⟩)) _ _ kR kR ?_ (hSk _ hB1) (fun hHeld=>?_);·rintro⟨a,w,h⟩;exact h
  refine tk 1 (v:=?_) rfl rF hHeld ?_ ?_;rotate_left;·(intro w hSw;(try dsimp only at hSw);go_simp;try with_reducible rfl)
  (try simp only [ZF,pA,pB,pC]);refine tk 2 (v:=?_) rfl rF hHeld ?_ ?_;rotate_left;·(intro w hSw;(try dsimp only at hSw);go_simp;try with_reducible rfl)
  (try simp only [ZF,pA,pB,pC]);refine tk 3 (v:=?_) rfl rF hHeld ?_ ?_;rotate_left;·(intro w hSw;(try dsimp only at hSw);go_simp;try with_reducible rfl)
  (try simp only [ZF,pA,pB,pC]);refine tk 4 (v:=?_) rfl rF hHeld ?_ ?_;rotate_left;·(intro w hSw;(try dsimp only at hSw);go_simp;try with_reducible rfl)
  (try simp only [ZF,pA,pB,pC]);refine tk 5 (v:=?_) rfl rF hHeld ?_ ?_;rotate_left;·(intro w hSw;(try dsimp only at hSw);go_simp;try with_reducible rfl)
  (try simp only [ZF,pA,pB,pC]);refine tk 6 (v:=?_) rfl rF hHeld ?_ ?_;rotate_left;·(intro w hSw;(try dsimp only at hSw);go_simp;try with_reducible rfl)
  (try simp only [ZF,pA,pB,pC]);refine tk 7 (v:=?_) rfl rF hHeld ?_ ?_;rotate_left;·(intro w hSw;(try dsimp only at hSw);go_simp;try with_reducible rfl)
  (try simp only [ZF,pA,pB,pC]);refine Fq (rs:=[0,8]) kR sM ?_;refine Ce (o:=_) rfl (fun K hK=>?_) ?_;focus go_simp;refine hK.out _ _ (hSk _ hB1) (fun hHeld=>?_);clear hK K;(try simp only [ZF,pA,pB,pC]);refine rk 8 rfl (fun K hK=>?_);go_simp;refine (Ng sx y15 W.drew hGd oM hxl).mono ?_;rintro e w3 ⟨rfl,fF⟩;have hB3:Below (wq.heap.size+2) W w3:=hB1.trans (fF.mono hle);have hv3:=hV _ hB3;have hv4:∀ o,(w3.alloc o).cell? ⟨wq.heap.size,0,none⟩=some v:=fun o=>hV _ (hB3.alloc (Ag hle hB3.size) o);have hO3:=hO1.below fF;go_wp2_with fail;refine hK.out _ _ (hSk _ hB3) (fun hHeld=>?_);clear hK K;(try simp only [ZF,pA,pB,pC]);refine rk 9 rfl (fun K hK=>?_);go_simp;refine hK.out _ _ (hSk _ (hB3.alloc (Ag hle hB3.size) _)) (fun hHeld=>?_);clear hK K;(try simp only [ZF,pA,pB,pC]);refine rk 10 rfl (fun K hK=>?_);rw [Ap rF];refine Co _ _ rfl (wq.heap.size+2) v _ rfl (hO3.alloc _) w3.heap.size _ (CH.chain y15 sx) rfl (C9 _ _ _ _ _) (by rw [Cm];omega) (by have:=hB3.size;simp;omega) ?_;intro v5 w5 hO5 hg5;obtain⟨a5,c5,rfl,lW,lV,lU⟩:=hO5.form;have hB5:Below (wq.heap.size+2) W w5:=(hB3.alloc (Ag hle hB3.size) _).grown hg5 (by have:=hB3.size;simp;omega) (fun k e=>(hO3.ownBlock k e).1);have hv5:=hV _ hB5;have hf5:=hF _ hB5;refine hK.out _ _ (hSk _ hB5) (fun hHeld=>?_);clear hK K;(try simp only [ZF,pA,pB,pC]);refine rk 11 rfl (fun K hK=>?_);go_simp;refine hK.out _ _ (⟨(D8 _ ⟨wq.heap.size,0,none⟩ ⟨w.heap.size,1,none⟩ _ (fun e=>by dsimp only at e;omega)).trans (hSk _ hB5).1,(World.cell?_setCell_far _ ⟨wq.heap.size,0,none⟩ ⟨sb,so+x.1.val,none⟩ _ (fun e=>by dsimp only at e;omega)).trans (hSk _ hB5).2⟩) (fun hHeld=>?_);clear hK K;(try simp only [ZF,pA,pB,pC]);refine Eb kR ?_ _
  rotate_left 1;refine Ce (o:=_) rfl (fun K hK=>?_) Ey;focus
   go_simp;refine (Ng sx y15 W.drew hGd oM hxl).mono ?_;rintro e w3 ⟨rfl,fF⟩;have hB3:Below (wq.heap.size+2) W w3:=hB1.trans (fF.mono hle);have hv3:=hV _ hB3;have hv4:∀ o,(w3.alloc o).cell? ⟨wq.heap.size,0,none⟩=some v:=fun o=>hV _ (hB3.alloc (Ag hle hB3.size) o);have hO3:=hO1.below fF;go_wp2_with fail;refine hK.out _ _ (hSk _ hB3) (fun hHeld=>?_);clear hK K;(try simp only [ZF,pA,pB,pC]);refine Fq (rs:=[0,9]) kR sM ?_;refine Ce (o:=_) rfl (fun K hK=>?_) ?_;focus go_simp;refine hK.out _ _ (hSk _ hB3) (fun hHeld=>?_);clear hK K;(try simp only [ZF,pA,pB,pC]);refine rk 9 rfl (fun K hK=>?_);go_simp;refine hK.out _ _ (hSk _ (hB3.alloc (Ag hle hB3.size) _)) (fun hHeld=>?_);clear hK K;(try simp only [ZF,pA,pB,pC]);refine rk 10 rfl (fun K hK=>?_);rw [Ap rF];refine Co _ _ rfl (wq.heap.size+2) v _ rfl (hO3.alloc _) w3.heap.size _ (CH.chain y15 sx) rfl (C9 _ _ _ _ _) (by rw [Cm];omega) (by have:=hB3.size;simp;omega) ?_;intro v5 w5 hO5 hg5;obtain⟨a5,c5,rfl,lW,lV,lU⟩:=hO5.form;have hB5:Below (wq.heap.size+2) W w5:=(hB3.alloc (Ag hle hB3.size) _).grown hg5 (by have:=hB3.size;simp;omega) (fun k e=>(hO3.ownBlock k e).1);have hv5:=hV _ hB5;have hf5:=hF _ hB5;refine hK.out _ _ (hSk _ hB5) (fun hHeld=>?_);clear hK K;(try simp only [ZF,pA,pB,pC]);refine rk 11 rfl (fun K hK=>?_);go_simp;refine hK.out _ _ (⟨(D8 _ ⟨wq.heap.size,0,none⟩ ⟨w.heap.size,1,none⟩ _ (fun e=>by dsimp only at e;omega)).trans (hSk _ hB5).1,(World.cell?_setCell_far _ ⟨wq.heap.size,0,none⟩ ⟨sb,so+x.1.val,none⟩ _ (fun e=>by dsimp only at e;omega)).trans (hSk _ hB5).2⟩) (fun hHeld=>?_);clear hK K;(try simp only [ZF,pA,pB,pC]);refine Eb kR ?_ _
   rotate_left 1;refine Ce (o:=_) rfl (fun K hK=>?_) Ey;focus go_simp;refine hK.out _ _ (hSk _ (hB3.alloc (Ag hle hB3.size) _)) (fun hHeld=>?_);clear hK K;(try simp only [ZF,pA,pB,pC]);refine rk 0 rfl (fun K hK=>?_);go_simp;refine hK.out _ _ (hSk _ (hB3.alloc (Ag hle hB3.size) _)) (fun hHeld=>?_);clear hK K;(try simp only [ZF,pA,pB,pC]);refine rk 10 rfl (fun K hK=>?_);rw [Ap rF];refine Co _ _ rfl (wq.heap.size+2) v _ rfl (hO3.alloc _) w3.heap.size _ (CH.chain y15 sx) rfl (C9 _ _ _ _ _) (by rw [Cm];omega) (by have:=hB3.size;simp;omega) ?_;intro v5 w5 hO5 hg5;obtain⟨a5,c5,rfl,lW,lV,lU⟩:=hO5.form;have hB5:Below (wq.heap.size+2) W w5:=(hB3.alloc (Ag hle hB3.size) _).grown hg5 (by have:=hB3.size;simp;omega) (fun k e=>(hO3.ownBlock k e).1);have hv5:=hV _ hB5;have hf5:=hF _ hB5;refine hK.out _ _ (hSk _ hB5) (fun hHeld=>?_);clear hK K;(try simp only [ZF,pA,pB,pC]);refine rk 11 rfl (fun K hK=>?_);go_simp;refine hK.out _ _ (⟨(D8 _ ⟨wq.heap.size,0,none⟩ ⟨w.heap.size,1,none⟩ _ (fun e=>by dsimp only at e;omega)).trans (hSk _ hB5).1,(World.cell?_setCell_far _ ⟨wq.heap.size,0,none⟩ ⟨sb,so+x.1.val,none⟩ _ (fun e=>by dsimp only at e;omega)).trans (hSk _ hB5).2⟩) (fun hHeld=>?_);clear hK K;(try simp only [ZF,pA,pB,pC]);refine Eb kR ?_ _
  all_goals
   have hbd:Below W.heap.size W w3:=(Ac _ W).drew.trans (fF.mono nR);have hko:∀ u,KeepsOthers W (w5.setCell ⟨wq.heap.size,0,none⟩ u):=fun u =>(((Kb hbd).trans (KeepsOthers.alloc _ _)).trans (KeepsOthers.of_grownBy hg5 (fun j o hj ho=>by obtain⟨_,cs,t,fr,hcs⟩:=(hO3.alloc _).ownBlock j hj;rw [ho] at hcs;cases hcs;rfl))).trans (KeepsOthers.setCell _ _ _);have hk5:∀ k,k<wq.heap.size+2->w5.heap[k]?=W.heap[k]?:=fun k hk=>hB5.block k hk;have hks:∀ k u,k≠wq.heap.size->(w5.setCell ⟨wq.heap.size,0,none⟩ u).heap[k]?=w5.heap[k]?:=fun k u hk=>B8 _ _ _ _ hk;refine⟨(hko _).from _,(hko _).walks,⟨?_,?_,⟨.slice a5 (pre.length+1) c5,?_,?_⟩,?_⟩⟩;·have:=(hko ZA).size;simp at this ⊢;omega
   ·rw [hks _ _ oM,hk5 _ oM];exact hb0
   ·exact Be w5 wq.heap.size 0 _ _ _ _ ((hk5 _ oM).trans hb3)
   ·rw [Eh];have h0:=hO5.jT (g:=wq.heap.size) oM 0 (.slice a5 (pre.length+1) c5);simp only [Ay,Aj,Cm,Az,Bj,Bh,Eu,H8,hsx,DU] at h0 ⊢;exact h0
   ·exact⟨hB5.os.trans hbw.os,hB5.tape.trans hbw.tape,hB5.output.trans hbw.output,by have:=hbw.size;have:=(hko ZA).size;simp at this ⊢;omega,fun k hk=>by rw [hks _ _ oM,hk5 _ oM];exact hbw.block k hk⟩
 case done =>
  intro D xs W hD hxs hI hdef;subst hxs;have hGW:Gl W:=hGq.below hI.below;obtain⟨hle,hb0,⟨v,hb3,hO⟩,hbw⟩:=hI;have hbW:Below w.heap.size w W:=xq.trans (hbw.mono oM);have hel:((eP m).map fun x=>CH.chain (15 - x.2.val) (sig.getD x.1.val []))=CH.ends sig m:=(M10 sig m hn1).symm;rw [hel] at hO;have cO:∀ W',Below W.heap.size W W'->ZE prog 113 #[v] W' (fun e w'=>e=.returned (.string ⟨(CH.dl (CH.ends sig m)).toArray⟩)/\Below W'.heap.size W' w'):=fun W' hb =>
   Hex v _ W' (hGW.below hb) (hO.below hb).strs (by
    refine Ag (We _ 1000000 (Log sig m hl1) oM) ?_;have:(CH.ends sig m).length<=18:=by rw [<- hel,Cm,dO];exact Bo _
    omega)
  have cT:∀ W',Below W.heap.size W W'->ZE prog 127 #[.string ⟨pub.toArray⟩,.int .i64 ((2:Int) ^ n2),.int .i64 i,.string ⟨(CH.dl (CH.ends sig m)).toArray⟩,.slice a2 n2 k2] W' (fun e w'=>e=.returned (.bool V)/\Below W'.heap.size W' w'):=fun W' hb=>by have hbb:Below w.heap.size w W':=hbW.trans (hb.mono hbW.size);have h3:=Yr pub (CH.dl (CH.ends sig m)) (2 ^ n2) i (.slice a2 n2 k2) path W' (hGW.below hb) q4 oM (by rw [iW];omega) ((H2.out.below hbb nR).mono hbb.size) oM hl2;rw [show ((2 ^ n2:Nat):Int)=(2:Int) ^ n2 from by simp] at h3;rw [HF.out];exact h3
  obtain⟨va,vc,ve,hvf⟩:=hO.form;generalize hLe:(CH.ends sig m).length=ne at ve;subst ve;clear hvf hLe;generalize CH.dl (CH.ends sig m)=leaf at cO cT HF;have g0:∀ (d:Nat) (os:Array Obj),(grow (ZI W d) os).cell? ⟨w.heap.size,0,none⟩=some (.int .i64 i):=Ae (by simp [World.cell?,hb0]);have g2:∀ (d:Nat) (os:Array Obj),(grow (ZI W d) os).cell? ⟨w.heap.size,2,none⟩=some (.slice a2 n2 k2):=Ae (by simp [World.cell?,hb0]);have g3:∀ (d:Nat) (os:Array Obj),(grow (ZI W d) os).cell? ⟨wq.heap.size,0,none⟩=some (.slice va ne vc):=Ae (by simp [World.cell?,hb3]);have EY:D<W.heap.size:=(aZ hdef)
  clear HF hb0 hb3 hO hel hcm hI0;go_wp2_with fail;refine Ba kR kR ?_;repeat (quiet_step (first|exact Bg (cO _ (Dx _ _ _))|exact Bg (cT _ (Dx _ _ _))))
  refine Cj ?_;intro wq hbq;replace hbq:=As hbq;go_wp2_with fail;refine⟨sM,.inl ⟨_,_,rfl,run_takeDeferred ((hbq.block D EY).trans hdef),?_⟩⟩;exact⟨_,Jw rfl _ _ _,rfl,(hbW.trans (hbq.mono hbW.size)).grown (grownBy_putObj' _ _ _) (Ag hbW.size hbq.size) (fun k e=>by cases e;omega)⟩
end
section
open Go.Lib Go.Proofs.Tryz Go.RowKit Go.Shelf Go.Sort CH
attribute [local go_sem] I8
def gK (p:Int × Int):List ZC:=[aJ p.1,aJ p.2]
theorem E6b (p:Int × Int):∀ u∈gK p,u.oneCell'=true:=by intro u hu;simp only [gK,A8,Bc,Dj] at hu;rcases hu with rfl|rfl <;> rfl
theorem I30:(prog.info? 93).map (fun i=>(i.zero,i.size,i.bytes))=some (some (.agg #[.int .i64 0,.int .i64 0]),2,16):=kR
theorem I60 (W:ZB) (a b:ZC) (T:TypeId):∀ (j:Nat) (u:ZC),([a,b]:List ZC)[j]?=some u->(W.alloc (.cells #[a,b] T)).cell? ((⟨W,0,none⟩:Addr).add j)=some u:=fun j u hj=>by have h:=B7 W [a,b] T j u hj;rw [Bh] at h;rw [show (⟨W,0,none⟩:Addr).add j=⟨W,j,none⟩ from by simp [Addr.add];omega];exact h
def ApP (w0:ZB) (Bs:Nat) (ps:List (Int × Int)) (W:ZB):Prop := (∃ v,Boxed W Bs 117 v/\W.ownsRow w0 93 2 v ps.length (ps.flatMap gK))/\Below w0 w0 W
theorem ApP.own (w0:ZB) (Bs B:Nat) (hB:w0.heap.size<=B):OwnFrom B (ApP w0 Bs):=by
 rintro ps W W' row ⟨⟨v,hv,hr⟩,hb⟩ hg hrow;refine⟨⟨v,hv.kept hg fun e=>?_,hr.kept hg ?_⟩,hb.grown hg hb.size fun k e=>Ag hB (hrow k e).1⟩;·obtain⟨_,o,ho,hc⟩:=hrow Bs e.symm;have hv':W.heap[Bs]?=some (.cells #[v] 117 (0,0)):=hv;rw [hv'] at ho;cases ho;cases hc
 ·rcases hr.2 with⟨rfl,_⟩|⟨g,cap,cur,rfl,_,hgb,_⟩;·exact .inl rfl
  ·refine .inr fun e=>?_;obtain⟨_,o,ho,hc⟩:=hrow g (by simpa [Value.ownBlock] using e.symm);rw [hgb] at ho;cases ho;cases hc
theorem Yl (Bm r:Nat) (kvs:List ((Int × Int) × ZC)) (w:ZB) (hBm:Bm<w.heap.size) (hm:w.cell? ⟨Bm,0,none⟩=some (.map (some r))) (hmap:Cp Bk r w kvs) (hk:(kvs.map (·.1)).Nodup) (hN:kvs.length<=1000000) : ZE prog 174 #[.slice none 0 0,.func (.func 111) #[] #[.pointer (some ⟨Bm,0,none⟩)]] w fun e w' => ∃ v ps,e=.returned v/\Idx kvs ps/\w'.ownsRow w 93 2 v ps.length (ps.flatMap gK)/\Below w w w':=by
 refine (Iq (n:=4)).1 ?_;refine callsIn_of_wp_marks func174 rfl trivial ?_ rfl;simp only [ntmps174,Ht,Az,Bj,Nat.reduceAdd,Nat.reduceSub,Hf,He,Ie,Hq,Dp,Dn];gi_wp2;obtain⟨W0,hW0⟩:∃ W0,w.alloc (.cells #[.slice none 0 0] 117)=W0:=⟨_,rfl⟩
 have hb0:Below w w W0:=by rw [<- hW0];exact (Ac _ w).alloc nR _
 have hv0:Boxed W0 w 117 (.slice none 0 0):=by rw [<- hW0];exact Boxed.new w _ _
 rw [hW0];clear hW0;refine Cut (n:=4) (α:=Int × Int) rfl dC (gf:=111) (lb:=#[.pointer (some ⟨Bm,0,none⟩)]) rfl trivial (enters_of func111 kR rfl) (Er8 Fence.wide 3 trivial rfl dC Bm r kvs w hBm hm hmap hk) hb0 (fun _=>rfl) (ApP w w) (ApP.own _ _ _ hb0.size) ⟨⟨_,hv0,Jo W0 _ _ _⟩,hb0⟩ (fun x b=>{ tmps:=#[.slice none 0 0,.func (.func 111) #[] #[.pointer (some ⟨Bm,0,none⟩)],.pointer (some ⟨w,0,none⟩),ZA,.slice none 0 0,.pointer (some ⟨b,0,none⟩),.func (.func 111) #[] #[.pointer (some ⟨Bm,0,none⟩)],Bk x,ZA,ZA,ZA,ZA,ZA],defers:=[] }) (fun x W=>W.alloc (.cells #[aJ x.1,aJ x.2] 93)) (fun x b V=>V.heap[b]?=some (.cells #[aJ x.1,aJ x.2] 93 (0,0))) ?assign (fun x W=>(Ac _ W).alloc nR _) (fun x W=>Au W _) ?bp ?body ?done;case assign =>intro l x W K hK;obtain⟨x1,x2⟩:=x;dsimp only [Bk] at hK ⊢;gi_wp2;exact hK
 case bp =>rintro x b V l o o' hx hl hc;refine (World.putObj_heap_other (fun e=>?_)).trans hx;subst e;rw [hx] at hl;cases hl;cases hc
 case body =>
  rintro l pre x b W ⟨⟨v,hv,hrow⟩,hb⟩ hx hlen;obtain⟨x1,x2⟩:=x;have hc:=hv.cell;have hf:=hv.frozen;have c0:W.cell? ⟨b,0,none⟩=some ↑x1:=Ab hx 0;have c1:W.cell? ⟨b,1,none⟩=some ↑x2:=Ab hx 1;obtain⟨i0,hi,hz0,hz1,hz2⟩:=Js I30;have hWs:=hb.size;have hblt:=(aZ hx)
  dsimp only [Bk];have hNl:pre.length+1<=1000001:=oM;gi_wp2_with (first
   |(gi_at_builtin;refine wpListIn_append_own _ rfl _ _ 117 rfl w 93 i0 _ 2 16 underlying117 hi hz0 hz1 hz2 rfl dC _ _ _ rfl (hrow.alloc _) ⟨W,0,none⟩ 1 1 [↑x1,↑x2] rfl rfl (I60 _ _ _ _) (E6b (x1,x2)) (by unfold maxLen;omega) oM (by simp;omega) ?_;intro v' w3 hown' hg3 hnil3
     have hap:=Boxed.appended hv dC hrow hWs nR hown' hg3
     obtain⟨g5,c5,e5⟩:=ownsRow_succ hown'
     subst e5
     have hv3:=hap.1
     have hc3:=hv3.cell
     have hf3:=hv3.frozen)
   |gi_in)
  refine⟨hap.2.2.2.1,hap.2.2.2.1.walks,⟨⟨_,hap.2.1,?_⟩,hb.trans hap.2.2.2.2⟩⟩;have h:=hap.2.2.1;rw [Aj,Dw,Ig];exact h
 case done =>rintro D xs W hD hS ⟨⟨v,hv,hrow⟩,hb⟩ hK;have hc:=hv.cell;gi_wp2;have hbD:=(Ac w W).trans (belowK_b (w:=w) nR W D _ (.deferred none) (by have:=hb0.size;omega) hK rfl rfl);refine⟨sM,.inl ⟨_,_,rfl,run_takeDeferred (ds:=[]) hK,?_⟩⟩;refine⟨_,Jw rfl _ _ _,v,xs,rfl,hS,?_,hb.trans hbD⟩;exact ownsRow_putObj hrow _ hK rfl
theorem Boo {w:ZB} {base:Nat} {e:TypeId} {size:Nat} {v:ZC} {n:Nat} {xs:List ZC} (h:w.ownsRow base e size v n xs):∃ a c,v=.slice a n c:=by
 obtain⟨hlen,⟨rfl,h0⟩|⟨g,cap,cur,rfl,_⟩⟩:=h;·exact⟨none,0,by rw [h0]⟩
 ·exact⟨_,cap,rfl⟩
def Nm7 (w:ZB) (kvs:List ((Int × Int) × ZC)) (e:Ending) (w':ZB):Prop := ∃ a n c ps,e=.returned (.slice a n c)/\Idx kvs ps/\w'.ownsRow w 93 2 (.slice a n c) ps.length (ps.flatMap gK)/\ps.length=n/\Below w w w'
theorem B7d (Bm r:Nat) (kvs:List ((Int × Int) × ZC)) (w:ZB) (hBm:Bm<w.heap.size) (hm:w.cell? ⟨Bm,0,none⟩=some (.map (some r))) (hmap:Cp Bk r w kvs) (hk:(kvs.map (·.1)).Nodup) (hN:kvs.length<=1000000) : ZE prog 109 #[.func (.func 111) #[] #[.pointer (some ⟨Bm,0,none⟩)]] w (Nm7 w kvs):=by
 have A:=Aa (Yl Bm r kvs w hBm hm hmap hk hN);go_enter func109,ntmps109;go_wp2_with fail;refine A.out.mono ?_;rintro e w1 ⟨v,ps,rfl,h1,h2,h3⟩;obtain⟨a,c,rfl⟩:=Boo h2;have h1:=Aa h1;have h2:=Aa h2;obtain⟨n,hn⟩:∃ n,ps.length=n:=⟨_,rfl⟩
 rw [hn] at h2 ⊢;clear A;go_wp2;go_ret;exact⟨a,n,c,ps,rfl,h1.out,by rw [hn];exact h2.out,hn,h3⟩
end
end Go.Proofs.YtpkjhpenpfcpfaaGreatDoor
namespace CH
section
def zC:Change:=⟨0,[],⟨[],[]⟩,0⟩
def zM:bC:=⟨[],[],0,[],.mk 0 [] 0 0 [],0,0,0⟩
def zL:fE:=⟨[],[],[],0,0,0,0⟩
def zH:aS:=⟨[],[],[],[],[],[],0,0,0,0⟩
theorem Om {n:Int} (h:Go.Lib.itoa n=[48]):n=0:=by
 unfold Go.Lib.itoa at h;split at h;·injection h with h1 h2;exact absurd h1 dC
 ·rename_i hn;rw [Go.Lib.decDigits] at h;split at h;·rename_i h10;injection h with h1;have h2:=congrArg UInt8.toNat h1;rw [UInt8.toNat_ofNat'] at h2;have:(48:UInt8).toNat=48:=rfl;omega
  ·rename_i h10;have h2:=congrArg List.length h;rw [Aj,Go.Lib.decDigits_length,Dw,Dw] at h2;have:=Go.Lib.nDigits_pos (n.toNat / 10);omega
theorem pY {c:Change} (h:dG c=false):c=zC:=by obtain⟨k,id,⟨eid,ns⟩,p⟩:=c;unfold dG at h;simp only [Gt,bne_eq_false_iff_eq,Df] at h;obtain⟨⟨⟨⟨rfl,rfl⟩,rfl⟩,rfl⟩,h⟩:=h;have:ns=[]:=Cb.1 oM;subst this;rfl
theorem oL {l:fE} (h:dn l=false):l=zL:=by obtain⟨id,ms,ps,q,u,s,t⟩:=l;unfold dn at h;simp only [Gt,bne_eq_false_iff_eq,Df] at h;obtain⟨⟨⟨⟨⟨⟨rfl,h1⟩,h2⟩,rfl⟩,rfl⟩,rfl⟩,rfl⟩:=h;have e1:ms=[]:=Cb.1 oM;have e2:ps=[]:=Cb.1 oM;subst e1 e2;rfl
theorem oN {h:aS} (hh:dw h=false):h=zH:=by obtain⟨id,co,ho,no,pl,js,ca,vo,st,en⟩:=h;unfold dw at hh;simp only [Gt,bne_eq_false_iff_eq,Df] at hh;obtain⟨⟨⟨⟨⟨⟨⟨⟨⟨rfl,rfl⟩,rfl⟩,rfl⟩,rfl⟩,h1⟩,rfl⟩,rfl⟩,rfl⟩,rfl⟩:=hh;have e1:js=[]:=Cb.1 oM;subst e1;rfl
theorem oZ {m:bC} (h:bJ m=true):m=zM:=by obtain⟨id,au,k,tg,⟨op,nm,cm,n,ks⟩,st,un,wi⟩:=m;unfold bJ at h;simp only [Ar,Dz,List.cons.injEq,and_true,Formula.op,Formula.name,Formula.cmp,Formula.n,Formula.kids] at h;obtain⟨⟨rfl,rfl,rfl,h1,h2,h3,h4⟩,⟨⟨⟨rfl,rfl⟩,rfl⟩,rfl⟩,h5⟩:=h;have e1:=Om h1;have e2:=Om h2;have e3:=Om h3;have e4:=Om h4;have e5:ks=[]:=Cb.1 h5;subst e1 e2 e3 e4 e5;rfl
end
end CH
