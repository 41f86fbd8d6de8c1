/-
  ChainKeeps: the proof, part 16 of 25.
-/
import Derived.Test.YthapckjpmkkkpaaGreatDoorP10
import Derived.Test.YthapckjpmkkkpaaGreatDoorP11
set_option linter.unusedSimpArgs false
set_option linter.unusedVariables false
set_option maxHeartbeats 40000000
set_option maxRecDepth 100000
open Go renaming undef -> ZA, World -> ZB, Value -> ZC, Calls -> ZE, redrawn -> ZI
open Go.Act renaming put -> ZF
open Go.RowKit renaming intOf -> ZG
open Decidable renaming decide -> ZH
open Go.Lib renaming byteCells -> ZL
namespace Go.Proofs.YthapckjpmkkkpaaGreatDoor
section
open Go.Lib Go.Proofs.Tryz Go.RowKit Go.Shelf Go.Sort CH
theorem Yc (k:Int):k=1\/k=2\/k=4\/k=6\/k=5\/k=3\/k=7\/(k≠1/\k≠2/\k≠4/\k≠6/\k≠5/\k≠3/\k≠7):=oM
def Kf (B:Nat) (w:ZB):List CH.Word->List ZC->Prop
 |[],[]=>True
 |x::xs,v::vs=>M0 B w x v/\Kf B w xs vs
 |_,_=>False
theorem Kf.get {B:Nat} {w:ZB}:∀ {ws:List CH.Word} {vs:List ZC},Kf B w ws vs->∀ (j:Nat) (x:CH.Word),ws[j]?=some x->∃ v,vs[j]?=some v/\M0 B w x v
 |[],_,_,j,x,h=>by simp at h
 |y::ws,[],h,_,_,_=>by exact h.elim
 |y::ws,v::vs,h,0,x,hx=>by
  simp only [Fp,Eu] at hx
  subst hx
  exact⟨v,rfl,h.1⟩
 |y::ws,v::vs,h,j+1,x,hx=>Kf.get h.2 j x (by simpa using hx)
theorem M0.mono {B B':Nat} {w:ZB} {x:CH.Word} {v:ZC} (h:M0 B w x v) (hB:B<=B'):M0 B' w x v:=by
 cases x with
 |int n=>exact h
 |str s=>exact h
 |strs l =>obtain⟨sv,h1,h2,h3⟩:=h;exact⟨sv,h1,h2.mono hB,h3⟩
theorem Lf (ws:List CH.Word) (vs:List ZC) (T:TypeId) (n:Nat) (w:ZB) (hG:Gl w) (hv:Kf w w ws vs) (hn:ws.length=n) (hl:n<=100) (hJ:(CH.words ws).length<=140737488355328) : ZE prog 50 #[.slice (some ⟨w,0,none⟩) n n] (w.alloc (.cells vs.toArray T)) (Ret (w.alloc (.cells vs.toArray T)) (ay (CH.words ws))):=by have hb:Below w w (w.alloc (.cells vs.toArray T)):=(Ac _ w).alloc nR _;subst hn;refine Hll ws w _ (hG.below hb) sM (fun j x hx=>?_) hl hJ;obtain⟨v,h1,h2⟩:=hv.get j x hx;refine⟨v,?_,(h2.below hb nR).mono hb.size⟩;rw [Ab (Ai w _) j];simpa using h1
def jT:Option (List UInt8)->ZC
 |some t=>.tuple #[↑t,.bool true]
 |none=>.tuple #[.string ⟨#[]⟩,.bool false]
def Cl (a:CH.Act):List UInt8:=(aU a).getD []++[10]
theorem Wf {a:CH.Act} (l:List CH.Act) (ha:aU a=none):fK (a::l)=none:=by
 conv=>lhs;unfold fK
 rw [ha]
theorem We {a:CH.Act} {t:List UInt8} (l:List CH.Act) (ha:aU a=some t):fK (a::l)=(fK l).map (t++[10]++·):=by
 conv=>lhs;unfold fK
 rw [ha]
theorem Mz {a:CH.Act} {t:List UInt8} (ha:aU a=some t):Cl a=t++[10]:=by unfold Cl;rw [ha];rfl
theorem Ma:∀ l:List CH.Act,(∀ a∈l,(aU a).isSome=true)->fK l=some (l.flatMap Cl)
 |[],_=>by unfold fK;rfl
 |a::l,h=>by
  obtain⟨t,ht⟩:=Option.isSome_iff_exists.1 (h a (List.mem_cons_self ..))
  rw [We l ht,Ma l fun x hx=>h x (Iy _ hx),Ep,Mz ht]
  rfl
theorem Mb {a:CH.Act} (ha:aU a=none):∀ l:List CH.Act,a∈l->fK l=none
 |[],h=>by cases h
 |b::l,h=>by
  rcases A8.1 h with rfl|h
  ·exact Wf l ha
  ·cases hb:aU b with
   |none=>exact Wf l hb
   |some t=>rw [We l hb,Mb ha l h];rfl
theorem Yr {α β:Type} (f:α->List β) (l:List α) (k:Nat) (x:α) (h:l[k]?=some x):(l.take (k+1)).flatMap f=(l.take k).flatMap f++f x:=by rw [aN l k x h,Ik];simp
def G1 (v:CH.Version):List CH.Word:=[.str ([118,101,114,115,105,111,110]:List UInt8),.int v.authority,.int v.number,.int v.pos,.str v.prev]
theorem Q3 {v:CH.Version} (h:qK v):(CH.words (G1 v)).length<=1000000:=by
 have h3:((G1 v).flatMap CH.Word.texts).length<=80:=by unfold G1;simp only [Ep,G7,Aj,Ln,Bo];show 1+(1+(1+(1+(1+0))))<=80;omega
 refine Ag (Pl _ 10000 80 ?_ h3) dC;intro x hx;simp only [G1,A8,Ba,Dh] at hx;rcases hx with rfl|rfl|rfl|rfl|rfl;·exact C0 _ sM
 ·exact C5 _ h.authority
 ·exact C5 _ h.number
 ·exact C5 _ h.pos
 ·exact C0 _ h.prev
theorem Uc (v:CH.Version):CH.bare v=if !(ZH (0<=v.authority)&&ZH (v.authority<6)&&ZH (1<=v.number)&&ZH (v.number<=200)&&ZH (0<=v.pos)&&ZH (v.pos<=144001439)&&ZH ((v.acts.length:Int)<=40))||((v.number==1) != (v.prev==[]))||(v.prev != []&&!aG v.prev) then none else (fK v.acts).map (CH.words (G1 v)++[10]++·):=by
 unfold CH.bare CH.within bg G1;have e1:ZH (v.authority<=5)=ZH (v.authority<6):=by rw [Eh];omega
 have e2:ZH (v.acts.length<=40)=ZH ((v.acts.length:Int)<=40):=by rw [Eh];omega
 rw [e1,e2];simp only [Bool.and_assoc]
theorem Tu {B:Nat} {w:ZB} {l:List CH.Act} (h:∀ a∈l,∃ s,fM B w a s):(l.flatMap Cl).length<=l.length*100000101:=by
 induction l with
 |nil=>simp
 |cons a l ih =>
  have h1:=ih fun x hx=>h x (by simp [hx]);obtain⟨s,hs⟩:=h a sM;have h2:(Cl a).length<=100000101:=by
   unfold Cl;cases ht:aU a with
   |none=>simp
   |some t =>have:=Mr ht hs;simp;omega
  rw [Ep,Aj,Ar,Nat.add_mul];omega
theorem Ge.acts {B:Nat} {w:ZB} {v:ZC} {l:List CH.Act} (h:Ge B w v l):∀ a∈l,∃ s,fM B w a s:=fun a ha=>by obtain⟨_,_,_,_,_,h4⟩:=h;obtain⟨b,off,_,_,hx⟩:=h4 (fun e=>by rw [e] at ha;cases ha);obtain⟨j,hj⟩:=Gi.1 ha;obtain⟨s,_,hs⟩:=hx j a hj;exact⟨s,hs⟩
def Doc:Prop:=∀ (a:CH.Act) (s:fF) (W:ZB),Gc W->fM W W a s->ZE prog 19 #[.agg (Al a s).toArray] W (Ret W (bF (aU a)))
theorem Lkn (AT:Doc) (v:CH.Version) (s:bZ) (w:ZB) (hG:Gc w) (h:aO w w v s) : ZE prog 31 #[.agg (An v s).toArray] w (Ret w (jT (CH.bare v))):=by
 obtain⟨R,hR⟩:∃ R,Hid (jT (CH.bare v)=R):=⟨_,Aa rfl⟩
 rw [hR.out];obtain⟨va,v1,v2⟩:=s;have hS:=h.small;have hA:Ge w w va v.acts:=h.acts;obtain⟨aa,ca,rfl,ha1,ha2,ha3⟩:=id hA;dsimp only [An];have D:=fun W=>Alt v.prev W (Ag hS.prev dC);have hl:=Aa (Q3 hS);have hll:=Aa (Tu hA.acts);have hR1:=hR.out;rw [Uc] at hR1;clear hR;generalize hN:v.acts.length=N at *;obtain⟨b1,h1⟩:∃ b,ZH (0<=v.authority)=b:=⟨_,rfl⟩
 obtain⟨b2,h2⟩:∃ b,ZH (v.authority<6)=b:=⟨_,rfl⟩
 obtain⟨b3,h3⟩:∃ b,ZH (1<=v.number)=b:=⟨_,rfl⟩
 obtain⟨b4,h4⟩:∃ b,ZH (v.number<=200)=b:=⟨_,rfl⟩
 obtain⟨b5,h5⟩:∃ b,ZH (0<=v.pos)=b:=⟨_,rfl⟩
 obtain⟨b6,h6⟩:∃ b,ZH (v.pos<=144001439)=b:=⟨_,rfl⟩
 obtain⟨b7,h7⟩:∃ b,ZH ((N:Int)<=40)=b:=⟨_,rfl⟩
 obtain⟨b8,h8⟩:∃ b,(v.number==1)=b:=⟨_,rfl⟩
 obtain⟨b10,h10⟩:∃ b,aG v.prev=b:=⟨_,rfl⟩
 rw [h1,h2,h3,h4,h5,h6,h7,h8,h10] at hR1;rw [h10] at D;have D:=Aa D;have HA:=Aa hA;have HS:=Aa hS;have HN:=Aa hN;have HA3:=Aa ha3;clear hN hS hA h ha3 h10;have hR1:=Aa hR1;have hB0:=fun o=>(Ac _ w).alloc nR o;have hW:=fun o=>Ai w o;rcases (by cases b1 <;> cases b2 <;> cases b3 <;> cases b4 <;> cases b5 <;> cases b6 <;> cases b7 <;> simp:(b1=false)\/(b1=true/\b2=false)\/(b1=true/\b2=true/\b3=false)\/(b1=true/\b2=true/\b3=true/\b4=false)\/(b1=true/\b2=true/\b3=true/\b4=true/\b5=false)\/(b1=true/\b2=true/\b3=true/\b4=true/\b5=true/\b6=false)\/(b1=true/\b2=true/\b3=true/\b4=true/\b5=true/\b6=true/\b7=false)\/(b1=true/\b2=true/\b3=true/\b4=true/\b5=true/\b6=true/\b7=true)) with rfl|⟨rfl,rfl⟩|⟨rfl,rfl,rfl⟩|⟨rfl,rfl,rfl,rfl⟩|⟨rfl,rfl,rfl,rfl,rfl⟩|⟨rfl,rfl,rfl,rfl,rfl,rfl⟩|⟨rfl,rfl,rfl,rfl,rfl,rfl,rfl⟩|⟨rfl,rfl,rfl,rfl,rfl,rfl,rfl⟩;iterate 7 ·go_enter func31,ntmps31;go_wp2_with fail;refine Au (Bc rfl _ _ _) rfl ?_;exact⟨by rw [<- hR1.out];rfl,(hB0 _)⟩
 have te:=Aa (Hm v.prev);have hR2:Hid (jT (if (b8 != v.prev.isEmpty||(!v.prev.isEmpty&&!b10))=true then none else (fK v.acts).map (CH.words (G1 v)++[10]++·))=R):=Aa (by rw [<- hR1.out];cases v.prev <;> rfl);clear hR1;obtain⟨b9,h9⟩:∃ b,v.prev.isEmpty=b:=⟨_,rfl⟩
 rw [h9] at hR2;have hbW:=fun o=>Aa (Ai w o);rcases (by cases b8 <;> cases b9 <;> cases b10 <;> simp:(b8=true/\b9=false)\/(b8=false/\b9=true)\/(b8=false/\b9=false/\b10=false)\/(b8=true/\b9=true)\/(b8=false/\b9=false/\b10=true)) with⟨rfl,rfl⟩|⟨rfl,rfl⟩|⟨rfl,rfl,rfl⟩|⟨rfl,rfl⟩|⟨rfl,rfl,rfl⟩;·go_enter func31,ntmps31;go_wp2_with fail;refine Au (Bc rfl _ _ _) rfl ?_;exact⟨by rw [<- hR2.out];rfl,(hB0 _)⟩
 ·go_enter func31,ntmps31;go_wp2_with fail;refine Au (Bc rfl _ _ _) rfl ?_;exact⟨by rw [<- hR2.out];rfl,(hB0 _)⟩
 ·go_enter func31,ntmps31;go_wp2_with fail;refine (D.out _).mono ?_;rintro e w1 ⟨rfl,hb1⟩;clear D;go_wp2;refine Au (Bc rfl _ _ _) rfl ?_;exact⟨by rw [<- hR2.out];rfl,(hB0 _).trans (hb1.mono sM)⟩
 ·go_enter func31,ntmps31;go_wp2_with fail;have hB1:=hB0 (.cells #[↑v.authority,↑v.number,↑v.pos,↑v.prev,.slice aa N ca,↑v.sel.index,v1,v2] 38);have hlt1:w.heap.size<(w.alloc (.cells #[↑v.authority,↑v.number,↑v.pos,↑v.prev,.slice aa N ca,↑v.sel.index,v1,v2] 38)).heap.size:=sM;have k4:(w.alloc (.cells #[↑v.authority,↑v.number,↑v.pos,↑v.prev,.slice aa N ca,↑v.sel.index,v1,v2] 38)).cell? ⟨w,4,none⟩=some (.slice aa N ca):=Ab (Ai w _) 4;have hXs:w.heap.size+1=(w.alloc (.cells #[↑v.authority,↑v.number,↑v.pos,↑v.prev,.slice aa N ca,↑v.sel.index,v1,v2] 38)).heap.size:=sM;rw [hXs];generalize w.alloc (.cells #[↑v.authority,↑v.number,↑v.pos,↑v.prev,.slice aa N ca,↑v.sel.index,v1,v2] 38)=W1 at *;clear hXs hB0 hW hbW D;obtain⟨WV,hWV⟩:∃ x,CH.words (G1 v)=x:=⟨_,rfl⟩
  have WN:=fun bo T=>Lf (G1 v) [.iface 9 (ay ([118,101,114,115,105,111,110]:List UInt8)),.iface 3 ↑v.authority,.iface 3 ↑v.number,.iface 3 ↑v.pos,.iface 9 (ay v.prev)] T 5 (W1.alloc bo) ((hG.below hB1).gl.below ((Ac _ W1).alloc nR _)) ⟨rfl,⟨rfl,HS.out.authority⟩,⟨rfl,HS.out.number⟩,⟨rfl,HS.out.pos⟩,rfl,trivial⟩ rfl dC (by have:=hl.out;omega);have hl:Hid (WV.length<=1000000):=Aa (by rw [<- hWV];exact hl.out);rw [hWV] at WN;have hR3:Hid (jT ((fK v.acts).map (WV++[10]++·))=R):=Aa (by rw [<- hR2.out,hWV];rfl);simp only [Cc] at WN;have WN:=Aa WN;clear hR2 hWV;refine (WN.out _ _).mono ?_;rintro e w2 ⟨rfl,hb2⟩;have hIB:Lib.IsBuilder 130 5 W1.heap.size W1 (ZL []) w2:=C7 (C7 (Lib.fresh_isBuilder _ _ W1) ((Ac _ _).alloc nR _)) hb2;have hB2:Below W1 W1 w2:=(((Ac _ W1).alloc nR _).alloc sM _).trans (hb2.mono (by simp;omega));have hs2:=hB2.size;clear WN hb2;have hl9:¬ (9223372036854775807<WV.length+1):=by have:=hl.out;omega
  have BW:=Aa fun (sb:ByteArray) (hsb:sb.size<=2000000)=>Eg W1 W1 _ sb w2 hIB (by simp [ZL];omega) hs2;go_wp2_with fail;refine (BW.out _ (by have:=hl.out;simp [Ir];simp [ByteArray.size];omega)).mono ?_;rintro e w3 ⟨rfl,qX,hb3⟩;clear BW hIB;have hB3:Below W1 W1 w3:=hB2.trans hb3;have qX:Lib.IsBuilder 130 5 W1.heap.size W1 (ZL (WV++[10]++(v.acts.take 0).flatMap Cl)) w3:=.inr (by
   have e:ZL (WV++[10]++(v.acts.take 0).flatMap Cl)=ZL []++Lib.strCells (⟨WV.toArray⟩++⟨#[10]⟩):=by simp [ZL,Lib.strCells,bytes_append WV [10]]
   rw [e];exact qX)
  clear hB2 hb3 hs2;have m4:=(hB3.cell (p:=⟨w,4,none⟩) hlt1).trans k4;go_wp2_with fail;go_loopw [86] (fun i wr=>∃ k:Nat,k<=N/\i=↑k/\Hid (Lib.IsBuilder 130 5 W1.heap.size W1 (ZL (WV++[10]++(v.acts.take k).flatMap Cl)) wr)/\Hid (Below W1 W1 wr)/\Hid (∀ x∈v.acts.take k,(aU x).isSome=true)) (fun i _=>N - (ZG i).toNat);case atStart=>exact⟨0,Bg _,rfl,Aa qX,Aa hB3,Aa fun x hx=>by simp at hx⟩
  case round =>
   obtain⟨k,hk,rfl,hI,hBr,hJ⟩:=hrel;have hBw:Below w w wr:=hB1.trans (hBr.out.mono hB1.size);by_cases hlt:k<N
   ·obtain⟨b,off,rfl,hbl,hcells⟩:=HA3.out (by intro h;have:=HN.out;simp [h] at this;omega);obtain⟨x,hx⟩:∃ x,v.acts[k]?=some x:=⟨_,Ad (by rw [HN.out];exact hlt)⟩
    obtain⟨sx,hc,hat⟩:=hcells k x hx;have hrg:wr.rangeAt b (off+k*37) (Al x sx):=fun j u hj=>(hBw.cell (p:=⟨b,off+k*37+j,none⟩) hbl).trans (hc j u hj);have hlen:(prog.info? 69).map (·.size)=some (Al x sx).length:=kR;have h1c:=Aa (Qh hat);have hlenA:(Al x sx).length=37:=rfl;have T:=Aa fun o=>AT x sx (wr.alloc o) (hG.below (hBw.alloc hBw.size o)) ((hat.below (hBw.alloc hBw.size o) nR).mono (hBw.alloc hBw.size o).size);obtain⟨t,ht⟩:∃ t,aU x=t:=⟨_,rfl⟩
    have hle:∀ y,t=some y->y.length<=100000100:=fun y hy=>Mr (ht.trans hy) hat;rw [ht] at T;have ht:=Aa ht;have hx:=Aa hx;clear hcells hc hat;generalize Al x sx=C at *;have hn1:=Aa (B6 wr C 69);have hrg:=Aa hrg;go_wp2_with (first|refine Bh rfl 69 _ rfl b (off+k*37) rfl C _ hrg.out underlying69 rfl hlen ?_|refine Ca rfl 69 _ _ rfl C rfl rfl (by rw [hlenA];rfl) hlen h1c.out ?_|refine Bh rfl 69 _ rfl wr 0 rfl C _ hn1.out underlying69 rfl hlen ?_)
    refine (T.out _).mono ?_;rintro e w4 ⟨rfl,hb4⟩;clear T hrg hn1 h1c hlenA hlen;have hba:=hBr.out.alloc hBr.out.size (.cells C.toArray 69);have hB4:Below W1 W1 w4:=hba.trans (hb4.mono hba.size);cases t with
    |none =>dsimp only [bF];go_wp2;refine Au (Bc rfl _ _ _) rfl ?_;refine⟨?_,hB1.trans (hB4.mono hB1.size)⟩;rw [<- hR3.out,Mb ht.out v.acts (Ap hx.out)];rfl
    |some t =>
     have hle:=hle t rfl;have hI4:Hid (Lib.IsBuilder 130 5 W1.heap.size W1 (ZL (WV++[10]++(v.acts.take k).flatMap Cl)) w4):=Aa (C7 (C7 hI.out ((Ac _ wr).alloc nR _)) hb4);have hl8:¬ (9223372036854775807<t.length+1):=oM;have htl:=Tu (l:=v.acts.take k) fun y hy=>HA.out.acts y (Hy hy);have htk:(v.acts.take k).length<=40:=by rw [Dy,HN.out];have:=Ih h7;omega
     have htl:Hid (((v.acts.take k).flatMap Cl).length<=4000004040):=Aa (by have:=Dj 100000101 htk;omega);have BW:=Aa fun (sb:ByteArray) (hsb:sb.size<=200000000)=>Eg W1 W1 _ sb w4 hI4.out (by have:=hl.out;have:=htl.out;simp only [ZL,Dc,Aj,Dz];omega) hB4.size;have hfs:=Aa (Yr Cl v.acts k x hx.out);have xU:=Aa (Mz ht.out);have hJ':Hid (∀ y∈v.acts.take (k+1),(aU y).isSome=true):=Aa (by
      intro y hy;rw [aN v.acts k x hx.out] at hy;rcases Dp.1 hy with hy|hy;·exact hJ.out y hy
      ·cases Bz.1 hy;rw [ht.out];rfl)
     clear htk hb4;dsimp only [bF];go_wp2_with fail;refine (BW.out _ (by simp [Ir];simp [ByteArray.size];omega)).mono ?_;rintro e w5 ⟨rfl,hI5,hb5⟩;have hI5:Hid (Lib.IsBuilder 130 5 W1.heap.size W1 (ZL (WV++[10]++(v.acts.take (k+1)).flatMap Cl)) w5):=Aa (.inr (by
      have e:ZL (WV++[10]++(v.acts.take (k+1)).flatMap Cl)=ZL (WV++[10]++(v.acts.take k).flatMap Cl)++Lib.strCells (⟨t.toArray⟩++⟨#[10]⟩):=by rw [hfs.out,xU.out];simp [ZL,Lib.strCells,bytes_append t [10]]
      rw [e];exact hI5))
     have hB5:Hid (Below W1 W1 w5):=Aa (hB4.trans hb5);clear BW hb5;go_wp2;go_roundw;case rel=>exact⟨k+1,oM,by go_num,hI5,hB5,hJ'⟩
     case measure=>simp [ZG];omega
   ·have hkN:k=N:=oM;subst hkN;have hI:=hI.out;have hJ:=hJ.out;rw [<- HN.out,Dx] at hI hJ;have hR4:Hid (jT (some (WV++[10]++v.acts.flatMap Cl))=R):=Aa (by rw [<- hR3.out,Ma v.acts hJ];rfl);generalize WV++[10]++v.acts.flatMap Cl=FT at *;go_wp2_with fail;refine (Tryz.Builder_String_any _ _ _ _ hI hBr.out.size).mono ?_;rintro e w4 ⟨rfl,hb4⟩;go_wp2;refine Au (Bc rfl _ _ _) rfl ?_;exact⟨by rw [<- hR4.out];rfl,hBw.trans (hb4.mono hB1.size)⟩
 ·go_enter func31,ntmps31;go_wp2_with fail;refine (D.out _).mono ?_;rintro e W1 ⟨rfl,hb1⟩;have hB1:Below w w W1:=(hB0 _).trans (hb1.mono sM);have hblk:=(hb1.block w sM).trans (hW _);have hlt1:w.heap.size<W1.heap.size:=(aZ hblk)
  have k0:W1.cell? ⟨w,0,none⟩=some ↑v.authority:=Ab hblk 0;have k1:W1.cell? ⟨w,1,none⟩=some ↑v.number:=Ab hblk 1;have k2:W1.cell? ⟨w,2,none⟩=some ↑v.pos:=Ab hblk 2;have k3:W1.cell? ⟨w,3,none⟩=some ↑v.prev:=Ab hblk 3;have k4:W1.cell? ⟨w,4,none⟩=some (.slice aa N ca):=Ab hblk 4;clear hb1 hblk hB0 hW hbW D;go_wp2_with fail;obtain⟨WV,hWV⟩:∃ x,CH.words (G1 v)=x:=⟨_,rfl⟩
  have WN:=fun bo T=>Lf (G1 v) [.iface 9 (ay ([118,101,114,115,105,111,110]:List UInt8)),.iface 3 ↑v.authority,.iface 3 ↑v.number,.iface 3 ↑v.pos,.iface 9 (ay v.prev)] T 5 (W1.alloc bo) ((hG.below hB1).gl.below ((Ac _ W1).alloc nR _)) ⟨rfl,⟨rfl,HS.out.authority⟩,⟨rfl,HS.out.number⟩,⟨rfl,HS.out.pos⟩,rfl,trivial⟩ rfl dC (by have:=hl.out;omega);have hl:Hid (WV.length<=1000000):=Aa (by rw [<- hWV];exact hl.out);rw [hWV] at WN;have hR3:Hid (jT ((fK v.acts).map (WV++[10]++·))=R):=Aa (by rw [<- hR2.out,hWV];rfl);simp only [Cc] at WN;have WN:=Aa WN;clear hR2 hWV;refine (WN.out _ _).mono ?_;rintro e w2 ⟨rfl,hb2⟩;have hIB:Lib.IsBuilder 130 5 W1.heap.size W1 (ZL []) w2:=C7 (C7 (Lib.fresh_isBuilder _ _ W1) ((Ac _ _).alloc nR _)) hb2;have hB2:Below W1 W1 w2:=(((Ac _ W1).alloc nR _).alloc sM _).trans (hb2.mono (by simp;omega));have hs2:=hB2.size;clear WN hb2;have hl9:¬ (9223372036854775807<WV.length+1):=by have:=hl.out;omega
  have BW:=Aa fun (sb:ByteArray) (hsb:sb.size<=2000000)=>Eg W1 W1 _ sb w2 hIB (by simp [ZL];omega) hs2;go_wp2_with fail;refine (BW.out _ (by have:=hl.out;simp [Ir];simp [ByteArray.size];omega)).mono ?_;rintro e w3 ⟨rfl,qX,hb3⟩;clear BW hIB;have hB3:Below W1 W1 w3:=hB2.trans hb3;have qX:Lib.IsBuilder 130 5 W1.heap.size W1 (ZL (WV++[10]++(v.acts.take 0).flatMap Cl)) w3:=.inr (by
   have e:ZL (WV++[10]++(v.acts.take 0).flatMap Cl)=ZL []++Lib.strCells (⟨WV.toArray⟩++⟨#[10]⟩):=by simp [ZL,Lib.strCells,bytes_append WV [10]]
   rw [e];exact qX)
  clear hB2 hb3 hs2;have m4:=(hB3.cell (p:=⟨w,4,none⟩) hlt1).trans k4;go_wp2_with fail;go_loopw [86] (fun i wr=>∃ k:Nat,k<=N/\i=↑k/\Hid (Lib.IsBuilder 130 5 W1.heap.size W1 (ZL (WV++[10]++(v.acts.take k).flatMap Cl)) wr)/\Hid (Below W1 W1 wr)/\Hid (∀ x∈v.acts.take k,(aU x).isSome=true)) (fun i _=>N - (ZG i).toNat);case atStart=>exact⟨0,Bg _,rfl,Aa qX,Aa hB3,Aa fun x hx=>by simp at hx⟩
  case round =>
   obtain⟨k,hk,rfl,hI,hBr,hJ⟩:=hrel;have hBw:Below w w wr:=hB1.trans (hBr.out.mono hB1.size);by_cases hlt:k<N
   ·obtain⟨b,off,rfl,hbl,hcells⟩:=HA3.out (by intro h;have:=HN.out;simp [h] at this;omega);obtain⟨x,hx⟩:∃ x,v.acts[k]?=some x:=⟨_,Ad (by rw [HN.out];exact hlt)⟩
    obtain⟨sx,hc,hat⟩:=hcells k x hx;have hrg:wr.rangeAt b (off+k*37) (Al x sx):=fun j u hj=>(hBw.cell (p:=⟨b,off+k*37+j,none⟩) hbl).trans (hc j u hj);have hlen:(prog.info? 69).map (·.size)=some (Al x sx).length:=kR;have h1c:=Aa (Qh hat);have hlenA:(Al x sx).length=37:=rfl;have T:=Aa fun o=>AT x sx (wr.alloc o) (hG.below (hBw.alloc hBw.size o)) ((hat.below (hBw.alloc hBw.size o) nR).mono (hBw.alloc hBw.size o).size);obtain⟨t,ht⟩:∃ t,aU x=t:=⟨_,rfl⟩
    have hle:∀ y,t=some y->y.length<=100000100:=fun y hy=>Mr (ht.trans hy) hat;rw [ht] at T;have ht:=Aa ht;have hx:=Aa hx;clear hcells hc hat;generalize Al x sx=C at *;have hn1:=Aa (B6 wr C 69);have hrg:=Aa hrg;go_wp2_with (first|refine Bh rfl 69 _ rfl b (off+k*37) rfl C _ hrg.out underlying69 rfl hlen ?_|refine Ca rfl 69 _ _ rfl C rfl rfl (by rw [hlenA];rfl) hlen h1c.out ?_|refine Bh rfl 69 _ rfl wr 0 rfl C _ hn1.out underlying69 rfl hlen ?_)
    refine (T.out _).mono ?_;rintro e w4 ⟨rfl,hb4⟩;clear T hrg hn1 h1c hlenA hlen;have hba:=hBr.out.alloc hBr.out.size (.cells C.toArray 69);have hB4:Below W1 W1 w4:=hba.trans (hb4.mono hba.size);cases t with
    |none =>dsimp only [bF];go_wp2;refine Au (Bc rfl _ _ _) rfl ?_;refine⟨?_,hB1.trans (hB4.mono hB1.size)⟩;rw [<- hR3.out,Mb ht.out v.acts (Ap hx.out)];rfl
    |some t =>
     have hle:=hle t rfl;have hI4:Hid (Lib.IsBuilder 130 5 W1.heap.size W1 (ZL (WV++[10]++(v.acts.take k).flatMap Cl)) w4):=Aa (C7 (C7 hI.out ((Ac _ wr).alloc nR _)) hb4);have hl8:¬ (9223372036854775807<t.length+1):=oM;have htl:=Tu (l:=v.acts.take k) fun y hy=>HA.out.acts y (Hy hy);have htk:(v.acts.take k).length<=40:=by rw [Dy,HN.out];have:=Ih h7;omega
     have htl:Hid (((v.acts.take k).flatMap Cl).length<=4000004040):=Aa (by have:=Dj 100000101 htk;omega);have BW:=Aa fun (sb:ByteArray) (hsb:sb.size<=200000000)=>Eg W1 W1 _ sb w4 hI4.out (by have:=hl.out;have:=htl.out;simp only [ZL,Dc,Aj,Dz];omega) hB4.size;have hfs:=Aa (Yr Cl v.acts k x hx.out);have xU:=Aa (Mz ht.out);have hJ':Hid (∀ y∈v.acts.take (k+1),(aU y).isSome=true):=Aa (by
      intro y hy;rw [aN v.acts k x hx.out] at hy;rcases Dp.1 hy with hy|hy;·exact hJ.out y hy
      ·cases Bz.1 hy;rw [ht.out];rfl)
     clear htk hb4;dsimp only [bF];go_wp2_with fail;refine (BW.out _ (by simp [Ir];simp [ByteArray.size];omega)).mono ?_;rintro e w5 ⟨rfl,hI5,hb5⟩;have hI5:Hid (Lib.IsBuilder 130 5 W1.heap.size W1 (ZL (WV++[10]++(v.acts.take (k+1)).flatMap Cl)) w5):=Aa (.inr (by
      have e:ZL (WV++[10]++(v.acts.take (k+1)).flatMap Cl)=ZL (WV++[10]++(v.acts.take k).flatMap Cl)++Lib.strCells (⟨t.toArray⟩++⟨#[10]⟩):=by rw [hfs.out,xU.out];simp [ZL,Lib.strCells,bytes_append t [10]]
      rw [e];exact hI5))
     have hB5:Hid (Below W1 W1 w5):=Aa (hB4.trans hb5);clear BW hb5;go_wp2;go_roundw;case rel=>exact⟨k+1,oM,by go_num,hI5,hB5,hJ'⟩
     case measure=>simp [ZG];omega
   ·have hkN:k=N:=oM;subst hkN;have hI:=hI.out;have hJ:=hJ.out;rw [<- HN.out,Dx] at hI hJ;have hR4:Hid (jT (some (WV++[10]++v.acts.flatMap Cl))=R):=Aa (by rw [<- hR3.out,Ma v.acts hJ];rfl);generalize WV++[10]++v.acts.flatMap Cl=FT at *;go_wp2_with fail;refine (Tryz.Builder_String_any _ _ _ _ hI hBr.out.size).mono ?_;rintro e w4 ⟨rfl,hb4⟩;go_wp2;refine Au (Bc rfl _ _ _) rfl ?_;exact⟨by rw [<- hR4.out];rfl,hBw.trans (hb4.mono hB1.size)⟩
theorem G2a (a:CH.Act) (s:fF) (w:ZB) (hG:Gc w) (h:fM w w a s) (U:∀ W,Below w w W->ZE prog 46 #[.agg (Al a s).toArray] W (Ret W (.bool (CH.unused a)))) : ZE prog 19 #[.agg (Al a s).toArray] w (Ret w (bF (aU a))):=by
 obtain⟨R,hR⟩:∃ R,Hid (bF (aU a)=R):=⟨_,Aa rfl⟩
 rw [hR.out];have HH:=Aa fun (W:ZB) (hb:Below w w W)=>(h.below hb nR).mono hb.size;have hB0:=fun o=>(Ac _ w).alloc nR o;have HS:=Aa h.small;obtain⟨vn,vk,vm,vp,vj⟩:=s;clear h;generalize hC:Al a { vn:=vn,vk:=vk,vm:=vm,vp:=vp,vj:=vj }=C at U ⊢;have hlen:(prog.info? 69).map (·.size)=some C.length:=by rw [<- hC];kernel_rfl
 have hC:=Aa hC;have hr0:=Aa (B6 w C 69);have U:=Aa U;obtain⟨u,hu⟩:∃ u,CH.unused a=u:=⟨_,rfl⟩
 rw [hu] at U;have hu:=Aa hu;go_enter func19,ntmps19;go_wp2_with (refine Bh rfl 69 _ rfl w 0 rfl C _ hr0.out underlying69 rfl hlen ?_)
 refine (U.out _ (hB0 _)).mono ?_;rintro e w1 ⟨rfl,hb1⟩;clear U;have hB1:Below w w w1:=(hB0 _).trans (hb1.mono sM);have hlt1:w.heap.size<w1.heap.size:=Ah sM hb1.size;have hr1:w1.rangeAt w 0 C:=B9 hr0.out hb1 sM;rw [<- hC.out] at hr1;have k0:w1.cell? ⟨w,0,none⟩=some ↑a.kind:=hr1 0 _ rfl;have r1:w1.rangeAt w 1 (Bb a.change vn++(A5 a.measure vk++(Bu a.licence vm vp++(A4 a.holding vj++[ay a.id,aJ a.n])))):=De (l:=[aJ a.kind]) hr1 1 rfl;have r6:=De r1 6 rfl;have r18:=De r6 18 rfl;have r25:=De r18 25 rfl;have r35:=De r25 35 rfl;have r1:=Aa (Hb r1);have r6:=Aa (Hb r6);have r18:=Aa (Hb r18);have r25:=Aa (Hb r25);have r35:=Aa r35;clear hb1 hB0 hr0 hr1 hC hlen;cases u with
 |false =>go_wp2;refine Au (Bc rfl _ _ _) rfl ?_;exact⟨by rw [<- hR.out];unfold aU;rw [hu.out];rfl,hB1⟩
 |true =>
  rcases Yc a.kind with hk|hk|hk|hk|hk|hk|hk|hk
  ·rw [hk] at k0;have hR1:Hid (bF ((bJ a.change).map (([99,104,97,110,103,101,32]:List UInt8)++·))=R):=Aa (by rw [<- hR.out];unfold aU;rw [hu.out,hk];rfl);have T:=Abo vn a.change w1 (hG.below hB1) (HH.out w1 hB1).names HS.out.change HS.out.pos.1 HS.out.pos.2;obtain⟨t,ht⟩:∃ t,bJ a.change=t:=⟨_,rfl⟩
   have hl:∀ x,t=some x->x.length<=1000000:=fun x hx=>S4 (ht.trans hx) HS.out.change HS.out.pos;rw [ht] at T hR1;clear ht;have hcl:(prog.info? 60).map (·.size)=some (Bb a.change vn).length:=kR;generalize Bb a.change vn=CC at *;have T:=Aa T;go_wp2_with (refine Bh rfl 60 _ rfl w 1 rfl CC _ r1.out underlying60 rfl hcl ?_)
   refine T.out.mono ?_;rintro e w2 ⟨rfl,hb2⟩;clear T;cases t with
   |none =>dsimp only [bF];go_wp2;refine Au (Bc rfl _ _ _) rfl ?_;exact⟨by rw [<- hR1.out];rfl,hB1.trans (hb2.mono hB1.size)⟩
   |some t =>have hl:=hl t rfl;have hl4:¬ (9223372036854775807<7+t.length):=oM;dsimp only [bF];go_wp2;refine Au (Bc rfl _ _ _) rfl ?_;exact⟨by rw [<- hR1.out];rfl,hB1.trans (hb2.mono hB1.size)⟩
  ·rw [hk] at k0;have hR1:Hid (bF ((dn a.measure).map (([109,101,97,115,117,114,101,32]:List UInt8)++·))=R):=Aa (by rw [<- hR.out];unfold aU;rw [hu.out,hk];rfl);have T:=Tc a.measure vk w1 (hG.below hB1).gl (HH.out w1 hB1).meas;obtain⟨t,ht⟩:∃ t,dn a.measure=t:=⟨_,rfl⟩
   have hl:∀ x,t=some x->x.length<=100000000:=fun x hx=>R4 (ht.trans hx) (HH.out w1 hB1).meas;rw [ht] at T hR1;clear ht;have hcl:(prog.info? 65).map (·.size)=some (A5 a.measure vk).length:=kR;generalize A5 a.measure vk=CC at *;have T:=Aa T;go_wp2_with (refine Bh rfl 65 _ rfl w 6 rfl CC _ r6.out underlying65 rfl hcl ?_)
   refine T.out.mono ?_;rintro e w2 ⟨rfl,hb2⟩;clear T;cases t with
   |none =>dsimp only [bF];go_wp2;refine Au (Bc rfl _ _ _) rfl ?_;exact⟨by rw [<- hR1.out];rfl,hB1.trans (hb2.mono hB1.size)⟩
   |some t =>have hl:=hl t rfl;have hl4:¬ (9223372036854775807<8+t.length):=oM;dsimp only [bF];go_wp2;refine Au (Bc rfl _ _ _) rfl ?_;exact⟨by rw [<- hR1.out];rfl,hB1.trans (hb2.mono hB1.size)⟩
  ·rw [hk] at k0;have hR1:Hid (bF (if aP a.licence=true then some (CH.words (Lz a.licence)++[59]) else none)=R):=Aa (by rw [<- hR.out];unfold aU;rw [hu.out,hk];rfl);have hcl:(prog.info? 67).map (·.size)=some (Bu a.licence vm vp).length:=kR;have h1c:∀ v∈Bu a.licence vm vp,v.oneCell'=true:=by
    obtain⟨_,_,e1,_,_⟩:=(HH.out w1 hB1).lm.form;obtain⟨_,_,e2,_,_⟩:=(HH.out w1 hB1).lp.form;change vm=_ at e1;change vp=_ at e2;intro v hv;simp only [Bu,A8,Ba,Dh] at hv;rcases hv with rfl|rfl|rfl|rfl|rfl|rfl|rfl;·rfl
    ·rw [e1];rfl
    ·rw [e2];rfl
    all_goals rfl
   have T:=Aa fun (W:ZB) (hb:Below w w W)=>Acq (Bu a.licence vm vp) a.licence W ⟨vm,vp,rfl,(HH.out W hb).lm,(HH.out W hb).lp⟩ HS.out.lid HS.out.lm HS.out.lp;have hn1:=Aa (B6 w1 (Bu a.licence vm vp) 67);obtain⟨ok,hok⟩:∃ ok,aP a.licence=ok:=⟨_,rfl⟩
   rw [hok] at T hR1;have hok:=Aa hok;generalize hLL:Bu a.licence vm vp=LL at *;have hLL:=Aa hLL;have hBa:=fun o=>hB1.alloc hB1.size o;go_wp2_with (first|refine Bh rfl 67 _ rfl w 18 rfl LL _ r18.out underlying67 rfl hcl ?_|refine Ca rfl 67 _ _ rfl LL rfl rfl (by rw [<- hLL.out];rfl) hcl h1c ?_|refine Bh rfl 67 _ rfl w1 0 rfl LL _ hn1.out underlying67 rfl hcl ?_)
   refine (T.out _ (hBa _)).mono ?_;rintro e w2 ⟨rfl,hb2⟩;clear T;have hB2:Below w w w2:=(hBa _).trans (hb2.mono (hBa _).size);have hr2:w2.rangeAt w1 0 LL:=B9 hn1.out hb2 sM;rw [<- hLL.out] at hr2;cases ok with
   |false =>go_wp2;refine Au (Bc rfl _ _ _) rfl ?_;exact⟨by rw [<- hR1.out];rfl,hB2⟩
   |true =>
    have hA2:=HH.out w2 hB2;have hlm:Strs w2 w2 vm a.licence.measures:=hA2.lm;have hlp:Strs w2 w2 vp a.licence.aK:=hA2.lp;obtain⟨q1,q2,q3,q4,q5,q6⟩:=Vi hok.out;obtain⟨am,cm,rfl,_,_⟩:=hlm.form;obtain⟨ap,cp,rfl,_,_⟩:=hlp.form;have g0:w2.cell? ⟨w1,0,none⟩=some (ay a.licence.id):=hr2 0 _ rfl;have g1:w2.cell? ⟨w1,1,none⟩=some (.slice am a.licence.measures.length cm):=hr2 1 _ rfl;have g2:w2.cell? ⟨w1,2,none⟩=some (.slice ap a.licence.aK.length cp):=hr2 2 _ rfl;have g3:w2.cell? ⟨w1,3,none⟩=some ↑a.licence.quota:=hr2 3 _ rfl;have g4:w2.cell? ⟨w1,4,none⟩=some ↑a.licence.uses:=hr2 4 _ rfl;have g5:w2.cell? ⟨w1,5,none⟩=some ↑a.licence.start:=hr2 5 _ rfl;have g6:w2.cell? ⟨w1,6,none⟩=some ↑a.licence.aB:=hr2 6 _ rfl;have hwl:=Ph hok.out HS.out.lid HS.out.lm HS.out.lp;have hWV:Kf w2 w2 (Lz a.licence) [.iface 9 (ay ([108,105,99,101,110,99,101]:List UInt8)),.iface 9 (ay a.licence.id),.iface 3 ↑a.licence.quota,.iface 3 ↑a.licence.uses,.iface 3 ↑a.licence.start,.iface 3 ↑a.licence.aB,.iface 3 ↑a.licence.measures.length,.iface 22 (.slice am a.licence.measures.length cm),.iface 22 (.slice ap a.licence.aK.length cp)] := ⟨rfl,rfl,⟨rfl,q3⟩,⟨rfl,q4⟩,⟨rfl,q5⟩,⟨rfl,q6⟩,⟨rfl,oM,oM⟩,⟨_,rfl,hlm,oM⟩,⟨_,rfl,hlp,oM⟩,trivial⟩
    have WN:=Aa fun T=>Lf (Lz a.licence) _ T 9 w2 (hG.below hB2).gl hWV rfl dC oM;generalize hWW:CH.words (Lz a.licence)=WW at *;have hl4:¬ (9223372036854775807<WW.length+1):=oM;have hR2:Hid (bF (some (WW++[59]))=R):=Aa (by rw [<- hR1.out,Aw rfl]);clear hR1 hr2 hWV hlm hlp hA2 q1 q2 q3 q4 q5 q6 hn1 hLL;generalize a.licence.measures.length=nm at *;generalize a.licence.aK.length=np at *;go_wp2_with fail;refine (WN.out _).mono ?_;rintro e w3 ⟨rfl,hb3⟩;clear WN;go_wp2;refine Au (Bc rfl _ _ _) rfl ?_;exact⟨by rw [<- hR2.out];rfl,(hB2.alloc hB2.size _).trans (hb3.mono (hB2.alloc hB2.size _).size)⟩
  ·rw [hk] at k0;have hR1:Hid (bF (if bK a.holding=true then some (CH.words (K0 a.holding)++[59]) else none)=R):=Aa (by rw [<- hR.out];unfold aU;rw [hu.out,hk];rfl);have hcl:(prog.info? 55).map (·.size)=some (A4 a.holding vj).length:=kR;have h1c:∀ v∈A4 a.holding vj,v.oneCell'=true:=by
    obtain⟨_,_,e1,_,_⟩:=(HH.out w1 hB1).hj.form;change vj=_ at e1;intro v hv;simp only [A4,A8,Ba,Dh] at hv;rcases hv with rfl|rfl|rfl|rfl|rfl|rfl|rfl|rfl|rfl|rfl;·rfl
    ·rfl
    ·rfl
    ·rfl
    ·rfl
    ·rw [e1];rfl
    all_goals rfl
   have hn1:=Aa (B6 w1 (A4 a.holding vj) 55);obtain⟨ok,hok⟩:∃ ok,bK a.holding=ok:=⟨_,rfl⟩
   rw [hok] at hR1;have hok:=Aa hok;generalize hLL:A4 a.holding vj=LL at *;have mM:LL.length=10:=by rw [<- hLL];rfl
   have hLL:=Aa hLL;have hBa:=fun o=>hB1.alloc hB1.size o;go_wp2_with (first|refine Bh rfl 55 _ rfl w 25 rfl LL _ r25.out underlying55 rfl hcl ?_|refine Ca rfl 55 _ _ rfl LL rfl rfl (by rw [<- hLL.out];rfl) hcl h1c ?_|refine Bh rfl 55 _ rfl w1 0 rfl LL _ hn1.out underlying55 rfl hcl ?_)
   rw [Vw LL _ (by rw [mM];rfl)];have hBb:Below w w ((w1.alloc (.cells LL.toArray 55)).alloc (.cells LL.toArray 55)):=(hBa _).alloc (hBa _).size _;have T:=Aa (Zf (.slice (some ⟨w1+1,0,none⟩) 1 1) a.holding ((w1.alloc (.cells LL.toArray 55)).alloc (.cells LL.toArray 55)) ⟨w1+1,vj,rfl,sM,fun j x hj=>by rw [hLL.out] at hj;have:=B6 (w1.alloc (.cells LL.toArray 55)) LL 55 j x hj;rwa [Bl,Cc] at this,(HH.out _ hBb).hj⟩ HS.out.hold);refine T.out.mono ?_;rw [hok.out];rintro e w2 ⟨rfl,hb2⟩;clear T;have hB2:Below w w w2:=hBb.trans (hb2.mono hBb.size);have hr2:w2.rangeAt w1 0 LL:=B9 (Ds hn1.out _) hb2 (by simp;omega);rw [<- hLL.out] at hr2;clear mM;cases ok with
   |false =>go_wp2;refine Au (Bc rfl _ _ _) rfl ?_;exact⟨by rw [<- hR1.out];rfl,hB2⟩
   |true =>
    have hA2:=HH.out w2 hB2;have hlj:Strs w2 w2 vj a.holding.joint:=hA2.hj;obtain⟨q1,q3,q4,q5,q6⟩:=Vn hok.out;obtain⟨aj,cj,rfl,_,_⟩:=hlj.form;have g0:w2.cell? ⟨w1,0,none⟩=some (ay a.holding.id):=hr2 0 _ rfl;have g1:w2.cell? ⟨w1,1,none⟩=some (ay a.holding.company):=hr2 1 _ rfl;have g2:w2.cell? ⟨w1,2,none⟩=some (ay a.holding.holder):=hr2 2 _ rfl;have g3:w2.cell? ⟨w1,3,none⟩=some (ay a.holding.ah):=hr2 3 _ rfl;have g4:w2.cell? ⟨w1,4,none⟩=some (ay a.holding.aA):=hr2 4 _ rfl;have g5:w2.cell? ⟨w1,5,none⟩=some (.slice aj a.holding.joint.length cj):=hr2 5 _ rfl;have g6:w2.cell? ⟨w1,6,none⟩=some ↑a.holding.capital:=hr2 6 _ rfl;have g7:w2.cell? ⟨w1,7,none⟩=some ↑a.holding.bM:=hr2 7 _ rfl;have g8:w2.cell? ⟨w1,8,none⟩=some ↑a.holding.start:=hr2 8 _ rfl;have g9:w2.cell? ⟨w1,9,none⟩=some ↑a.holding.stop:=hr2 9 _ rfl;have hwl:=Vv hok.out HS.out.hold;have hWV:Kf w2 w2 (K0 a.holding) [.iface 9 (ay ([104,111,108,100,105,110,103]:List UInt8)),.iface 9 (ay a.holding.id),.iface 9 (ay a.holding.company),.iface 9 (ay a.holding.holder),.iface 9 (ay a.holding.ah),.iface 9 (ay a.holding.aA),.iface 3 ↑a.holding.capital,.iface 3 ↑a.holding.bM,.iface 3 ↑a.holding.start,.iface 3 ↑a.holding.stop,.iface 22 (.slice aj a.holding.joint.length cj)] := ⟨rfl,rfl,rfl,rfl,rfl,rfl,⟨rfl,q3⟩,⟨rfl,q4⟩,⟨rfl,q5⟩,⟨rfl,q6⟩,⟨_,rfl,hlj,oM⟩,trivial⟩
    have WN:=Aa fun T=>Lf (K0 a.holding) _ T 11 w2 (hG.below hB2).gl hWV rfl dC oM;generalize hWW:CH.words (K0 a.holding)=WW at *;have hl4:¬ (9223372036854775807<WW.length+1):=oM;have hR2:Hid (bF (some (WW++[59]))=R):=Aa (by rw [<- hR1.out,Aw rfl]);clear hR1 hr2 hWV hlj hA2 q1 q3 q4 q5 q6 hn1 hLL;generalize a.holding.joint.length=nj at *;go_wp2_with fail;refine (WN.out _).mono ?_;rintro e w3 ⟨rfl,hb3⟩;clear WN;go_wp2;refine Au (Bc rfl _ _ _) rfl ?_;exact⟨by rw [<- hR2.out];rfl,(hB2.alloc hB2.size _).trans (hb3.mono (hB2.alloc hB2.size _).size)⟩
  ·rw [hk] at k0;have hR1:Hid (bF (if (CH.ident a.id&&CH.within a.n 144001439)=true then some (CH.words (Ck a)++[59]) else none)=R):=Aa (by rw [<- hR.out];unfold aU Ck;rw [hu.out,hk];rfl);have k35:w1.cell? ⟨w,35,none⟩=some (ay a.id):=r35.out 0 _ rfl;have k36:w1.cell? ⟨w,36,none⟩=some ↑a.n:=r35.out 1 _ rfl;have I:=Nm a.id w1 (Ag HS.out.id dC);obtain⟨bi,hbi⟩:∃ b,CH.ident a.id=b:=⟨_,rfl⟩
   rw [hbi] at I hR1;have I:=Aa I;clear hbi;go_wp2_with fail;refine I.out.mono ?_;rintro e w2 ⟨rfl,hb2⟩;have hB2:Below w w w2:=hB1.trans (hb2.mono hB1.size);have m0:=(hb2.cell (p:=⟨w,0,none⟩) hlt1).trans k0;have m35:=(hb2.cell (p:=⟨w,35,none⟩) hlt1).trans k35;have m36:=(hb2.cell (p:=⟨w,36,none⟩) hlt1).trans k36;clear I k0 k35 k36;obtain⟨c1,hc1⟩:∃ b,ZH (0<=a.n)=b:=⟨_,rfl⟩
   obtain⟨c2,hc2⟩:∃ b,ZH (a.n<=144001439)=b:=⟨_,rfl⟩
   have hR2:Hid (bF (if (bi&&(c1&&c2))=true then some (CH.words (Ck a)++[59]) else none)=R):=Aa (by rw [<- hR1.out];unfold CH.within;rw [hc1,hc2]);clear hR1;rcases (by cases bi <;> cases c1 <;> cases c2 <;> simp:(bi=false)\/(bi=true/\c1=false)\/(bi=true/\c1=true/\c2=false)\/(bi=true/\c1=true/\c2=true)) with rfl|⟨rfl,rfl⟩|⟨rfl,rfl,rfl⟩|⟨rfl,rfl,rfl⟩;iterate 3 ·go_wp2;refine Au (Bc rfl _ _ _) rfl ?_;exact⟨by rw [<- hR2.out];rfl,hB2⟩
   have hmm:=@Ig prog;obtain⟨o1,o2,o3,u1,u2,u3,um⟩:=Q2 w2 5 3 7 ([114,101,118,111,107,101]:List UInt8) ([114,101,112,101,97,108]:List UInt8) ([101,110,100]:List UInt8) rfl rfl rfl;have ul:=Dr Ms underlying111 (.string ⟨#[]⟩) Tt um 5;have ule:((Cg (5:Int) [((5:Int),ay ([114,101,118,111,107,101]:List UInt8)),(3,ay ([114,101,112,101,97,108]:List UInt8)),(7,ay ([101,110,100]:List UInt8))] 0).map (·.2)).getD (.string ⟨#[]⟩)=ay ([114,101,118,111,107,101]:List UInt8):=rfl;rw [ule] at ul;have hBX:Below w2 w2 ((((w2.alloc (.map #[] 0)).putObj w2.heap.size o1).putObj w2.heap.size o2).putObj w2.heap.size o3):=Bt (Bt (Bt ((Ac _ w2).alloc nR _) nR _) nR _) nR _;have hXs:((((w2.alloc (.map #[] 0)).putObj w2.heap.size o1).putObj w2.heap.size o2).putObj w2.heap.size o3).heap.size=w2.heap.size+1:=sM;have hl2:w.heap.size<w2.heap.size:=Ah hlt1 hb2.size;have x0:=(hBX.cell (p:=⟨w,0,none⟩) hl2).trans m0;have x35:=(hBX.cell (p:=⟨w,35,none⟩) hl2).trans m35;have x36:=(hBX.cell (p:=⟨w,36,none⟩) hl2).trans m36;have hBX:=Aa (hB2.trans (hBX.mono hB2.size));have hXs:=Aa hXs;have hR3:Hid (bF (some (CH.words (Ck a)++[59]))=R):=Aa (by rw [<- hR2.out];rfl);clear um ule hR2;go_wp2_with fail;rw [<- hXs.out];clear u1 u2 u3 ul hmm hXs;generalize ((((w2.alloc (.map #[] 0)).putObj w2.heap.size o1).putObj w2.heap.size o2).putObj w2.heap.size o3)=X at *;have hwl:=My HS.out.id HS.out.n;have hWV:Kf X X (Ck a) [.iface 9 (ay ([114,101,118,111,107,101]:List UInt8)),.iface 9 (ay a.id),.iface 3 ↑a.n]:=by unfold Ck;rw [hk];exact⟨rfl,rfl,⟨rfl,HS.out.n⟩,trivial⟩
   have WN:=Aa fun T=>Lf (Ck a) _ T 3 X (hG.below hBX.out).gl hWV rfl dC oM;generalize hWW:CH.words (Ck a)=WW at *;have hl4:¬ (9223372036854775807<WW.length+1):=oM;refine (WN.out _).mono ?_;rintro e w3 ⟨rfl,hb3⟩;clear WN hWV;go_wp2;refine Au (Bc rfl _ _ _) rfl ?_;exact⟨by rw [<- hR3.out];rfl,(hBX.out.alloc hBX.out.size _).trans (hb3.mono (hBX.out.alloc hBX.out.size _).size)⟩
  ·rw [hk] at k0;have hR1:Hid (bF (if (CH.ident a.id&&CH.within a.n 100000)=true then some (CH.words (Ck a)++[59]) else none)=R):=Aa (by rw [<- hR.out];unfold aU Ck;rw [hu.out,hk];rfl);have k35:w1.cell? ⟨w,35,none⟩=some (ay a.id):=r35.out 0 _ rfl;have k36:w1.cell? ⟨w,36,none⟩=some ↑a.n:=r35.out 1 _ rfl;have I:=Nm a.id w1 (Ag HS.out.id dC);obtain⟨bi,hbi⟩:∃ b,CH.ident a.id=b:=⟨_,rfl⟩
   rw [hbi] at I hR1;have I:=Aa I;clear hbi;go_wp2_with fail;refine I.out.mono ?_;rintro e w2 ⟨rfl,hb2⟩;have hB2:Below w w w2:=hB1.trans (hb2.mono hB1.size);have m0:=(hb2.cell (p:=⟨w,0,none⟩) hlt1).trans k0;have m35:=(hb2.cell (p:=⟨w,35,none⟩) hlt1).trans k35;have m36:=(hb2.cell (p:=⟨w,36,none⟩) hlt1).trans k36;clear I k0 k35 k36;obtain⟨c1,hc1⟩:∃ b,ZH (0<=a.n)=b:=⟨_,rfl⟩
   obtain⟨c2,hc2⟩:∃ b,ZH (a.n<=100000)=b:=⟨_,rfl⟩
   have hR2:Hid (bF (if (bi&&(c1&&c2))=true then some (CH.words (Ck a)++[59]) else none)=R):=Aa (by rw [<- hR1.out];unfold CH.within;rw [hc1,hc2]);clear hR1;rcases (by cases bi <;> cases c1 <;> cases c2 <;> simp:(bi=false)\/(bi=true/\c1=false)\/(bi=true/\c1=true/\c2=false)\/(bi=true/\c1=true/\c2=true)) with rfl|⟨rfl,rfl⟩|⟨rfl,rfl,rfl⟩|⟨rfl,rfl,rfl⟩;iterate 3 ·go_wp2;refine Au (Bc rfl _ _ _) rfl ?_;exact⟨by rw [<- hR2.out];rfl,hB2⟩
   have hmm:=@Ig prog;obtain⟨o1,o2,o3,u1,u2,u3,um⟩:=Q2 w2 5 3 7 ([114,101,118,111,107,101]:List UInt8) ([114,101,112,101,97,108]:List UInt8) ([101,110,100]:List UInt8) rfl rfl rfl;have ul:=Dr Ms underlying111 (.string ⟨#[]⟩) Tt um 3;have ule:((Cg (3:Int) [((5:Int),ay ([114,101,118,111,107,101]:List UInt8)),(3,ay ([114,101,112,101,97,108]:List UInt8)),(7,ay ([101,110,100]:List UInt8))] 0).map (·.2)).getD (.string ⟨#[]⟩)=ay ([114,101,112,101,97,108]:List UInt8):=rfl;rw [ule] at ul;have hBX:Below w2 w2 ((((w2.alloc (.map #[] 0)).putObj w2.heap.size o1).putObj w2.heap.size o2).putObj w2.heap.size o3):=Bt (Bt (Bt ((Ac _ w2).alloc nR _) nR _) nR _) nR _;have hXs:((((w2.alloc (.map #[] 0)).putObj w2.heap.size o1).putObj w2.heap.size o2).putObj w2.heap.size o3).heap.size=w2.heap.size+1:=sM;have hl2:w.heap.size<w2.heap.size:=Ah hlt1 hb2.size;have x0:=(hBX.cell (p:=⟨w,0,none⟩) hl2).trans m0;have x35:=(hBX.cell (p:=⟨w,35,none⟩) hl2).trans m35;have x36:=(hBX.cell (p:=⟨w,36,none⟩) hl2).trans m36;have hBX:=Aa (hB2.trans (hBX.mono hB2.size));have hXs:=Aa hXs;have hR3:Hid (bF (some (CH.words (Ck a)++[59]))=R):=Aa (by rw [<- hR2.out];rfl);clear um ule hR2;go_wp2_with fail;rw [<- hXs.out];clear u1 u2 u3 ul hmm hXs;generalize ((((w2.alloc (.map #[] 0)).putObj w2.heap.size o1).putObj w2.heap.size o2).putObj w2.heap.size o3)=X at *;have hwl:=My HS.out.id HS.out.n;have hWV:Kf X X (Ck a) [.iface 9 (ay ([114,101,112,101,97,108]:List UInt8)),.iface 9 (ay a.id),.iface 3 ↑a.n]:=by unfold Ck;rw [hk];exact⟨rfl,rfl,⟨rfl,HS.out.n⟩,trivial⟩
   have WN:=Aa fun T=>Lf (Ck a) _ T 3 X (hG.below hBX.out).gl hWV rfl dC oM;generalize hWW:CH.words (Ck a)=WW at *;have hl4:¬ (9223372036854775807<WW.length+1):=oM;refine (WN.out _).mono ?_;rintro e w3 ⟨rfl,hb3⟩;clear WN hWV;go_wp2;refine Au (Bc rfl _ _ _) rfl ?_;exact⟨by rw [<- hR3.out];rfl,(hBX.out.alloc hBX.out.size _).trans (hb3.mono (hBX.out.alloc hBX.out.size _).size)⟩
  ·rw [hk] at k0;have hR1:Hid (bF (if (CH.ident a.id&&CH.within a.n 100000)=true then some (CH.words (Ck a)++[59]) else none)=R):=Aa (by rw [<- hR.out];unfold aU Ck;rw [hu.out,hk];rfl);have k35:w1.cell? ⟨w,35,none⟩=some (ay a.id):=r35.out 0 _ rfl;have k36:w1.cell? ⟨w,36,none⟩=some ↑a.n:=r35.out 1 _ rfl;have I:=Nm a.id w1 (Ag HS.out.id dC);obtain⟨bi,hbi⟩:∃ b,CH.ident a.id=b:=⟨_,rfl⟩
   rw [hbi] at I hR1;have I:=Aa I;clear hbi;go_wp2_with fail;refine I.out.mono ?_;rintro e w2 ⟨rfl,hb2⟩;have hB2:Below w w w2:=hB1.trans (hb2.mono hB1.size);have m0:=(hb2.cell (p:=⟨w,0,none⟩) hlt1).trans k0;have m35:=(hb2.cell (p:=⟨w,35,none⟩) hlt1).trans k35;have m36:=(hb2.cell (p:=⟨w,36,none⟩) hlt1).trans k36;clear I k0 k35 k36;obtain⟨c1,hc1⟩:∃ b,ZH (0<=a.n)=b:=⟨_,rfl⟩
   obtain⟨c2,hc2⟩:∃ b,ZH (a.n<=100000)=b:=⟨_,rfl⟩
   have hR2:Hid (bF (if (bi&&(c1&&c2))=true then some (CH.words (Ck a)++[59]) else none)=R):=Aa (by rw [<- hR1.out];unfold CH.within;rw [hc1,hc2]);clear hR1;rcases (by cases bi <;> cases c1 <;> cases c2 <;> simp:(bi=false)\/(bi=true/\c1=false)\/(bi=true/\c1=true/\c2=false)\/(bi=true/\c1=true/\c2=true)) with rfl|⟨rfl,rfl⟩|⟨rfl,rfl,rfl⟩|⟨rfl,rfl,rfl⟩;iterate 3 ·go_wp2;refine Au (Bc rfl _ _ _) rfl ?_;exact⟨by rw [<- hR2.out];rfl,hB2⟩
   have hmm:=@Ig prog;obtain⟨o1,o2,o3,u1,u2,u3,um⟩:=Q2 w2 5 3 7 ([114,101,118,111,107,101]:List UInt8) ([114,101,112,101,97,108]:List UInt8) ([101,110,100]:List UInt8) rfl rfl rfl;have ul:=Dr Ms underlying111 (.string ⟨#[]⟩) Tt um 7;have ule:((Cg (7:Int) [((5:Int),ay ([114,101,118,111,107,101]:List UInt8)),(3,ay ([114,101,112,101,97,108]:List UInt8)),(7,ay ([101,110,100]:List UInt8))] 0).map (·.2)).getD (.string ⟨#[]⟩)=ay ([101,110,100]:List UInt8):=rfl;rw [ule] at ul;have hBX:Below w2 w2 ((((w2.alloc (.map #[] 0)).putObj w2.heap.size o1).putObj w2.heap.size o2).putObj w2.heap.size o3):=Bt (Bt (Bt ((Ac _ w2).alloc nR _) nR _) nR _) nR _;have hXs:((((w2.alloc (.map #[] 0)).putObj w2.heap.size o1).putObj w2.heap.size o2).putObj w2.heap.size o3).heap.size=w2.heap.size+1:=sM;have hl2:w.heap.size<w2.heap.size:=Ah hlt1 hb2.size;have x0:=(hBX.cell (p:=⟨w,0,none⟩) hl2).trans m0;have x35:=(hBX.cell (p:=⟨w,35,none⟩) hl2).trans m35;have x36:=(hBX.cell (p:=⟨w,36,none⟩) hl2).trans m36;have hBX:=Aa (hB2.trans (hBX.mono hB2.size));have hXs:=Aa hXs;have hR3:Hid (bF (some (CH.words (Ck a)++[59]))=R):=Aa (by rw [<- hR2.out];rfl);clear um ule hR2;go_wp2_with fail;rw [<- hXs.out];clear u1 u2 u3 ul hmm hXs;generalize ((((w2.alloc (.map #[] 0)).putObj w2.heap.size o1).putObj w2.heap.size o2).putObj w2.heap.size o3)=X at *;have hwl:=My HS.out.id HS.out.n;have hWV:Kf X X (Ck a) [.iface 9 (ay ([101,110,100]:List UInt8)),.iface 9 (ay a.id),.iface 3 ↑a.n]:=by unfold Ck;rw [hk];exact⟨rfl,rfl,⟨rfl,HS.out.n⟩,trivial⟩
   have WN:=Aa fun T=>Lf (Ck a) _ T 3 X (hG.below hBX.out).gl hWV rfl dC oM;generalize hWW:CH.words (Ck a)=WW at *;have hl4:¬ (9223372036854775807<WW.length+1):=oM;refine (WN.out _).mono ?_;rintro e w3 ⟨rfl,hb3⟩;clear WN hWV;go_wp2;refine Au (Bc rfl _ _ _) rfl ?_;exact⟨by rw [<- hR3.out];rfl,(hBX.out.alloc hBX.out.size _).trans (hb3.mono (hBX.out.alloc hBX.out.size _).size)⟩
  ·obtain⟨n1,n2,n4,n6,n5,n3,n7⟩:=hk;have b1:(a.kind==1)=false:=by simpa using n1
   have b2:(a.kind==2)=false:=by simpa using n2
   have b4:(a.kind==4)=false:=by simpa using n4
   have b6:(a.kind==6)=false:=by simpa using n6
   have b5:(a.kind==5)=false:=by simpa using n5
   have b3:(a.kind==3)=false:=by simpa using n3
   have b7:(a.kind==7)=false:=by simpa using n7
   have hR1:Hid (bF none=R):=Aa (by rw [<- hR.out];unfold aU;rw [hu.out,if_neg dC,if_neg n1,if_neg n2,if_neg n4,if_neg n6,if_neg oM]);clear n1 n2 n4 n6 n5 n3 n7;go_wp2;refine Au (Bc rfl _ _ _) rfl ?_;exact⟨by rw [<- hR1.out];rfl,hB1⟩
end
section
open Go.Lib Go.Proofs.Tryz Go.RowKit Go.Shelf Go.Sort CH
attribute [local go_sem] Iw
theorem Q8 (v:ZC) (ls:List (List UInt8)) (w:ZB) (hG:Gl w) (hv:Strs w w v ls) (hl:∀ l∈ls,l.length<=9223372036854775807) : ZE prog 80 #[v] w (Ret w (.bool (ls.any fun l=>!aG l))):=by have hC:=S2 _ _ _ I36 v ls w hG hv hl;have HC:=Aa hC;clear hC hv hl;go_enter func80,ntmps80;go_wp2_with fail;refine HC.out.mono ?_;rintro e w1 ⟨rfl,hb⟩;clear HC;go_wp2;go_ret;exact⟨rfl,hb⟩
def R6 (pub m:List UInt8) (idx:Int) (sig path:List (List UInt8)):Bool := sig.length==18&&(ZH (path.length<=8)&&(!(sig.any fun l=>!aG l)&&(!(path.any fun l=>!aG l)&&(ZH (0<=idx)&&(ZH (idx<2 ^ path.length) && dP pub (2 ^ path.length) idx.toNat (CH.dl (CH.ends sig m)) path)))))
structure uY (wq:ZB) (B i:Nat) (v1 v2:ZC) (sig:List (List UInt8)) (pre:List DP) (W:ZB):Prop where
 le:wq.heap.size+2<=W.heap.size
 box:W.heap[B]?=some (.cells #[↑i,v1,v2] 36 (0,0))
 ends:∃ v,W.heap[wq.heap.size]?=some (.cells #[v] 22 (0,0))/\Ay (wq+2) W v (pre.map fun x=>CH.chain (15 - x.2.val) (sig.getD x.1.val []))
 below:Below wq wq W
theorem uY.own (wq:ZB) (B i:Nat) (v1 v2:ZC) (sig:List (List UInt8)) (hBq:B<wq.heap.size) (C:Nat) (hC:wq.heap.size+2<=C):OwnFrom C (uY wq B i v1 v2 sig):=by intro pre W W' row h hg hr;obtain⟨h1,h2,⟨v,h5,h6⟩,h7⟩:=h;have key:∀ k,k<wq.heap.size+2->W'.heap[k]?=W.heap[k]?:=fun k hk=>hg.block k oM (fun e=>by have:=(hr k e.symm).1;omega);have hsz:=hg.size;exact⟨oM,(key B oM).trans h2,⟨v,(key _ oM).trans h5,Ks h6 hg (fun r e=>(hr r e).2)⟩, ⟨hg.os.trans h7.os,hg.tape.trans h7.tape,hg.output.trans h7.output,Ag h7.size hsz,fun k hk=>(key k oM).trans (h7.block k hk)⟩⟩
theorem Bin (h:Nat) (hh:h<=8):IntKind.i64.wrap ((2:Int) ^ h)=(2:Int) ^ h:=by rcases h with _|_|_|_|_|_|_|_|_|h;all_goals first|decide +kernel|omega
theorem Lex (sig:List (List UInt8)) (m:List UInt8) (hs:sig.length=18):CH.ends sig m=(eF m).map fun x=>CH.chain (15 - x.2.val) (sig.getD x.1.val []):=by
 apply Jl;intro k;unfold CH.ends;have hl:=CH.length_digits m;by_cases hk:k<18
 ·obtain⟨d,hg⟩:∃ d,(CH.digits m)[k]?=some d:=⟨_,Ad oM⟩
  obtain⟨t,hg2⟩:∃ t,sig[k]?=some t:=⟨_,Ad oM⟩
  obtain⟨hd,h2⟩:=jH m k d hk hg;have hgd:sig.getD k []=t:=by simp [hg2]
  have hz:((CH.digits m).zip sig)[k]?=some (d,t):=List.getElem?_zip_eq_some.2 ⟨hg,hg2⟩;rw [Gg,Gg,h2,hz];simp only [Hg,hgd]
 ·rw [Gj,Gj];·rw [Dc,dI];omega
  ·rw [Dc,List.length_zip,hl];omega
theorem I56 (sig:List (List UInt8)) (m:List UInt8) (hs:∀ l∈sig,l.length<=1000000):∀ l∈CH.ends sig m,l.length<=1000000:=by
 intro l hl;unfold CH.ends at hl;obtain⟨⟨d,t⟩,hx,rfl⟩:=Ee.1 hl;have ht:=hs t (List.of_mem_zip hx).2;cases h:15 - d with
 |zero=>simpa [CH.chain,h] using ht
 |succ n=>simp only [h];rw [jw];simp [dY]
theorem Ye (w:ZB) (o1 o2:Obj):((w.alloc o1).alloc o2).heap[w.heap.size]?=some o1/\((w.alloc o1).alloc o2).heap[w.heap.size+1]?=some o2:=by simp only [World.alloc,Dk,Eb];exact⟨by rw [Ak oM,Aw trivial],by rw [Aw trivial]⟩
theorem Dup (pub m:List UInt8) (idx:Int) (v1 v2:ZC) (sig path:List (List UInt8)) (w:ZB) (hG:Gl w) (hm:m.length<=1000000) (h1:Strs w.heap.size w v1 sig) (h2:Strs w.heap.size w v2 path) (hl1:∀ l∈sig,l.length<=1000000) (hl2:∀ l∈path,l.length<=1000000) (hx:-9223372036854775808<=idx/\idx<=9223372036854775807) : ZE prog 40 #[.string ⟨pub.toArray⟩,.string ⟨m.toArray⟩,.agg #[.int .i64 idx,v1,v2]] w (Ret w (.bool (R6 pub m idx sig path))):=by
 have c1:∀ W,Below w.heap.size w W->ZE prog 80 #[v1] W (fun e w'=>e=.returned (.bool (sig.any fun l=>!aG l))/\Below W.heap.size W w'):=fun W hb =>Q8 v1 sig W (hG.below hb) ((h1.below hb nR).mono hb.size) (fun l hl=>by have:=hl1 l hl;omega);have c2:∀ W,Below w.heap.size w W->ZE prog 80 #[v2] W (fun e w'=>e=.returned (.bool (path.any fun l=>!aG l))/\Below W.heap.size W w'):=fun W hb =>Q8 v2 path W (hG.below hb) ((h2.below hb nR).mono hb.size) (fun l hl=>by have:=hl2 l hl;omega);obtain⟨a1,k1,e1,hk1,tH,EZ⟩:=id h1;obtain⟨a2,k2,e2,hk2,tC,-⟩:=id h2;have hsig:sig.length=18->∃ b off,a1=some ⟨b,off,none⟩/\b<w.heap.size/\∀ j l,sig[j]?=some l->w.cell? ⟨b,off+j,none⟩=some (.string ⟨l.toArray⟩):=fun h=>EZ (fun e=>by rw [e] at h;simp at h);subst e1 e2;have H1:=Aa h1;have H2:=Aa h2;have HV:Hid (R6 pub m idx sig path=(sig.length==18&&(ZH (path.length<=8)&&(!(sig.any fun l=>!aG l)&&(!(path.any fun l=>!aG l)&&(ZH (0<=idx)&&(ZH (idx<2 ^ path.length) &&
  dP pub (2 ^ path.length) idx.toNat (CH.dl (CH.ends sig m)) path))))))):=rfl
 generalize hV:R6 pub m idx sig path=V at HV;clear h1 h2 hV;generalize hn1:sig.length=n1 at *;generalize hn2:path.length=n2 at *;generalize hb1:(sig.any fun l=>!aG l)=b1 at *;generalize hb2:(path.any fun l=>!aG l)=b2 at *;have r1:∀ (d:Nat) (os:Array Obj),ZE prog 80 #[.slice a1 n1 k1] (Sort.grow (ZI (w.alloc (.cells #[.int .i64 idx,.slice a1 n1 k1,.slice a2 n2 k2] 36)) d) os) fun e w''=>e=.returned (.bool b1)/\∃ p:Regrown,w''=Sort.grow (ZI (w.alloc (.cells #[.int .i64 idx,.slice a1 n1 k1,.slice a2 n2 k2] 36)) p.d) p.os:=fun d os =>Bj (c1 _ ((Cr w _).trans ((Dv _ d os).mono sM)));have r2:∀ (d:Nat) (os:Array Obj),ZE prog 80 #[.slice a2 n2 k2] (Sort.grow (ZI (w.alloc (.cells #[.int .i64 idx,.slice a1 n1 k1,.slice a2 n2 k2] 36)) d) os) fun e w''=>e=.returned (.bool b2)/\∃ p:Regrown,w''=Sort.grow (ZI (w.alloc (.cells #[.int .i64 idx,.slice a1 n1 k1,.slice a2 n2 k2] 36)) p.d) p.os:=fun d os =>Bj (c2 _ ((Cr w _).trans ((Dv _ d os).mono sM)));have k0:∀ (d:Nat) (os:Array Obj),(Sort.grow (ZI (w.alloc (.cells #[.int .i64 idx,.slice a1 n1 k1,.slice a2 n2 k2] 36)) d) os).cell? ⟨w.heap.size,0,none⟩=some (.int .i64 idx):=Ae sM;have k1':∀ (d:Nat) (os:Array Obj),(Sort.grow (ZI (w.alloc (.cells #[.int .i64 idx,.slice a1 n1 k1,.slice a2 n2 k2] 36)) d) os).cell? ⟨w.heap.size,1,none⟩=some (.slice a1 n1 k1):=Ae sM;have k2':∀ (d:Nat) (os:Array Obj),(Sort.grow (ZI (w.alloc (.cells #[.int .i64 idx,.slice a1 n1 k1,.slice a2 n2 k2] 36)) d) os).cell? ⟨w.heap.size,2,none⟩=some (.slice a2 n2 k2):=Ae sM;refine (Io (n:=4)).1 ?_;refine callsIn_of_wp_marks func40 rfl trivial ?_ rfl;simp only [ntmps40,Hu,Ar,Bo,Nat.reduceAdd,Nat.reduceSub,Hq,Ho,Ia,Ht,Dn,Dq];refine Me.2 ?_;have e51:∀ args W,(callFunc 80 args).run prog W=.ok (.enter 80 args) W:=enters_of func80 kR rfl;have hB0:∀ W',Below (w.alloc (.cells #[.int .i64 idx,.slice a1 n1 k1,.slice a2 n2 k2] 36)).heap.size (w.alloc (.cells #[.int .i64 idx,.slice a1 n1 k1,.slice a2 n2 k2] 36)) W'->Below w.heap.size w W':=fun W' h =>(Cr w _).trans (h.mono sM);go_wp2_with fail;by_cases q1:n1=18;case neg =>
  have d1:((n1:Int) != 18)=true:=by simp;omega
  have HF:Hid (V=false):=Aa (by rw [HV.out];simp [q1]);clear HV q1;refine Bd kR kR ?_;repeat (quiet_step (first|exact r1 _ _|exact r2 _ _))
  refine C9 ?_;intro wq hbq;replace hbq:=At hbq;go_wp2_with fail;exact⟨_,Ju rfl _ _ _,by rw [HF.out];rfl,hB0 _ hbq⟩
 case pos =>
 replace hsig:=hsig q1;subst q1;by_cases q2:n2<=8;case neg =>
  have d2:ZH ((8:Int)<(n2:Int))=true:=by simp;omega
  have HF:Hid (V=false):=Aa (by rw [HV.out];simp [q2]);clear HV q2;refine Bd kR kR ?_;repeat (quiet_step (first|exact r1 _ _|exact r2 _ _))
  refine C9 ?_;intro wq hbq;replace hbq:=At hbq;go_wp2_with fail;exact⟨_,Ju rfl _ _ _,by rw [HF.out];rfl,hB0 _ hbq⟩
 case pos =>
 have d2:ZH ((8:Int)<(n2:Int))=false:=by simp;omega
 cases b1;case true =>
  have HF:Hid (V=false):=Aa (by rw [HV.out];simp);clear HV q2;refine Bd kR kR ?_;repeat (quiet_step (first|exact r1 _ _|exact r2 _ _))
  refine C9 ?_;intro wq hbq;replace hbq:=At hbq;go_wp2_with fail;exact⟨_,Ju rfl _ _ _,by rw [HF.out];rfl,hB0 _ hbq⟩
 cases b2;case true =>
  have HF:Hid (V=false):=Aa (by rw [HV.out];simp);clear HV q2;refine Bd kR kR ?_;repeat (quiet_step (first|exact r1 _ _|exact r2 _ _))
  refine C9 ?_;intro wq hbq;replace hbq:=At hbq;go_wp2_with fail;exact⟨_,Ju rfl _ _ _,by rw [HF.out];rfl,hB0 _ hbq⟩
 by_cases q3:0<=idx;case neg =>
  have d3:ZH (idx<0)=true:=by simp;omega
  have HF:Hid (V=false):=Aa (by rw [HV.out];simp [q3]);clear HV q2 q3;refine Bd kR kR ?_;repeat (quiet_step (first|exact r1 _ _|exact r2 _ _))
  refine C9 ?_;intro wq hbq;replace hbq:=At hbq;go_wp2_with fail;exact⟨_,Ju rfl _ _ _,by rw [HF.out];rfl,hB0 _ hbq⟩
 case pos =>
 have d3:ZH (idx<0)=false:=by simp;omega
 have JM:(0:Int)<=(n2:Int):=oM;have hw64:=Mv n2 q2;have hwr:IntKind.i64.wrap ((2:Int) ^ n2)=(2:Int) ^ n2:=Bin n2 q2;have hp2:=Mh n2 q2;obtain⟨i,rfl⟩:∃ i:Nat,idx=(i:Int):=⟨idx.toNat,oM⟩
 by_cases q4:i<2 ^ n2;case neg =>
  have d4:ZH ((2:Int) ^ n2<=(i:Int))=true:=by rw [decide_eq_true_iff,show ((2:Int) ^ n2)=((2 ^ n2:Nat):Int) from by simp];omega
  have HF:Hid (V=false):=Aa (by
   rw [HV.out];have:ZH ((i:Int)<2 ^ n2)=false:=by rw [Es,show ((2:Int) ^ n2)=((2 ^ n2:Nat):Int) from by simp];omega
   simp only [this];simp)
  clear HV q3 q4;refine Bd kR kR ?_;repeat (quiet_step (first|exact r1 _ _|exact r2 _ _))
  refine C9 ?_;intro wq hbq;replace hbq:=At hbq;go_wp2_with fail;exact⟨_,Ju rfl _ _ _,by rw [HF.out];rfl,hB0 _ hbq⟩
 case pos =>
 have d4:ZH ((2:Int) ^ n2<=(i:Int))=false:=by rw [Es,show ((2:Int) ^ n2)=((2 ^ n2:Nat):Int) from by simp];omega
 have HF:Hid (V=dP pub (2 ^ n2) i (CH.dl (CH.ends sig m)) path):=Aa (by
  rw [HV.out];have:ZH ((i:Int)<2 ^ n2)=true:=by rw [decide_eq_true_iff,show ((2:Int) ^ n2)=((2 ^ n2:Nat):Int) from by simp];omega
  simp only [this];simp [q2])
 clear HV q3;refine Bd kR kR ?_;repeat (quiet_step (first|exact r1 _ _|exact r2 _ _))
 refine C9 ?_;intro wq hbq;replace hbq:=At hbq;clear r1 r2 k0 k1' k2' c1 c2;have zU:wq.heap[w.heap.size]?=some (.cells #[.int .i64 i,.slice a1 18 k1,.slice a2 n2 k2] 36 (0,0)):=by rw [hbq.block _ sM];simp only [World.alloc,Array.getElem?_push_size]
 have xB:=hB0 _ hbq;have zq:w.heap.size<wq.heap.size:=by have:=hbq.size;simp at this;omega
 have hGq:Gl wq:=hG.below xB;clear hbq hB0;go_wp2_with fail;refine (V7 m _).mono ?_;rintro e w1 ⟨rfl,hw1⟩;have hI0:uY wq w.heap.size i (.slice a1 18 k1) (.slice a2 n2 k2) sig [] w1:=by
  subst hw1;refine⟨sM,?_,⟨_,(Ye wq _ _).1,Ay.nil _ _⟩,?_⟩;·rw [Jz _ _ _ (by simp;omega),Jz _ _ _ zq];exact zU
  ·exact ((Ac _ wq).alloc nR _).alloc sM _
 have hcm:w1.cell? ⟨wq.heap.size+1,0,none⟩=some (.string ⟨m.toArray⟩):=by subst hw1;exact Ab (Ye wq _ _).2 0
 have hsz1:w1.heap.size=wq.heap.size+1+1:=by subst hw1;simp
 have hG1:Gl w1:=hGq.below hI0.below;clear hw1;go_wp2_with fail;refine (Me (n:=4)).1 ?_;refine wpIn_rangeFunc_ownG (n:=4) (α:=DP) rfl dC (gf:=144) (lb:=#[.pointer (some ⟨wq.heap.size+1,0,none⟩)]) rfl trivial (enters_of func144 kR rfl) (P9 m oM 3 (wq.heap.size+1) dC w1 hG1 oM hcm) walksK_t walksK_b (Ac _ _) (fun _=>rfl) (uY wq w.heap.size i (.slice a1 18 k1) (.slice a2 n2 k2) sig) (fun _ _ _=>False) (uY.own _ _ _ _ _ _ zq _ oM) (fun _ _ _ _ _ hs _ _=>hs) hI0 (fun x=>{ tmps:=#[.string ⟨pub.toArray⟩,.string ⟨m.toArray⟩,.agg #[.int .i64 i,.slice a1 18 k1,.slice a2 n2 k2],ZA,ZA,.pointer (some ⟨w.heap.size,0,none⟩),.bool false,.int .i64 n2,.func (.func 80) #[] #[],.pointer (some ⟨wq.heap.size,0,none⟩),.int .i64 (x.1.val:Nat),.int .i64 (x.2.val:Nat),.pointer (some ⟨w.heap.size,2,none⟩),.slice a2 n2 k2,.int .i64 n2,.pointer (some ⟨w.heap.size,1,none⟩),.slice a1 18 k1,.int .i64 18,.bool false,.bool false,.int .i64 n2,.bool false,.bool false,.bool false,.func (.func 80) #[] #[],.pointer (some ⟨w.heap.size,1,none⟩),.slice a1 18 k1,.bool false,.bool false,.bool false,.func (.func 80) #[] #[],.pointer (some ⟨w.heap.size,2,none⟩),.slice a2 n2 k2,.bool false,.bool false,.bool false,.pointer (some ⟨w.heap.size,0,none⟩),.int .i64 i,.bool false,.bool false,.bool false,.pointer (some ⟨w.heap.size,0,none⟩),.int .i64 i,.int .i64 n2,.int .i64 (2 ^ n2),.bool false,.bool false,.string ⟨m.toArray⟩,.func (.func 144) #[] #[.pointer (some ⟨wq.heap.size+1,0,none⟩)],.int .i64 (x.1.val:Nat),.int .i64 (x.2.val:Nat),ZA,ZA,ZA,ZA,ZA,ZA,ZA,ZA,ZA,ZA,ZA,ZA,ZA,ZA,ZA,ZA,ZA,ZA,ZA,ZA,ZA],defers:=[] }) ?assign ?body ?done ?stop;case assign =>intro l x W K hK;gi_wp2;exact hK
 case stop =>rintro D c pre W _ _ hx _;exact hx.elim
 case body =>
  rintro l pre x W hI hlen;have FB:=x.1.isLt;have FP:=x.2.isLt;have hGW:Gl W:=hGq.below hI.below;obtain⟨hle,hb0,⟨v,hb3,hO⟩,hbw⟩:=hI;obtain⟨sb,so,rfl,hsb,hsc⟩:=hsig;have hBW:∀ W',Below (wq.heap.size+2) W W'->Below w.heap.size w W':=fun W' h=>xB.trans ((hbw.trans (h.mono oM)).mono oM);have hxs:sig[x.1.val]?=some (sig.getD x.1.val []):=by have:x.1.val<sig.length:=oM;simp [this]
  have hSk:∀ W',Below (wq.heap.size+2) W W'->W'.cell? ⟨w.heap.size,1,none⟩=some (.slice (some ⟨sb,so,none⟩) 18 k1)/\W'.cell? ⟨sb,so+x.1.val,none⟩=some (.string ⟨(sig.getD x.1.val []).toArray⟩):=fun W' hb =>⟨by rw [hb.cell (p:=⟨w.heap.size,1,none⟩) (by simp;omega)];simp [World.cell?,hb0],by rw [(hBW W' hb).cell (p:=⟨sb,so+x.1.val,none⟩) hsb];exact hsc _ _ hxs⟩
  have hV:∀ W',Below (wq.heap.size+2) W W'->W'.cell? ⟨wq.heap.size,0,none⟩=some v:=fun W' hb=>by rw [hb.cell (p:=⟨wq.heap.size,0,none⟩) sM];simp [World.cell?,hb3]
  have hF:∀ W',Below (wq.heap.size+2) W W'->W'.frozen? ⟨wq.heap.size,0,none⟩=false:=fun W' hb=>by rw [hb.frozen (p:=⟨wq.heap.size,0,none⟩) sM];exact Be hb3 _
  have hB1:Below (wq.heap.size+2) W W.drew:=(Ac _ W).drew;have hGd:Gl W.drew:=hGW.below (Ac _ W).drew;have hO1:Ay (wq.heap.size+2) W.drew v (pre.map fun x=>CH.chain (15 - x.2.val) (sig.getD x.1.val [])):=hO.below (Ac _ W).drew;have hv1:=hV _ hB1;have EU:pre.length<=18:=oM;have hxl:(sig.getD x.1.val []).length<=140737488355328:=by have:=hl1 _ (Ap hxs);omega
  have h15:((15:Int) - ((x.2.val:Nat):Int))=((15 - x.2.val:Nat):Int):=oM;have JI:IntKind.i64.wrap ((15 - x.2.val:Nat):Int)=((15 - x.2.val:Nat):Int):=(by decide +kernel:∀ y:Fin 16,IntKind.i64.wrap ((15 - y.val:Nat):Int)=((15 - y.val:Nat):Int)) x.2;have hi0:(0:Int)<=((x.1.val:Nat):Int):=oM;have JX:((x.1.val:Nat):Int)<18:=oM;generalize hsx:sig.getD x.1.val []=sx at *;clear hxs;generalize EG:15 - x.2.val=y15 at *;gi_wp2_with fail;refine Lt (fun W'=>W'.cell? ⟨w.heap.size,1,none⟩=some (.slice (some ⟨sb,so,none⟩) 18 k1)/\W'.cell? ⟨sb,so+x.1.val,none⟩=some (.string ⟨sx.toArray⟩)) _ _ kR kR ?_ (hSk _ hB1) (fun hHeld=>?_);·rintro⟨a,w,h⟩;exact h
  refine tk 1 (v:=?_) rfl rF hHeld ?_ ?_;rotate_left;·(intro w hSw;(try dsimp only at hSw);go_simp;try with_reducible rfl)
  (try simp only [ZF,pA,pB,pC]);refine tk 2 (v:=?_) rfl rF hHeld ?_ ?_;rotate_left;·(intro w hSw;(try dsimp only at hSw);go_simp;try with_reducible rfl)
  (try simp only [ZF,pA,pB,pC]);refine tk 3 (v:=?_) rfl rF hHeld ?_ ?_;rotate_left;·(intro w hSw;(try dsimp only at hSw);go_simp;try with_reducible rfl)
  (try simp only [ZF,pA,pB,pC]);refine tk 4 (v:=?_) rfl rF hHeld ?_ ?_;rotate_left;·(intro w hSw;(try dsimp only at hSw);go_simp;try with_reducible rfl)
  (try simp only [ZF,pA,pB,pC]);refine tk 5 (v:=?_) rfl rF hHeld ?_ ?_;rotate_left;·(intro w hSw;(try dsimp only at hSw);go_simp;try with_reducible rfl)
  (try simp only [ZF,pA,pB,pC]);refine tk 6 (v:=?_) rfl rF hHeld ?_ ?_;rotate_left;·(intro w hSw;(try dsimp only at hSw);go_simp;try with_reducible rfl)
  (try simp only [ZF,pA,pB,pC]);refine tk 7 (v:=?_) rfl rF hHeld ?_ ?_;rotate_left;·(intro w hSw;(try dsimp only at hSw);go_simp;try with_reducible rfl)
  (try simp only [ZF,pA,pB,pC]);refine Fj (rs:=[0,8]) kR sM ?_;refine Ci (o:=_) rfl (fun K hK=>?_) ?_;focus go_simp;refine hK.out _ _ (hSk _ hB1) (fun hHeld=>?_);clear hK K;(try simp only [ZF,pA,pB,pC]);refine rk 8 rfl (fun K hK=>?_);go_simp;refine (M3 sx y15 W.drew hGd oM hxl).mono ?_;rintro e w3 ⟨rfl,eP⟩;have hB3:Below (wq.heap.size+2) W w3:=hB1.trans (eP.mono hle);have hv3:=hV _ hB3;have hv4:∀ o,(w3.alloc o).cell? ⟨wq.heap.size,0,none⟩=some v:=fun o=>hV _ (hB3.alloc (Ag hle hB3.size) o);have hO3:=hO1.below eP;go_wp2_with fail;refine hK.out _ _ (hSk _ hB3) (fun hHeld=>?_);clear hK K;(try simp only [ZF,pA,pB,pC]);refine rk 9 rfl (fun K hK=>?_);go_simp;refine hK.out _ _ (hSk _ (hB3.alloc (Ag hle hB3.size) _)) (fun hHeld=>?_);clear hK K;(try simp only [ZF,pA,pB,pC]);refine rk 10 rfl (fun K hK=>?_);rw [Aw rF];refine Cn _ _ rfl (wq.heap.size+2) v _ rfl (hO3.alloc _) w3.heap.size _ (CH.chain y15 sx) rfl (Cm _ _ _ _ _) (by rw [Dc];omega) (by have:=hB3.size;simp;omega) ?_;intro v5 w5 hO5 hg5;obtain⟨a5,c5,rfl,lU,lT,lQ⟩:=hO5.form;have hB5:Below (wq.heap.size+2) W w5:=(hB3.alloc (Ag hle hB3.size) _).grown hg5 (by have:=hB3.size;simp;omega) (fun k e=>(hO3.ownBlock k e).1);have hv5:=hV _ hB5;have hf5:=hF _ hB5;refine hK.out _ _ (hSk _ hB5) (fun hHeld=>?_);clear hK K;(try simp only [ZF,pA,pB,pC]);refine rk 11 rfl (fun K hK=>?_);go_simp;refine hK.out _ _ (⟨(D8 _ ⟨wq.heap.size,0,none⟩ ⟨w.heap.size,1,none⟩ _ (fun e=>by dsimp only at e;omega)).trans (hSk _ hB5).1,(World.cell?_setCell_far _ ⟨wq.heap.size,0,none⟩ ⟨sb,so+x.1.val,none⟩ _ (fun e=>by dsimp only at e;omega)).trans (hSk _ hB5).2⟩) (fun hHeld=>?_);clear hK K;(try simp only [ZF,pA,pB,pC]);refine D6 kR ?_ _
  rotate_left 1;refine Ci (o:=_) rfl (fun K hK=>?_) Ey;focus
   go_simp;refine (M3 sx y15 W.drew hGd oM hxl).mono ?_;rintro e w3 ⟨rfl,eP⟩;have hB3:Below (wq.heap.size+2) W w3:=hB1.trans (eP.mono hle);have hv3:=hV _ hB3;have hv4:∀ o,(w3.alloc o).cell? ⟨wq.heap.size,0,none⟩=some v:=fun o=>hV _ (hB3.alloc (Ag hle hB3.size) o);have hO3:=hO1.below eP;go_wp2_with fail;refine hK.out _ _ (hSk _ hB3) (fun hHeld=>?_);clear hK K;(try simp only [ZF,pA,pB,pC]);refine Fj (rs:=[0,9]) kR sM ?_;refine Ci (o:=_) rfl (fun K hK=>?_) ?_;focus go_simp;refine hK.out _ _ (hSk _ hB3) (fun hHeld=>?_);clear hK K;(try simp only [ZF,pA,pB,pC]);refine rk 9 rfl (fun K hK=>?_);go_simp;refine hK.out _ _ (hSk _ (hB3.alloc (Ag hle hB3.size) _)) (fun hHeld=>?_);clear hK K;(try simp only [ZF,pA,pB,pC]);refine rk 10 rfl (fun K hK=>?_);rw [Aw rF];refine Cn _ _ rfl (wq.heap.size+2) v _ rfl (hO3.alloc _) w3.heap.size _ (CH.chain y15 sx) rfl (Cm _ _ _ _ _) (by rw [Dc];omega) (by have:=hB3.size;simp;omega) ?_;intro v5 w5 hO5 hg5;obtain⟨a5,c5,rfl,lU,lT,lQ⟩:=hO5.form;have hB5:Below (wq.heap.size+2) W w5:=(hB3.alloc (Ag hle hB3.size) _).grown hg5 (by have:=hB3.size;simp;omega) (fun k e=>(hO3.ownBlock k e).1);have hv5:=hV _ hB5;have hf5:=hF _ hB5;refine hK.out _ _ (hSk _ hB5) (fun hHeld=>?_);clear hK K;(try simp only [ZF,pA,pB,pC]);refine rk 11 rfl (fun K hK=>?_);go_simp;refine hK.out _ _ (⟨(D8 _ ⟨wq.heap.size,0,none⟩ ⟨w.heap.size,1,none⟩ _ (fun e=>by dsimp only at e;omega)).trans (hSk _ hB5).1,(World.cell?_setCell_far _ ⟨wq.heap.size,0,none⟩ ⟨sb,so+x.1.val,none⟩ _ (fun e=>by dsimp only at e;omega)).trans (hSk _ hB5).2⟩) (fun hHeld=>?_);clear hK K;(try simp only [ZF,pA,pB,pC]);refine D6 kR ?_ _
   rotate_left 1;refine Ci (o:=_) rfl (fun K hK=>?_) Ey;focus go_simp;refine hK.out _ _ (hSk _ (hB3.alloc (Ag hle hB3.size) _)) (fun hHeld=>?_);clear hK K;(try simp only [ZF,pA,pB,pC]);refine rk 0 rfl (fun K hK=>?_);go_simp;refine hK.out _ _ (hSk _ (hB3.alloc (Ag hle hB3.size) _)) (fun hHeld=>?_);clear hK K;(try simp only [ZF,pA,pB,pC]);refine rk 10 rfl (fun K hK=>?_);rw [Aw rF];refine Cn _ _ rfl (wq.heap.size+2) v _ rfl (hO3.alloc _) w3.heap.size _ (CH.chain y15 sx) rfl (Cm _ _ _ _ _) (by rw [Dc];omega) (by have:=hB3.size;simp;omega) ?_;intro v5 w5 hO5 hg5;obtain⟨a5,c5,rfl,lU,lT,lQ⟩:=hO5.form;have hB5:Below (wq.heap.size+2) W w5:=(hB3.alloc (Ag hle hB3.size) _).grown hg5 (by have:=hB3.size;simp;omega) (fun k e=>(hO3.ownBlock k e).1);have hv5:=hV _ hB5;have hf5:=hF _ hB5;refine hK.out _ _ (hSk _ hB5) (fun hHeld=>?_);clear hK K;(try simp only [ZF,pA,pB,pC]);refine rk 11 rfl (fun K hK=>?_);go_simp;refine hK.out _ _ (⟨(D8 _ ⟨wq.heap.size,0,none⟩ ⟨w.heap.size,1,none⟩ _ (fun e=>by dsimp only at e;omega)).trans (hSk _ hB5).1,(World.cell?_setCell_far _ ⟨wq.heap.size,0,none⟩ ⟨sb,so+x.1.val,none⟩ _ (fun e=>by dsimp only at e;omega)).trans (hSk _ hB5).2⟩) (fun hHeld=>?_);clear hK K;(try simp only [ZF,pA,pB,pC]);refine D6 kR ?_ _
  all_goals
   have hbd:Below W.heap.size W w3:=(Ac _ W).drew.trans (eP.mono nR);have hko:∀ u,KeepsOthers W (w5.setCell ⟨wq.heap.size,0,none⟩ u):=fun u =>(((Kd hbd).trans (KeepsOthers.alloc _ _)).trans (KeepsOthers.of_grownBy hg5 (fun j o hj ho=>by obtain⟨_,cs,t,fr,hcs⟩:=(hO3.alloc _).ownBlock j hj;rw [ho] at hcs;cases hcs;rfl))).trans (KeepsOthers.setCell _ _ _);have hk5:∀ k,k<wq.heap.size+2->w5.heap[k]?=W.heap[k]?:=fun k hk=>hB5.block k hk;have hks:∀ k u,k≠wq.heap.size->(w5.setCell ⟨wq.heap.size,0,none⟩ u).heap[k]?=w5.heap[k]?:=fun k u hk=>B7 _ _ _ _ hk;refine⟨(hko _).from _,(hko _).walks,⟨?_,?_,⟨.slice a5 (pre.length+1) c5,?_,?_⟩,?_⟩⟩;·have:=(hko ZA).size;simp at this ⊢;omega
   ·rw [hks _ _ oM,hk5 _ oM];exact hb0
   ·exact Bk w5 wq.heap.size 0 _ _ _ _ ((hk5 _ oM).trans hb3)
   ·rw [Fh];have h0:=hO5.jV (g:=wq.heap.size) oM 0 (.slice a5 (pre.length+1) c5);simp only [Ay,Aj,Dc,Ar,Bo,Bl,Ew,Hz,hsx,EG] at h0 ⊢;exact h0
   ·exact⟨hB5.os.trans hbw.os,hB5.tape.trans hbw.tape,hB5.output.trans hbw.output,by have:=hbw.size;have:=(hko ZA).size;simp at this ⊢;omega,fun k hk=>by rw [hks _ _ oM,hk5 _ oM];exact hbw.block k hk⟩
 case done =>
  intro D xs W hD hxs hI hdef;subst hxs;have hGW:Gl W:=hGq.below hI.below;obtain⟨hle,hb0,⟨v,hb3,hO⟩,hbw⟩:=hI;have hbW:Below w.heap.size w W:=xB.trans (hbw.mono oM);have hel:((eF m).map fun x=>CH.chain (15 - x.2.val) (sig.getD x.1.val []))=CH.ends sig m:=(Lex sig m hn1).symm;rw [hel] at hO;have cO:∀ W',Below W.heap.size W W'->ZE prog 85 #[v] W' (fun e w'=>e=.returned (.string ⟨(CH.dl (CH.ends sig m)).toArray⟩)/\Below W'.heap.size W' w'):=fun W' hb =>
   F11 v _ W' (hGW.below hb) (hO.below hb).strs (by
    refine Ag (To _ 1000000 (I56 sig m hl1) oM) ?_;have:(CH.ends sig m).length<=18:=by rw [<- hel,Dc,dI];exact Bv _
    omega)
  have cT:∀ W',Below W.heap.size W W'->ZE prog 84 #[.string ⟨pub.toArray⟩,.int .i64 ((2:Int) ^ n2),.int .i64 i,.string ⟨(CH.dl (CH.ends sig m)).toArray⟩,.slice a2 n2 k2] W' (fun e w'=>e=.returned (.bool V)/\Below W'.heap.size W' w'):=fun W' hb=>by have hbb:Below w.heap.size w W':=hbW.trans (hb.mono hbW.size);have h3:=Wu pub (CH.dl (CH.ends sig m)) (2 ^ n2) i (.slice a2 n2 k2) path W' (hGW.below hb) q4 oM (by rw [jf];omega) ((H2.out.below hbb nR).mono hbb.size) oM hl2;rw [show ((2 ^ n2:Nat):Int)=(2:Int) ^ n2 from by simp] at h3;rw [HF.out];exact h3
  obtain⟨va,vc,ve,hvf⟩:=hO.form;generalize hLe:(CH.ends sig m).length=ne at ve;subst ve;clear hvf hLe;generalize CH.dl (CH.ends sig m)=leaf at cO cT HF;have g0:∀ (d:Nat) (os:Array Obj),(grow (ZI W d) os).cell? ⟨w.heap.size,0,none⟩=some (.int .i64 i):=Ae (by simp [World.cell?,hb0]);have g2:∀ (d:Nat) (os:Array Obj),(grow (ZI W d) os).cell? ⟨w.heap.size,2,none⟩=some (.slice a2 n2 k2):=Ae (by simp [World.cell?,hb0]);have g3:∀ (d:Nat) (os:Array Obj),(grow (ZI W d) os).cell? ⟨wq.heap.size,0,none⟩=some (.slice va ne vc):=Ae (by simp [World.cell?,hb3]);have FN:D<W.heap.size:=(aZ hdef)
  clear HF hb0 hb3 hO hel hcm hI0;go_wp2_with fail;refine Bd kR kR ?_;repeat (quiet_step (first|exact Bj (cO _ (Dv _ _ _))|exact Bj (cT _ (Dv _ _ _))))
  refine C9 ?_;intro wq hbq;replace hbq:=At hbq;go_wp2_with fail;refine⟨sM,.inl ⟨_,_,rfl,run_takeDeferred ((hbq.block D FN).trans hdef),?_⟩⟩;exact⟨_,Ju rfl _ _ _,rfl,(hbW.trans (hbq.mono hbW.size)).grown (grownBy_putObj' _ _ _) (Ag hbW.size hbq.size) (fun k e=>by cases e;omega)⟩
end
end Go.Proofs.YthapckjpmkkkpaaGreatDoor
namespace CH
section
def zC:Change:=⟨0,[],⟨[],[]⟩,0⟩
def zM:bD:=⟨[],[],0,[],.mk 0 [] 0 0 [],0,0,0⟩
def zL:gy:=⟨[],[],[],0,0,0,0⟩
def zH:aS:=⟨[],[],[],[],[],[],0,0,0,0⟩
theorem Oo {n:Int} (h:Go.Lib.itoa n=[48]):n=0:=by
 unfold Go.Lib.itoa at h;split at h;·injection h with h1 h2;exact absurd h1 dC
 ·rename_i hn;rw [Go.Lib.decDigits] at h;split at h;·rename_i h10;injection h with h1;have h2:=congrArg UInt8.toNat h1;rw [UInt8.toNat_ofNat'] at h2;have:(48:UInt8).toNat=48:=rfl;omega
  ·rename_i h10;have h2:=congrArg List.length h;rw [Aj,Go.Lib.decDigits_length,Dz,Dz] at h2;have:=Go.Lib.nDigits_pos (n.toNat / 10);omega
theorem Aaa {c:Change} (h:gW c=false):c=zC:=by obtain⟨k,id,⟨eid,ns⟩,p⟩:=c;unfold gW at h;simp only [Gh,bne_eq_false_iff_eq,Es] at h;obtain⟨⟨⟨⟨rfl,rfl⟩,rfl⟩,rfl⟩,h⟩:=h;have:ns=[]:=Df.1 oM;subst this;rfl
theorem X7 {l:gy} (h:fQ l=false):l=zL:=by obtain⟨id,ms,ps,q,u,s,t⟩:=l;unfold fQ at h;simp only [Gh,bne_eq_false_iff_eq,Es] at h;obtain⟨⟨⟨⟨⟨⟨rfl,h1⟩,h2⟩,rfl⟩,rfl⟩,rfl⟩,rfl⟩:=h;have e1:ms=[]:=Df.1 oM;have e2:ps=[]:=Df.1 oM;subst e1 e2;rfl
theorem X8 {h:aS} (hh:fU h=false):h=zH:=by obtain⟨id,co,ho,no,pl,js,ca,vo,st,en⟩:=h;unfold fU at hh;simp only [Gh,bne_eq_false_iff_eq,Es] at hh;obtain⟨⟨⟨⟨⟨⟨⟨⟨⟨rfl,rfl⟩,rfl⟩,rfl⟩,rfl⟩,h1⟩,rfl⟩,rfl⟩,rfl⟩,rfl⟩:=hh;have e1:js=[]:=Df.1 oM;subst e1;rfl
theorem Y0 {m:bD} (h:dB m=true):m=zM:=by obtain⟨id,au,k,tg,⟨op,nm,cm,n,ks⟩,st,un,wi⟩:=m;unfold dB at h;simp only [Am,Dl,List.cons.injEq,and_true,Formula.op,Formula.name,Formula.cmp,Formula.n,Formula.kids] at h;obtain⟨⟨rfl,rfl,rfl,h1,h2,h3,h4⟩,⟨⟨⟨rfl,rfl⟩,rfl⟩,rfl⟩,h5⟩:=h;have e1:=Oo h1;have e2:=Oo h2;have e3:=Oo h3;have e4:=Oo h4;have e5:ks=[]:=Df.1 h5;subst e1 e2 e3 e4 e5;rfl
theorem fO {a:Act} (h:unused a=true):(a.kind≠1->a.change=zC)/\(a.kind≠2->a.measure=zM)/\(a.kind≠4->a.licence=zL)/\(a.kind≠6->a.holding=zH)/\((a.kind≠3/\a.kind≠5/\a.kind≠7)->a.id=[]/\a.n=0):=by
 unfold unused at h;dsimp only at h;simp only [Am,Ea,Jf,bne_eq_false_iff_eq,J9,Gh] at h;obtain⟨⟨⟨⟨h1,h2⟩,h3⟩,h4⟩,h5⟩:=h;have hu:(if a.kind=3\/a.kind=5 then (7:Int) else a.kind)=7/\(a.kind=3\/a.kind=5)\/(if a.kind=3\/a.kind=5 then (7:Int) else a.kind)=a.kind/\¬ (a.kind=3\/a.kind=5):=by
  by_cases e:a.kind=3\/a.kind=5;·exact .inl ⟨Aw e,e⟩
  ·exact .inr ⟨Ak e,e⟩
 generalize (if a.kind=3\/a.kind=5 then (7:Int) else a.kind)=u at *;refine⟨fun k=>Aaa (h1.resolve_right oM),fun k=>Y0 (h2.resolve_right oM),fun k=>X7 (h3.resolve_right oM),fun k=>X8 (h4.resolve_right oM),fun k=>h5.resolve_right oM⟩
end
end CH
namespace Go.Proofs.YthapckjpmkkkpaaGreatDoor
section
open Go.Lib Go.Proofs.Tryz Go.RowKit Go.Shelf Go.Sort CH
attribute [local go_sem] Iw
def gK (p:Int × Int):List ZC:=[aJ p.1,aJ p.2]
theorem Cst (p:Int × Int):∀ u∈gK p,u.oneCell'=true:=by intro u hu;simp only [gK,A8,Ba,Dh] at hu;rcases hu with rfl|rfl <;> rfl
theorem Hxo:(prog.info? 87).map (fun i=>(i.zero,i.size,i.bytes))=some (some (.agg #[.int .i64 0,.int .i64 0]),2,16):=kR
theorem I04 (W:ZB) (a b:ZC) (T:TypeId):∀ (j:Nat) (u:ZC),([a,b]:List ZC)[j]?=some u->(W.alloc (.cells #[a,b] T)).cell? ((⟨W,0,none⟩:Addr).add j)=some u:=fun j u hj=>by have h:=B6 W [a,b] T j u hj;rw [Bl] at h;rw [show (⟨W,0,none⟩:Addr).add j=⟨W,j,none⟩ from by simp [Addr.add];omega];exact h
def ApP (w0:ZB) (Bs:Nat) (ps:List (Int × Int)) (W:ZB):Prop := (∃ v,Boxed W Bs 119 v/\W.ownsRow w0 87 2 v ps.length (ps.flatMap gK))/\Below w0 w0 W
theorem ApP.own (w0:ZB) (Bs B:Nat) (hB:w0.heap.size<=B):OwnFrom B (ApP w0 Bs):=by
 rintro ps W W' row ⟨⟨v,hv,hr⟩,hb⟩ hg hrow;refine⟨⟨v,hv.kept hg fun e=>?_,hr.kept hg ?_⟩,hb.grown hg hb.size fun k e=>Ag hB (hrow k e).1⟩;·obtain⟨_,o,ho,hc⟩:=hrow Bs e.symm;have hv':W.heap[Bs]?=some (.cells #[v] 119 (0,0)):=hv;rw [hv'] at ho;cases ho;cases hc
 ·rcases hr.2 with⟨rfl,_⟩|⟨g,cap,cur,rfl,_,hgb,_⟩;·exact .inl rfl
  ·refine .inr fun e=>?_;obtain⟨_,o,ho,hc⟩:=hrow g (by simpa [Value.ownBlock] using e.symm);rw [hgb] at ho;cases ho;cases hc
theorem Wn (Bm r:Nat) (kvs:List ((Int × Int) × ZC)) (w:ZB) (hBm:Bm<w.heap.size) (hm:w.cell? ⟨Bm,0,none⟩=some (.map (some r))) (hmap:Co Bn r w kvs) (hk:(kvs.map (·.1)).Nodup) (hN:kvs.length<=1000000) : ZE prog 193 #[.slice none 0 0,.func (.func 123) #[] #[.pointer (some ⟨Bm,0,none⟩)]] w fun e w' => ∃ v ps,e=.returned v/\G64 kvs ps/\w'.ownsRow w 87 2 v ps.length (ps.flatMap gK)/\Below w w w':=by
 refine (Io (n:=4)).1 ?_;refine callsIn_of_wp_marks func193 rfl trivial ?_ rfl;simp only [ntmps193,Hu,Ar,Bo,Nat.reduceAdd,Nat.reduceSub,Hq,Ho,Ia,Ht,Dn,Dq];gi_wp2;obtain⟨W0,hW0⟩:∃ W0,w.alloc (.cells #[.slice none 0 0] 119)=W0:=⟨_,rfl⟩
 have hb0:Below w w W0:=by rw [<- hW0];exact (Ac _ w).alloc nR _
 have hv0:Boxed W0 w 119 (.slice none 0 0):=by rw [<- hW0];exact Boxed.new w _ _
 rw [hW0];clear hW0;refine But (n:=4) (α:=Int × Int) rfl dC (gf:=123) (lb:=#[.pointer (some ⟨Bm,0,none⟩)]) rfl trivial (enters_of func123 kR rfl) (Ch7 Fence.wide 3 trivial rfl dC Bm r kvs w hBm hm hmap hk) hb0 (fun _=>rfl) (ApP w w) (ApP.own _ _ _ hb0.size) ⟨⟨_,hv0,Jj W0 _ _ _⟩,hb0⟩ (fun x b=>{ tmps:=#[.slice none 0 0,.func (.func 123) #[] #[.pointer (some ⟨Bm,0,none⟩)],.pointer (some ⟨w,0,none⟩),ZA,.slice none 0 0,.pointer (some ⟨b,0,none⟩),.func (.func 123) #[] #[.pointer (some ⟨Bm,0,none⟩)],Bn x,ZA,ZA,ZA,ZA,ZA],defers:=[] }) (fun x W=>W.alloc (.cells #[aJ x.1,aJ x.2] 87)) (fun x b V=>V.heap[b]?=some (.cells #[aJ x.1,aJ x.2] 87 (0,0))) ?assign (fun x W=>(Ac _ W).alloc nR _) (fun x W=>Ai W _) ?bp ?body ?done;case assign =>intro l x W K hK;obtain⟨x1,x2⟩:=x;dsimp only [Bn] at hK ⊢;gi_wp2;exact hK
 case bp =>rintro x b V l o o' hx hl hc;refine (World.putObj_heap_other (fun e=>?_)).trans hx;subst e;rw [hx] at hl;cases hl;cases hc
 case body =>
  rintro l pre x b W ⟨⟨v,hv,hrow⟩,hb⟩ hx hlen;obtain⟨x1,x2⟩:=x;have hc:=hv.cell;have hf:=hv.frozen;have c0:W.cell? ⟨b,0,none⟩=some ↑x1:=Ab hx 0;have c1:W.cell? ⟨b,1,none⟩=some ↑x2:=Ab hx 1;obtain⟨i0,hi,hz0,hz1,hz2⟩:=Jp Hxo;have hWs:=hb.size;have hblt:=(aZ hx)
  dsimp only [Bn];have hNl:pre.length+1<=1000001:=oM;gi_wp2_with (first
   |(gi_at_builtin;refine wpListIn_append_own _ rfl _ _ 119 rfl w 87 i0 _ 2 16 underlying119 hi hz0 hz1 hz2 rfl dC _ _ _ rfl (hrow.alloc _) ⟨W,0,none⟩ 1 1 [↑x1,↑x2] rfl rfl (I04 _ _ _ _) (Cst (x1,x2)) (by unfold maxLen;omega) oM (by simp;omega) ?_;intro v' w3 hown' hg3 hnil3
     have hap:=Boxed.appended hv dC hrow hWs nR hown' hg3
     obtain⟨g5,c5,e5⟩:=ownsRow_succ hown'
     subst e5
     have hv3:=hap.1
     have hc3:=hv3.cell
     have hf3:=hv3.frozen)
   |gi_in)
  refine⟨hap.2.2.2.1,hap.2.2.2.1.walks,⟨⟨_,hap.2.1,?_⟩,hb.trans hap.2.2.2.2⟩⟩;have h:=hap.2.2.1;rw [Aj,Dz,Ik];exact h
 case done =>rintro D xs W hD hS ⟨⟨v,hv,hrow⟩,hb⟩ hK;have hc:=hv.cell;gi_wp2;have hbD:=(Ac w W).trans (belowK_b (w:=w) nR W D _ (.deferred none) (by have:=hb0.size;omega) hK rfl rfl);refine⟨sM,.inl ⟨_,_,rfl,run_takeDeferred (ds:=[]) hK,?_⟩⟩;refine⟨_,Ju rfl _ _ _,v,xs,rfl,hS,?_,hb.trans hbD⟩;exact ownsRow_putObj hrow _ hK rfl
theorem Zy {w:ZB} {base:Nat} {e:TypeId} {size:Nat} {v:ZC} {n:Nat} {xs:List ZC} (h:w.ownsRow base e size v n xs):∃ a c,v=.slice a n c:=by
 obtain⟨hlen,⟨rfl,h0⟩|⟨g,cap,cur,rfl,_⟩⟩:=h;·exact⟨none,0,by rw [h0]⟩
 ·exact⟨_,cap,rfl⟩
def Lt2 (w:ZB) (kvs:List ((Int × Int) × ZC)) (e:Ending) (w':ZB):Prop := ∃ a n c ps,e=.returned (.slice a n c)/\G64 kvs ps/\w'.ownsRow w 87 2 (.slice a n c) ps.length (ps.flatMap gK)/\ps.length=n/\Below w w w'
theorem Arg (Bm r:Nat) (kvs:List ((Int × Int) × ZC)) (w:ZB) (hBm:Bm<w.heap.size) (hm:w.cell? ⟨Bm,0,none⟩=some (.map (some r))) (hmap:Co Bn r w kvs) (hk:(kvs.map (·.1)).Nodup) (hN:kvs.length<=1000000) : ZE prog 121 #[.func (.func 123) #[] #[.pointer (some ⟨Bm,0,none⟩)]] w (Lt2 w kvs):=by
 have A:=Aa (Wn Bm r kvs w hBm hm hmap hk hN);go_enter func121,ntmps121;go_wp2_with fail;refine A.out.mono ?_;rintro e w1 ⟨v,ps,rfl,h1,h2,h3⟩;obtain⟨a,c,rfl⟩:=Zy h2;have h1:=Aa h1;have h2:=Aa h2;obtain⟨n,hn⟩:∃ n,ps.length=n:=⟨_,rfl⟩
 rw [hn] at h2 ⊢;clear A;go_wp2;go_ret;exact⟨a,n,c,ps,rfl,h1.out,by rw [hn];exact h2.out,hn,h3⟩
end
end Go.Proofs.YthapckjpmkkkpaaGreatDoor
namespace CH
section
variable {msg:Version->Str} {chk:Version->Str->Bool} {keys:List Str} {known known':Known}
theorem Aab {α:Type} {R:α->α->Prop} {l:List α} (h:l.Pairwise R) {x y:α} (hx:x∈l) (hy:y∈l):x=y\/R x y\/R y x:=by
 rw [Ib] at h;obtain⟨i,hi,rfl⟩:=Lr hx;obtain⟨j,hj,rfl⟩:=Lr hy;rcases Kv i j with e|e|e;·exact .inr (.inl (h i j hi hj e))
 ·subst e;exact .inl rfl
 ·exact .inr (.inr (h j i hj hi e))
theorem nK (hG:Good chk keys known) (n:Nat) {x y:Version} (hx:x∈versions msg known n) (hy:y∈versions msg known n) (h:x≠y):x.authority≠y.authority\/x.number≠y.number:=by
 have hp:=Oe msg known n;rcases Aab (Np hG n) (hp.mem_iff.1 hx) (hp.mem_iff.1 hy) with e|e|e;·exact absurd e h
 ·unfold Md at e;omega
 ·unfold Md at e;omega
theorem Aam {α:Type} {y:α} {A B:List α} (h:(y::B).Sublist (y::A)):B.Sublist A:=List.cons_sublist_cons.1 h
theorem Aag {α:Type} {x y:α} {A B:List α} (h:(y::B).Sublist (x::A)) (hne:x≠y):(y::B).Sublist A:=by
 cases h with
 |cons _ h=>exact h
 |cons_cons _ h=>exact absurd rfl hne
theorem qG {α:Type} {after Md:List α} {k a:Nat} {x y:α} (hx:after[k]?=some x) (hy:Md[a]?=some y) (h:(Md.drop a).Sublist (after.drop k)) : (x=y->(Md.drop (a+1)).Sublist (after.drop (k+1)))/\(x≠y->(Md.drop a).Sublist (after.drop (k+1))):=by
 have e1:after.drop k=x::after.drop (k+1):=by obtain⟨hi,e⟩:=Js.1 hx;rw [<- e];exact Gm hi
 have e2:Md.drop a=y::Md.drop (a+1):=by obtain⟨hi,e⟩:=Js.1 hy;rw [<- e];exact Gm hi
 rw [e1,e2] at h;refine⟨fun e=>?_,fun e=>?_⟩;·subst e;exact Aam h
 ·rw [e2];exact Aag h e
theorem qZ {α:Type} {after Md:List α} {k a:Nat} (h:(Md.drop a).Sublist (after.drop k)) (hk:after.length<=k):Md.length<=a:=by rw [Ja hk] at h;have:=congrArg List.length (List.sublist_nil.1 h);rw [Ei] at this;simp at this;omega
theorem Ya {p:Int × Int} {f:Version × Version} {forks:Forks} (h:(forks.map (·.1)).Nodup):((iM p f forks).map (·.1)).Nodup/\(iM p f forks).length<=forks.length+1:=by
 unfold iM;split
 ·rename_i hl;refine⟨?_,sM⟩;rw [Fh,Jk];refine⟨h,sM,fun a ha b hb e=>?_⟩;simp only [Ew,Hz,Bz] at hb;subst hb e;obtain⟨⟨q,g⟩,hm,rfl⟩:=Ee.1 ha;have:∀ (l:Forks),(q,g)∈l->bI q l≠none:=fun l=>by
   induction l with
   |nil=>intro h;cases h
   |cons x l ih =>
    intro h;obtain⟨q',g'⟩:=x;rw [bI];split;·simp
    ·rcases A8.1 h with h|h;·cases h;rename_i hne;exact absurd sM hne
     ·exact ih h
  exact this _ hm hl
 ·exact⟨h,G5 _⟩
theorem Aai {forks:Forks} (v:Version) (h:(forks.map (·.1)).Nodup):((fB chk keys known forks v).2.2.map (·.1)).Nodup/\(fB chk keys known forks v).2.2.length<=forks.length+1:=by
 unfold fB;split;·exact⟨h,G5 _⟩
 ·split;·exact⟨h,G5 _⟩
  ·split;·exact⟨h,G5 _⟩
   ·split;·exact⟨h,G5 _⟩
    ·split;·exact⟨h,G5 _⟩
     ·exact Ya h
theorem l7 (chk:Version->Str->Bool) (keys:List Str):∀ (l:List Version) (known:Known) (forks:Forks),Good chk keys known->(forks.map (·.1)).Nodup->(∀ p a b,(p,(a,b))∈forks->oq chk keys p a b) ->
  ((iE chk keys l known forks).2.map (·.1)).Nodup/\(iE chk keys l known forks).2.length<=forks.length+l.length/\∀ p a b,(p,(a,b))∈(iE chk keys l known forks).2->oq chk keys p a b
 |[],_,_,_,h,hF=>⟨h,Bv _,hF⟩
 |v::l,known,forks,hG,h,hF=>by
  have h1:=Aai (chk:=chk) (keys:=keys) (known:=known) v h
  have h2:=l7 chk keys l _ _ (Yz hG forks v) h1.1 (Aaj hG hF v)
  refine⟨h2.1,?_,h2.2.2⟩
  have:=h2.2.1
  rw [Ar]
  show (iE chk keys l _ _).2.length<=_
  omega
end
end CH
