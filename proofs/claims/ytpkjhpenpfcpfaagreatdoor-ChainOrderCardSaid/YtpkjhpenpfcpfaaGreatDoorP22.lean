/-
  ChainOrder: the proof, part 23 of 28.
-/
import Derived.Test.YtpkjhpenpfcpfaaGreatDoorP18
import Derived.Test.YtpkjhpenpfcpfaaGreatDoorRows
import Derived.Lib.LaidCase
import Derived.LaidMore
set_option linter.unusedSimpArgs false
set_option linter.unusedVariables false
set_option maxHeartbeats 40000000
set_option maxRecDepth 100000
open Go renaming World -> ZB, Value -> ZC, Calls -> ZE, redrawn -> ZI
open Go.Act renaming put -> ZF
open Go.RowKit renaming intOf -> ZG
open Decidable renaming decide -> ZH
open Go.World renaming alloc -> ZM
namespace Go.Proofs.YtpkjhpenpfcpfaaGreatDoor
section
open Go.Lib Go.Proofs.Tryz Go.RowKit Go.Shelf Go.Sort CH
theorem G0 {P:Program} {fn:Func} {p u:Tmp} {ty:TypeId} (h:fn.results=#[.cell p ty,.tmp u]) (tmps:Array ZC) (w:ZB) (a:Addr) (x:ZC) (hp:tmps.getD p undef=.pointer (some a)) (hl:(loadVar ty a).run P w=.ok x w):(results fn tmps).run P w=.ok (.tuple #[x,tmps.getD u undef]) w:=by
 simp only [results,h];have hp':tmps[p]?.getD undef=.pointer (some a):=by simpa using hp
 simp [asAddr];rw [hp'];simp [Result.andThen,hl]
theorem Hxo (w:ZB) (o1 o2:Obj):((w.alloc o1).alloc o2).heap[w.heap.size+1]?=some o2:=by have:=Au (w.alloc o1) o2;rwa [Dt] at this
theorem Hxs (w:ZB) (o1 o2:Obj):((w.alloc o1).alloc o2).heap[w.heap.size]?=some o1 := (((Ac _ (w.alloc o1)).alloc nR o2).block w.heap.size sM).trans (Au w o1)
theorem Mq {B:Nat} {w:ZB} {v:ZC} {ls:List (List UInt8)} (h:Strs B w v ls) (b o:Nat) (cs:List ZC) (hx:∀ l∈ls,∀ j,j<cs.length->w.cell? ⟨b,o+j,none⟩≠some (ay l)):Strs B (w.setCells b o cs) v ls:=by
 obtain⟨a,cap,h1,h2,h3,h4⟩:=h;refine⟨a,cap,h1,h2,h3,fun hne=>?_⟩;obtain⟨b',off,e,hlt,hc⟩:=h4 hne;refine⟨b',off,e,hlt,fun j l hj=>?_⟩;have h5:=hc j l hj;rw [World.cell?_setCells_out b cs o w ⟨b',off+j,none⟩ ?_];·exact h5
 ·intro hb _;by_cases hr:off+j<o\/o+cs.length<=off+j;·exact hr
  ·exfalso;have hb:b'=b:=hb;subst hb;refine hx l (Aw hj) (off+j - o) oM ?_;rw [show o+(off+j - o)=off+j from by omega];exact h5
theorem Cy {w w1:ZB} {B b:Nat} (h:Below B w w1) (hb:B<=b):∀ (cs:List ZC) (o:Nat),Below B w (w1.setCells b o cs):=by
 intro cs;induction cs generalizing w1 with
 |nil=>intro o;exact h
 |cons v r ih =>
  intro o;have h':Below B w (w1.setCell ⟨b,o,none⟩ v):=by
   refine⟨h.os,h.tape,h.output,?_,fun k hk=>?_⟩
   ·have:(w1.setCell ⟨b,o,none⟩ v).heap.size=w1.heap.size:=by simp [World.setCell]
    rw [this];exact h.size
   ·simp only [World.setCell];rw [Fb,Af (by show ¬ b=k;omega)];exact h.block k hk
  rw [World.setCells];exact ih h' (o+1)
theorem W6 (w:ZB) (b:Nat):∀ (cs:List ZC) (o:Nat),(w.setCells b o cs).heap.size=w.heap.size:=by
 intro cs;induction cs generalizing w with
 |nil=>intro o;rfl
 |cons v r ih=>intro o;rw [World.setCells,ih];simp [World.setCell]
def Pdq (w:ZB) (v:CH.Version) (e:Ending) (w':ZB):Prop := ∃ s:dA,e=.returned (.tuple #[.agg (Al v s).toArray,.int .i64 0])/\aP w' w' v s/\Below w w w'
def O0:List ZC:=[.int .i64 0,.int .i64 0,.int .i64 0,.string ⟨#[]⟩,.slice none 0 0,.int .i64 0,.slice none 0 0,.slice none 0 0]
theorem Kdd:(O0.toArray).all (·.oneCell')=true:=F9 (cs:=O0) (by
  intro u hu
  simp only [O0,A8,Bc,Dj] at hu
  rcases hu with rfl|rfl|rfl|rfl|rfl|rfl|rfl|rfl <;> rfl)
def Ncl (w:ZB) (v:CH.Version) (r:Except Int (List UInt8)) (e:Ending) (w':ZB):Prop := Below w.heap.size w w'/\((∃ s:dA,e=.returned (.tuple #[.agg (Al v s).toArray,.int .i64 0])/\aP w'.heap.size w' v s/\∃ t,r=.ok t)\/∃ er,e=.returned (.tuple #[.agg O0.toArray,.int .i64 er])/\r=.error er)
theorem Let (v:CH.Version) (i h:Nat) (secret m:List UInt8) (r:Except Int (List UInt8)) (va:ZC) (w:ZB) (hG:Gc w) (hA:aP w w v ⟨va,.slice none 0 0,.slice none 0 0⟩) (hv:v.sel=⟨0,[],[]⟩) (hn:v.number=(i:Int)+1) (hm:CH.message v=.ok m) (hs:secret.length<=1000000) (hh:h<=8) (hi:i<2 ^ h) (ht:dD { v with sel:=⟨i,CH.sig secret i m,CH.path (CH.keys secret h) i⟩ }=r) (hr0:∀ er,r=.error er->er≠0) (h1:Gk (CH.sig secret i m)) (h2:Gk (CH.path (CH.keys secret h) i)) (h3:∀ l∈CH.sig secret i m,l≠[]) (h4:∀ l∈CH.path (CH.keys secret h) i,l≠[]) : ZE prog 12 #[↑v.authority,↑v.number,↑v.pos,↑v.prev,va,↑secret,↑h] w (Ncl w { v with sel:=⟨i,CH.sig secret i m,CH.path (CH.keys secret h) i⟩ } r):=by
 have hB0:=fun o=>(Ac _ w).alloc nR o;have AQ:=fun o o'=>((Ac _ w).alloc nR o).alloc sM o';have HV:=Aa fun (W:ZB) (hb:Below w w W)=>(hA.below hb nR).mono hb.size;have M:=fun (W:ZB) (hb:Below w w W)=>Pe v _ W (hG.below hb) (HV.out W hb);rw [hm] at M;have S:=Aa fun (W:ZB) (hb:Below w w W)=>Kna secret m h i W (hG.below hb).gl hs (by rw [Uk hm];decide) hh hi;generalize CH.sig secret i m=sg at *;generalize CH.path (CH.keys secret h) i=pt at *;have GY:i<256:=Ai hi (by have:2 ^ h<=2 ^ 8:=Lh dC hh;omega);have T:=Aa fun (W:ZB) (hb:Below w w W) (v1 v2:ZC) (q1:Strs W W v1 sg) (q2:Strs W W v2 pt)=>Kh { v with sel:=⟨i,sg,pt⟩ } ⟨va,v1,v2⟩ W (hG.below hb) ⟨(HV.out W hb).acts,q1,q2,⟨hA.small.authority,hA.small.number,hA.small.pos,hA.small.prev,⟨by show (-9223372036854775808:Int)<=(i:Int);omega,by show (i:Int)<=9223372036854775807;omega⟩,h1,h2⟩⟩;have HS:=Aa hA.small;obtain⟨aa,ca,e,_,_⟩:=hA.acts.form;change va=_ at e;subst e;clear hA;generalize v.acts.length=N at *;have hsub:(v.number - 1:Int)=(i:Int):=oM;dsimp only [Al,Ow] at M;rw [hv] at M;dsimp only at M;replace M:=Aa M;have hnb:-9223372036854775808<=v.number/\v.number<=9223372036854775807:=HS.out.number;have hng:1<=v.number/\v.number<=300:=oM;clear hn hnb;go_enter func12,ntmps12;go_wp2_with fail;refine (M.out _ (AQ _ _)).mono ?_;rintro e w1 ⟨rfl,hb1⟩;clear M;have hB1:Below w w w1:=(AQ _ _).trans (hb1.mono (by simp;omega));have hblk:=(hb1.block (w+1) sM).trans (Hxo _ _ _);have rW:=(hb1.block w (by simp;omega)).trans (Hxs _ _ _);have hlt:w.heap.size+1<w1.heap.size:=(aZ hblk)
 go_wp2_with fail;refine (S.out _ hB1).mono ?_;rintro e w2 ⟨v1,v2,rfl,q1,q2,hb2⟩;clear S;have hB2:Below w w w2:=hB1.trans (hb2.mono hB1.size);have hblk2:=(hb2.block (w+1) hlt).trans hblk;have qQ:=(hb2.block w oM).trans rW;have T2:=fun (W:ZB) (hb:Below w w W) (r1:Strs W W v1 sg) (r2:Strs W W v2 pt)=>T.out W hb v1 v2 r1 r2;rw [ht] at T2;dsimp only [Al] at T2;have hq1:=Aa q1;have hq2:=Aa q2;obtain⟨a1,c1,rfl,_,_⟩:=q1.form;obtain⟨a2,c2,rfl,_,_⟩:=q2.form;clear q1 q2 T hblk rW hb1;generalize sg.length=n1 at *;generalize pt.length=n2 at *;replace T2:=Aa T2;have hlt2:w.heap.size+1<w2.heap.size:=Ai hlt hb2.size;have hr2:w2.rangeAt (w.heap.size+1) 0 ([.int .i64 v.authority,.int .i64 v.number,.int .i64 v.pos,.string ⟨v.prev.toArray⟩,.slice aa N ca]++[.int .i64 0,.slice none 0 0,.slice none 0 0]):=fun j u hj=>by rw [Bh,Ab hblk2 j];simpa using hj
 have rl:=Hh hr2;have rr:=Dd hr2 5 rfl;have qP:w2.there (w+1) 5 3:=fun j hj=>⟨by
  obtain⟨u,hu⟩:∃ u,([.int .i64 0,.slice none 0 0,.slice none 0 0]:List ZC)[j]?=some u:=⟨_,Ad hj⟩
  rw [rr j u hu];rfl,Bi hblk2 _⟩
 have hrX:(w2.setCells (w+1) 5 [↑i,.slice a1 n1 c1,.slice a2 n2 c2]).rangeAt (w.heap.size+1) 0 [↑v.authority,↑v.number,↑v.pos,↑v.prev,.slice aa N ca,↑i,.slice a1 n1 c1,.slice a2 n2 c2]:=fun j u hj=>by
  rcases Nu j 5 with h5|h5;·exact World.rangeAt_setCells_apart rl (w+1) 5 [↑i,.slice a1 n1 c1,.slice a2 n2 c2] (.inr (.inl sM)) j u (by rw [<- hj];rcases (oM:j=0\/j=1\/j=2\/j=3\/j=4) with rfl|rfl|rfl|rfl|rfl <;> rfl)
  ·have:=Ee w2 (w+1) 5 [↑i,.slice a1 n1 c1,.slice a2 n2 c2] qP (j - 5) u (by
    rw [<- hj];have hj8:j<8:=by have:=(lS hj);simpa using this
    rcases (oM:j=5\/j=6\/j=7) with rfl|rfl|rfl <;> rfl)
   rw [show 0+j=5+(j - 5) from by omega];exact this
 have hno:∀ (l:List UInt8) (j:Nat),j<3->w2.cell? ⟨w+1,5+j,none⟩≠some (ay l):=fun l j hj e=>by
  rcases (oM:j=0\/j=1\/j=2) with rfl|rfl|rfl;·rw [rr 0 _ rfl] at e;cases e
  ·rw [rr 1 _ rfl] at e;cases e
  ·rw [rr 2 _ rfl] at e;cases e
 have hX1:=Mq hq1.out (w+1) 5 [↑i,.slice a1 n1 c1,.slice a2 n2 c2] (fun l _ j hj=>hno l j hj);have hX2:=Mq hq2.out (w+1) 5 [↑i,.slice a1 n1 c1,.slice a2 n2 c2] (fun l _ j hj=>hno l j hj);have hBX:=Cy hB2 (Iu _) [↑i,.slice a1 n1 c1,.slice a2 n2 c2] 5;have hsX:=W6 w2 (w+1) [↑i,.slice a1 n1 c1,.slice a2 n2 c2] 5;have h0X:(w2.setCells (w+1) 5 [↑i,.slice a1 n1 c1,.slice a2 n2 c2]).rangeAt w.heap.size 0 [.int .i64 0,.int .i64 0,.int .i64 0,.string ⟨#[]⟩,.slice none 0 0,.int .i64 0,.slice none 0 0,.slice none 0 0]:=World.rangeAt_setCells_apart (fun j u hj=>by rw [Bh,Ab qQ j];simpa using hj) _ _ _ (.inl oM);have h0f:∀ j,(w2.setCells (w+1) 5 [↑i,.slice a1 n1 c1,.slice a2 n2 c2]).frozen? ⟨w,j,none⟩=false:=fun j=>by rw [World.frozen?_setCells];exact Bi qQ j
 have hi8:(prog.info? 31).map (·.size)=some 8:=kR;have hi3:(prog.info? 29).map (·.size)=some 3:=kR;have hall:(#[↑i,.slice a1 n1 c1,.slice a2 n2 c2]:Array ZC).all (·.oneCell')=true:=F9 (cs:=[↑i,.slice a1 n1 c1,.slice a2 n2 c2]) (by intro u hu;simp only [A8,Bc,Dj] at hu;rcases hu with rfl|rfl|rfl <;> rfl);replace hall:=Aa hall;have W1:=Aa qP;have W2:=Aa hrX;clear qP hrX rl rr hr2 hno hblk2 qQ;replace hX1:=hX1.mono (Nv hsX.symm);replace hX2:=hX2.mono (Nv hsX.symm);have T3:=Aa (T2.out _ hBX hX1 hX2);replace hX1:=Aa hX1;replace hX2:=Aa hX2;replace hBX:=Aa hBX;replace hsX:=Aa hsX;replace h0X:=Aa h0X;replace h0f:=Aa h0f;clear T2 hb2 hq1 hq2 hB2;go_wp2_with (first|refine Hg rfl 29 _ _ rfl (w+1) 5 #[↑i,.slice a1 n1 c1,.slice a2 n2 c2] rfl rfl W1.out hi3 hall.out ?_|refine Bf rfl 31 _ rfl (w+1) 0 rfl [↑v.authority,↑v.number,↑v.pos,↑v.prev,.slice aa N ca,↑i,.slice a1 n1 c1,.slice a2 n2 c2] _ W2.out underlying31 rfl hi8 ?_)
 refine T3.out.mono ?_;rintro e w3 ⟨rfl,hb3⟩;have xY:=hBX.out;have vG:=hsX.out;have hx1:=hX1.out;have hx2:=hX2.out;have hr3:w3.rangeAt (w+1) 0 [↑v.authority,↑v.number,↑v.pos,↑v.prev,.slice aa N ca,↑i,.slice a1 n1 c1,.slice a2 n2 c2]:=Cg W2.out hb3 (by rw [vG];omega);have h03:=Cg h0X.out hb3 (by rw [vG];omega);have hf3:∀ j,w3.frozen? ⟨w,j,none⟩=false:=fun j=>(hb3.frozen (p:=⟨w,j,none⟩) (by rw [vG];show w.heap.size<_;omega)).trans (h0f.out j);clear T3 W1 W2 h0X h0f hall hi3;generalize w2.setCells (w+1) 5 [↑i,.slice a1 n1 c1,.slice a2 n2 c2]=X at *;have hB3:Below w w w3:=xY.trans (hb3.mono xY.size);have hy1:=(hx1.below hb3 nR).mono hb3.size;have hy2:=(hx2.below hb3 nR).mono hb3.size;have hth:w3.there w 0 8:=fun j hj=>⟨by
  obtain⟨u,hu⟩:∃ u,([.int .i64 0,.int .i64 0,.int .i64 0,.string ⟨#[]⟩,.slice none 0 0,.int .i64 0,.slice none 0 0,.slice none 0 0]:List ZC)[j]?=some u:=⟨_,Ad hj⟩
  rw [h03 j u hu];rfl,hf3 _⟩
 have hno:∀ (l:List UInt8),l≠[]->∀ (j:Nat),j<8->w3.cell? ⟨w,0+j,none⟩≠some (ay l):=fun l hl j hj e=>by
  rcases (oM:j=0\/j=1\/j=2\/j=3\/j=4\/j=5\/j=6\/j=7) with rfl|rfl|rfl|rfl|rfl|rfl|rfl|rfl;·rw [h03 0 _ rfl] at e;cases e
  ·rw [h03 1 _ rfl] at e;cases e
  ·rw [h03 2 _ rfl] at e;cases e
  ·rw [h03 3 _ rfl] at e;simp only [Ep,Value.string.injEq,ByteArray.mk.injEq] at e;exact hl (by simpa using e.symm)
  ·rw [h03 4 _ rfl] at e;cases e
  ·rw [h03 5 _ rfl] at e;cases e
  ·rw [h03 6 _ rfl] at e;cases e
  ·rw [h03 7 _ rfl] at e;cases e
 have hz1:=Aa (Mq hy1 w 0 [↑v.authority,↑v.number,↑v.pos,↑v.prev,.slice aa N ca,↑i,.slice a1 n1 c1,.slice a2 n2 c2] (fun l hl j hj=>hno l (h3 l hl) j hj));have hz2:=Aa (Mq hy2 w 0 [↑v.authority,↑v.number,↑v.pos,↑v.prev,.slice aa N ca,↑i,.slice a1 n1 c1,.slice a2 n2 c2] (fun l hl j hj=>hno l (h4 l hl) j hj));have hall:(#[↑v.authority,↑v.number,↑v.pos,↑v.prev,.slice aa N ca,↑i,.slice a1 n1 c1,.slice a2 n2 c2]:Array ZC).all (·.oneCell')=true:=F9 (cs:=[↑v.authority,↑v.number,↑v.pos,↑v.prev,.slice aa N ca,↑i,.slice a1 n1 c1,.slice a2 n2 c2]) (by intro u hu;simp only [A8,Bc,Dj] at hu;rcases hu with rfl|rfl|rfl|rfl|rfl|rfl|rfl|rfl <;> rfl);have hrF:=Aa (Ee w3 w 0 [↑v.authority,↑v.number,↑v.pos,↑v.prev,.slice aa N ca,↑i,.slice a1 n1 c1,.slice a2 n2 c2] hth);have hBF:=Aa (Cy hB3 nR [↑v.authority,↑v.number,↑v.pos,↑v.prev,.slice aa N ca,↑i,.slice a1 n1 c1,.slice a2 n2 c2] 0);have hsF:=Aa (W6 w3 w.heap.size [↑v.authority,↑v.number,↑v.pos,↑v.prev,.slice aa N ca,↑i,.slice a1 n1 c1,.slice a2 n2 c2] 0);have hrZ:=Aa (Ee w3 w 0 O0 hth);have hBZ:=Aa (Cy hB3 nR O0 0);replace hth:=Aa hth;replace hall:=Aa hall;replace hr3:=Aa hr3;clear hno h03 hf3 hy1 hy2 hx1 hx2 hX1 hX2 hBX hsX xY vG hb3 hB3;cases r with
 |error er =>
  have q1:(er==0)=false:=by simpa using hr0 er rfl
  have q2:(er != 0)=true:=by simpa using hr0 er rfl
  dsimp only [Ow];clear hrF hBF hsF hz1 hz2;go_wp2_with (first|refine Hg rfl 31 _ _ rfl w 0 O0.toArray rfl rfl hth.out hi8 Kdd ?_)
  refine Ah (G0 rfl _ _ ⟨w,0,none⟩ _ rfl (G7 _ w 0 31 O0 _ hrZ.out underlying31 rfl hi8)) rfl ?_;exact⟨hBZ.out,.inr ⟨er,rfl,rfl⟩⟩
 |ok t =>
  dsimp only [Ow];clear hrZ hBZ;go_wp2_with (first|refine Hg rfl 31 _ _ rfl w 0 #[↑v.authority,↑v.number,↑v.pos,↑v.prev,.slice aa N ca,↑i,.slice a1 n1 c1,.slice a2 n2 c2] rfl rfl hth.out hi8 hall.out ?_|refine Bf rfl 31 _ rfl (w+1) 0 rfl [↑v.authority,↑v.number,↑v.pos,↑v.prev,.slice aa N ca,↑i,.slice a1 n1 c1,.slice a2 n2 c2] _ hr3.out underlying31 rfl hi8 ?_)
  refine Ah (G0 rfl _ _ ⟨w,0,none⟩ _ rfl (G7 _ w 0 31 [↑v.authority,↑v.number,↑v.pos,↑v.prev,.slice aa N ca,↑i,.slice a1 n1 c1,.slice a2 n2 c2] _ hrF.out underlying31 rfl hi8)) rfl ?_;refine⟨hBF.out,.inl ⟨⟨.slice aa N ca,.slice a1 n1 c1,.slice a2 n2 c2⟩,rfl,⟨((HV.out _ hBF.out).acts),?_,?_,⟨HS.out.authority,HS.out.number,HS.out.pos,HS.out.prev,⟨by show (-9223372036854775808:Int)<=(i:Int);omega,by show (i:Int)<=9223372036854775807;omega⟩,h1,h2⟩⟩,⟨t,rfl⟩⟩⟩;·exact hz1.out.mono (Nv hsF.out.symm)
  ·exact hz2.out.mono (Nv hsF.out.symm)
theorem Lex (v:CH.Version) (i h:Nat) (secret m t:List UInt8) (va:ZC) (w:ZB) (hG:Gc w) (hA:aP w w v ⟨va,.slice none 0 0,.slice none 0 0⟩) (hv:v.sel=⟨0,[],[]⟩) (hn:v.number=(i:Int)+1) (hm:CH.message v=.ok m) (hs:secret.length<=1000000) (hh:h<=8) (hi:i<2 ^ h) (ht:dD { v with sel:=⟨i,CH.sig secret i m,CH.path (CH.keys secret h) i⟩ }=.ok t) (h1:Gk (CH.sig secret i m)) (h2:Gk (CH.path (CH.keys secret h) i)) (h3:∀ l∈CH.sig secret i m,l≠[]) (h4:∀ l∈CH.path (CH.keys secret h) i,l≠[]) : ZE prog 12 #[↑v.authority,↑v.number,↑v.pos,↑v.prev,va,↑secret,↑h] w (Pdq w { v with sel:=⟨i,CH.sig secret i m,CH.path (CH.keys secret h) i⟩ }) :=
 (Let v i h secret m _ va w hG hA hv hn hm hs hh hi ht (fun _ h=>by cases h) h1 h2 h3 h4).mono fun e w' hR=>by
  obtain⟨hb,⟨s,e1,e2,_⟩|⟨er,_,e2⟩⟩:=hR
  ·exact⟨s,e1,e2,hb⟩
  ·cases e2
theorem Ifn (w:ZB):(zeroValue 31).run prog w=.ok (.agg #[.int .i64 0,.int .i64 0,.int .i64 0,.string ⟨#[]⟩,.slice none 0 0,.int .i64 0,.slice none 0 0,.slice none 0 0]) w:=kR
theorem Hct (c o r:Nat) (p:Int × Int) (v old:CH.Version) (s so:dA) (kvs:List ((Int × Int) × ZC)) (j:Nat) (w:ZB) (hc:w.cell? ⟨c,o,none⟩=some (.map (some r))) (hm:Cp Bk r w kvs) (hf:Ch p kvs 0=some (j,.agg (Al old so).toArray)) (ho:aP w w old so) (hv:aP w w v s) : ZE prog 35 #[.pointer (some ⟨c,o,none⟩),Bk p,.agg (Al v s).toArray] w (Ret w (.tuple #[.agg (Al old so).toArray,.bool false])):=by
 have L:=fun (W:ZB) (hb:Below w w W)=>L0 underlying76 _ Ifn (hm.below hb) p;simp only [hf,Gv,Le,Option.isSome_some] at L;obtain⟨p1,p2⟩:=p;obtain⟨va,v1,v2⟩:=s;obtain⟨ua,u1,u2⟩:=so;obtain⟨x1,y1,e1,_,_⟩:=ho.acts.form;obtain⟨x2,y2,e2,_,_⟩:=ho.sig.form;obtain⟨x3,y3,e3,_,_⟩:=ho.path.form;change ua=_ at e1;change u1=_ at e2;change u2=_ at e3;subst e1 e2 e3;clear ho hv;generalize old.acts.length=n0 at *;generalize old.sel.sig.length=n1 at *;generalize old.sel.path.length=n2 at *;dsimp only [Al,Bk] at *;have iw:=Ef w _ hc;go_enter func35,ntmps35;go_wp2_with fail;rename_i K hK;have hB0:Below w w (((w.alloc (.cells #[↑p1,↑p2] 93)).alloc (.cells #[↑v.authority,↑v.number,↑v.pos,↑v.prev,va,↑v.sel.index,v1,v2] 31)).alloc (.cells #[.int .i64 0,.int .i64 0,.int .i64 0,.string ⟨#[]⟩,.slice none 0 0,.int .i64 0,.slice none 0 0,.slice none 0 0] 31)):=(((Ac _ w).alloc nR _).alloc sM _).alloc (by simp;omega) _;have hblk:(((w.alloc (.cells #[↑p1,↑p2] 93)).alloc (.cells #[↑v.authority,↑v.number,↑v.pos,↑v.prev,va,↑v.sel.index,v1,v2] 31)).alloc (.cells #[.int .i64 0,.int .i64 0,.int .i64 0,.string ⟨#[]⟩,.slice none 0 0,.int .i64 0,.slice none 0 0,.slice none 0 0] 31)).heap[w.heap.size]?=some (.cells #[↑p1,↑p2] 93 (0,0)):=by exact FD84
 have hblk2:(((w.alloc (.cells #[↑p1,↑p2] 93)).alloc (.cells #[↑v.authority,↑v.number,↑v.pos,↑v.prev,va,↑v.sel.index,v1,v2] 31)).alloc (.cells #[.int .i64 0,.int .i64 0,.int .i64 0,.string ⟨#[]⟩,.slice none 0 0,.int .i64 0,.slice none 0 0,.slice none 0 0] 31)).heap[w.heap.size+1+1]?=some (.cells #[.int .i64 0,.int .i64 0,.int .i64 0,.string ⟨#[]⟩,.slice none 0 0,.int .i64 0,.slice none 0 0,.slice none 0 0] 31 (0,0)):=by exact FD113
 have hsz:(((w.alloc (.cells #[↑p1,↑p2] 93)).alloc (.cells #[↑v.authority,↑v.number,↑v.pos,↑v.prev,va,↑v.sel.index,v1,v2] 31)).alloc (.cells #[.int .i64 0,.int .i64 0,.int .i64 0,.string ⟨#[]⟩,.slice none 0 0,.int .i64 0,.slice none 0 0,.slice none 0 0] 31)).heap.size=w.heap.size+3:=sM;generalize ((w.alloc (.cells #[↑p1,↑p2] 93)).alloc (.cells #[↑v.authority,↑v.number,↑v.pos,↑v.prev,va,↑v.sel.index,v1,v2] 31)).alloc (.cells #[.int .i64 0,.int .i64 0,.int .i64 0,.string ⟨#[]⟩,.slice none 0 0,.int .i64 0,.slice none 0 0,.slice none 0 0] 31)=W0 at *;have SS:∀ W',Below W0 W0 W'->W'.cell? ⟨c,o,none⟩=some (.map (some r))/\W'.cell? ⟨w,0,none⟩=some ↑p1/\W'.cell? ⟨w,1,none⟩=some ↑p2/\(Instr.lookup 76 (.map (some r)) (.agg #[↑p1,↑p2]) true).run prog W'=_:=fun W' hb =>⟨((hB0.trans (hb.mono hB0.size)).cell (p:=⟨c,o,none⟩) iw).trans hc,(hb.cell (p:=⟨w,0,none⟩) (by show w.heap.size<_;omega)).trans (Ab hblk 0),(hb.cell (p:=⟨w,1,none⟩) (by show w.heap.size<_;omega)).trans (Ab hblk 1),L W' (hB0.trans (hb.mono hB0.size))⟩
 have hBd:Below W0 W0 W0.drew:=(Ac _ W0).drew;clear L;go_region_held3 (fun W'=>W'.cell? ⟨c,o,none⟩=some (.map (some r))/\W'.cell? ⟨w,0,none⟩=some ↑p1/\W'.cell? ⟨w,1,none⟩=some ↑p2/\(Instr.lookup 76 (.map (some r)) (.agg #[↑p1,↑p2]) true).run prog W'=.ok (.tuple #[.agg #[↑old.authority,↑old.number,↑old.pos,↑old.prev,.slice x1 n0 y1,↑old.sel.index,.slice x2 n1 y2,.slice x3 n2 y3],.bool true]) W') ((refine SS _ ?_;repeat (first|exact hBd|exact Ac _ _|refine Gu ?_|refine Ez ?_ (by simp <;> omega) _|refine Fp ?_ (by simp <;> omega) _))) (first|fail);all_goals
  have hBX:Below W0 W0 (W0.alloc (.cells #[↑old.authority,↑old.number,↑old.pos,↑old.prev,.slice x1 n0 y1,↑old.sel.index,.slice x2 n1 y2,.slice x3 n2 y3] 31)).drew:=((Ac _ W0).alloc nR _).drew;have hrX:(W0.alloc (.cells #[↑old.authority,↑old.number,↑old.pos,↑old.prev,.slice x1 n0 y1,↑old.sel.index,.slice x2 n1 y2,.slice x3 n2 y3] 31)).drew.rangeAt (w.heap.size+3) 0 [↑old.authority,↑old.number,↑old.pos,↑old.prev,.slice x1 n0 y1,↑old.sel.index,.slice x2 n1 y2,.slice x3 n2 y3]:=by rw [<- hsz];exact fun j u hj=>B7 W0 [↑old.authority,↑old.number,↑old.pos,↑old.prev,.slice x1 n0 y1,↑old.sel.index,.slice x2 n1 y2,.slice x3 n2 y3] 31 j u hj
  have hth:(W0.alloc (.cells #[↑old.authority,↑old.number,↑old.pos,↑old.prev,.slice x1 n0 y1,↑old.sel.index,.slice x2 n1 y2,.slice x3 n2 y3] 31)).drew.there (w.heap.size+1+1) 0 8:=fun j hj=>by have h2:=(hBX.block (w+1+1) oM).trans hblk2;refine⟨?_,Bi h2 _⟩;rw [Bh,Ab h2 j];rcases (oM:j=0\/j=1\/j=2\/j=3\/j=4\/j=5\/j=6\/j=7) with rfl|rfl|rfl|rfl|rfl|rfl|rfl|rfl <;> rfl
  have hi8:(prog.info? 31).map (·.size)=some 8:=kR;have hall:(#[↑old.authority,↑old.number,↑old.pos,↑old.prev,.slice x1 n0 y1,↑old.sel.index,.slice x2 n1 y2,.slice x3 n2 y3]:Array ZC).all (·.oneCell')=true:=F9 (cs:=[↑old.authority,↑old.number,↑old.pos,↑old.prev,.slice x1 n0 y1,↑old.sel.index,.slice x2 n1 y2,.slice x3 n2 y3]) (by intro u hu;simp only [A8,Bc,Dj] at hu;rcases hu with rfl|rfl|rfl|rfl|rfl|rfl|rfl|rfl <;> rfl);have hBw:=hB0.trans (hBX.mono hB0.size);clear SS hBd hBX hblk hblk2;generalize (W0.alloc (.cells #[↑old.authority,↑old.number,↑old.pos,↑old.prev,.slice x1 n0 y1,↑old.sel.index,.slice x2 n1 y2,.slice x3 n2 y3] 31)).drew=X at *;have hrF:=Aa (Ee X (w+1+1) 0 [↑old.authority,↑old.number,↑old.pos,↑old.prev,.slice x1 n0 y1,↑old.sel.index,.slice x2 n1 y2,.slice x3 n2 y3] hth);have hBF:=Aa (Cy (b:=w.heap.size+1+1) hBw oM [↑old.authority,↑old.number,↑old.pos,↑old.prev,.slice x1 n0 y1,↑old.sel.index,.slice x2 n1 y2,.slice x3 n2 y3] 0);replace hrX:=Aa hrX;replace hth:=Aa hth;replace hall:=Aa hall;simp only [Exit.then];refine hK _ _ ?_;clear hK;go_wp2_with (refine Bf rfl 31 _ rfl (w+3) 0 rfl [↑old.authority,↑old.number,↑old.pos,↑old.prev,.slice x1 n0 y1,↑old.sel.index,.slice x2 n1 y2,.slice x3 n2 y3] _ hrX.out underlying31 rfl hi8 ?_;refine Hg rfl 31 _ _ rfl (w+1+1) 0 #[↑old.authority,↑old.number,↑old.pos,↑old.prev,.slice x1 n0 y1,↑old.sel.index,.slice x2 n1 y2,.slice x3 n2 y3] rfl rfl hth.out hi8 hall.out ?_)
  refine Ah (G0 rfl _ _ ⟨w+1+1,0,none⟩ _ rfl (G7 _ (w+1+1) 0 31 [↑old.authority,↑old.number,↑old.pos,↑old.prev,.slice x1 n0 y1,↑old.sel.index,.slice x2 n1 y2,.slice x3 n2 y3] _ hrF.out underlying31 rfl hi8)) rfl ?_;exact⟨rfl,hBF.out⟩
theorem Xd (w:ZB):(zeroValue 84).run prog w=.ok (.agg #[.int .i64 0,.int .i64 0,.int .i64 0,.string ⟨#[]⟩,.slice none 0 0,.int .i64 0,.slice none 0 0,.slice none 0 0,.int .i64 0,.int .i64 0,.int .i64 0,.string ⟨#[]⟩,.slice none 0 0,.int .i64 0,.slice none 0 0,.slice none 0 0]) w:=kR
theorem Cvh (c o r:Nat) (p:Int × Int) (v vv old bG:CH.Version) (va v1 v2 vb v3 v4:ZC) (x1 x2 x3 x4 x5 x6:Option Addr) (n0 n1 n2 n3 n4 n5 y1 y2 y3 y4 y5 y6:Nat) (kvs:List ((Int × Int) × ZC)) (j:Nat) (w:ZB) (hc:w.cell? ⟨c,o,none⟩=some (.map (some r))) (hm:Cp Bk r w kvs) (hf:Ch p kvs 0=some (j,.agg #[↑old.authority,↑old.number,↑old.pos,↑old.prev,.slice x1 n0 y1,↑old.sel.index,.slice x2 n1 y2,.slice x3 n2 y3,↑bG.authority,↑bG.number,↑bG.pos,↑bG.prev,.slice x4 n3 y4,↑bG.sel.index,.slice x5 n4 y5,.slice x6 n5 y6])) : ZE prog 36 #[.pointer (some ⟨c,o,none⟩),Bk p,.agg #[↑v.authority,↑v.number,↑v.pos,↑v.prev,va,↑v.sel.index,v1,v2,↑vv.authority,↑vv.number,↑vv.pos,↑vv.prev,vb,↑vv.sel.index,v3,v4]] w (Ret w (.tuple #[.agg #[↑old.authority,↑old.number,↑old.pos,↑old.prev,.slice x1 n0 y1,↑old.sel.index,.slice x2 n1 y2,.slice x3 n2 y3,↑bG.authority,↑bG.number,↑bG.pos,↑bG.prev,.slice x4 n3 y4,↑bG.sel.index,.slice x5 n4 y5,.slice x6 n5 y6],.bool false])):=by
 have L:=fun (W:ZB) (hb:Below w w W)=>L0 underlying79 _ Xd (hm.below hb) p;simp only [hf,Gv,Le,Option.isSome_some] at L;obtain⟨p1,p2⟩:=p;dsimp only [Bk] at *;have iw:=Ef w _ hc;go_enter func36,ntmps36;go_wp2_with fail;rename_i K hK;have hB0:Below w w (((w.alloc (.cells #[↑p1,↑p2] 93)).alloc (.cells #[↑v.authority,↑v.number,↑v.pos,↑v.prev,va,↑v.sel.index,v1,v2,↑vv.authority,↑vv.number,↑vv.pos,↑vv.prev,vb,↑vv.sel.index,v3,v4] 84)).alloc (.cells #[.int .i64 0,.int .i64 0,.int .i64 0,.string ⟨#[]⟩,.slice none 0 0,.int .i64 0,.slice none 0 0,.slice none 0 0,.int .i64 0,.int .i64 0,.int .i64 0,.string ⟨#[]⟩,.slice none 0 0,.int .i64 0,.slice none 0 0,.slice none 0 0] 84)):=(((Ac _ w).alloc nR _).alloc sM _).alloc (by simp;omega) _;have hblk:(((w.alloc (.cells #[↑p1,↑p2] 93)).alloc (.cells #[↑v.authority,↑v.number,↑v.pos,↑v.prev,va,↑v.sel.index,v1,v2,↑vv.authority,↑vv.number,↑vv.pos,↑vv.prev,vb,↑vv.sel.index,v3,v4] 84)).alloc (.cells #[.int .i64 0,.int .i64 0,.int .i64 0,.string ⟨#[]⟩,.slice none 0 0,.int .i64 0,.slice none 0 0,.slice none 0 0,.int .i64 0,.int .i64 0,.int .i64 0,.string ⟨#[]⟩,.slice none 0 0,.int .i64 0,.slice none 0 0,.slice none 0 0] 84)).heap[w.heap.size]?=some (.cells #[↑p1,↑p2] 93 (0,0)):=by exact FD84
 have hblk2:(((w.alloc (.cells #[↑p1,↑p2] 93)).alloc (.cells #[↑v.authority,↑v.number,↑v.pos,↑v.prev,va,↑v.sel.index,v1,v2,↑vv.authority,↑vv.number,↑vv.pos,↑vv.prev,vb,↑vv.sel.index,v3,v4] 84)).alloc (.cells #[.int .i64 0,.int .i64 0,.int .i64 0,.string ⟨#[]⟩,.slice none 0 0,.int .i64 0,.slice none 0 0,.slice none 0 0,.int .i64 0,.int .i64 0,.int .i64 0,.string ⟨#[]⟩,.slice none 0 0,.int .i64 0,.slice none 0 0,.slice none 0 0] 84)).heap[w.heap.size+1+1]?=some (.cells #[.int .i64 0,.int .i64 0,.int .i64 0,.string ⟨#[]⟩,.slice none 0 0,.int .i64 0,.slice none 0 0,.slice none 0 0,.int .i64 0,.int .i64 0,.int .i64 0,.string ⟨#[]⟩,.slice none 0 0,.int .i64 0,.slice none 0 0,.slice none 0 0] 84 (0,0)):=by exact FD113
 have hsz:(((w.alloc (.cells #[↑p1,↑p2] 93)).alloc (.cells #[↑v.authority,↑v.number,↑v.pos,↑v.prev,va,↑v.sel.index,v1,v2,↑vv.authority,↑vv.number,↑vv.pos,↑vv.prev,vb,↑vv.sel.index,v3,v4] 84)).alloc (.cells #[.int .i64 0,.int .i64 0,.int .i64 0,.string ⟨#[]⟩,.slice none 0 0,.int .i64 0,.slice none 0 0,.slice none 0 0,.int .i64 0,.int .i64 0,.int .i64 0,.string ⟨#[]⟩,.slice none 0 0,.int .i64 0,.slice none 0 0,.slice none 0 0] 84)).heap.size=w.heap.size+3:=sM;generalize ((w.alloc (.cells #[↑p1,↑p2] 93)).alloc (.cells #[↑v.authority,↑v.number,↑v.pos,↑v.prev,va,↑v.sel.index,v1,v2,↑vv.authority,↑vv.number,↑vv.pos,↑vv.prev,vb,↑vv.sel.index,v3,v4] 84)).alloc (.cells #[.int .i64 0,.int .i64 0,.int .i64 0,.string ⟨#[]⟩,.slice none 0 0,.int .i64 0,.slice none 0 0,.slice none 0 0,.int .i64 0,.int .i64 0,.int .i64 0,.string ⟨#[]⟩,.slice none 0 0,.int .i64 0,.slice none 0 0,.slice none 0 0] 84)=W0 at *;have SS:∀ W',Below W0 W0 W'->W'.cell? ⟨c,o,none⟩=some (.map (some r))/\W'.cell? ⟨w,0,none⟩=some ↑p1/\W'.cell? ⟨w,1,none⟩=some ↑p2/\(Instr.lookup 79 (.map (some r)) (.agg #[↑p1,↑p2]) true).run prog W'=_:=fun W' hb =>⟨((hB0.trans (hb.mono hB0.size)).cell (p:=⟨c,o,none⟩) iw).trans hc,(hb.cell (p:=⟨w,0,none⟩) (by show w.heap.size<_;omega)).trans (Ab hblk 0),(hb.cell (p:=⟨w,1,none⟩) (by show w.heap.size<_;omega)).trans (Ab hblk 1),L W' (hB0.trans (hb.mono hB0.size))⟩
 have hBd:Below W0 W0 W0.drew:=(Ac _ W0).drew;clear L;go_region_held3 (fun W'=>W'.cell? ⟨c,o,none⟩=some (.map (some r))/\W'.cell? ⟨w,0,none⟩=some ↑p1/\W'.cell? ⟨w,1,none⟩=some ↑p2/\(Instr.lookup 79 (.map (some r)) (.agg #[↑p1,↑p2]) true).run prog W'=.ok (.tuple #[.agg #[↑old.authority,↑old.number,↑old.pos,↑old.prev,.slice x1 n0 y1,↑old.sel.index,.slice x2 n1 y2,.slice x3 n2 y3,↑bG.authority,↑bG.number,↑bG.pos,↑bG.prev,.slice x4 n3 y4,↑bG.sel.index,.slice x5 n4 y5,.slice x6 n5 y6],.bool true]) W') ((refine SS _ ?_;repeat (first|exact hBd|exact Ac _ _|refine Gu ?_|refine Ez ?_ (by simp <;> omega) _|refine Fp ?_ (by simp <;> omega) _))) (first|fail);all_goals
  have hBX:Below W0 W0 (W0.alloc (.cells #[↑old.authority,↑old.number,↑old.pos,↑old.prev,.slice x1 n0 y1,↑old.sel.index,.slice x2 n1 y2,.slice x3 n2 y3,↑bG.authority,↑bG.number,↑bG.pos,↑bG.prev,.slice x4 n3 y4,↑bG.sel.index,.slice x5 n4 y5,.slice x6 n5 y6] 84)).drew:=((Ac _ W0).alloc nR _).drew;have hrX:(W0.alloc (.cells #[↑old.authority,↑old.number,↑old.pos,↑old.prev,.slice x1 n0 y1,↑old.sel.index,.slice x2 n1 y2,.slice x3 n2 y3,↑bG.authority,↑bG.number,↑bG.pos,↑bG.prev,.slice x4 n3 y4,↑bG.sel.index,.slice x5 n4 y5,.slice x6 n5 y6] 84)).drew.rangeAt (w.heap.size+3) 0 [↑old.authority,↑old.number,↑old.pos,↑old.prev,.slice x1 n0 y1,↑old.sel.index,.slice x2 n1 y2,.slice x3 n2 y3,↑bG.authority,↑bG.number,↑bG.pos,↑bG.prev,.slice x4 n3 y4,↑bG.sel.index,.slice x5 n4 y5,.slice x6 n5 y6]:=by rw [<- hsz];exact fun j u hj=>B7 W0 [↑old.authority,↑old.number,↑old.pos,↑old.prev,.slice x1 n0 y1,↑old.sel.index,.slice x2 n1 y2,.slice x3 n2 y3,↑bG.authority,↑bG.number,↑bG.pos,↑bG.prev,.slice x4 n3 y4,↑bG.sel.index,.slice x5 n4 y5,.slice x6 n5 y6] 84 j u hj
  have hth:(W0.alloc (.cells #[↑old.authority,↑old.number,↑old.pos,↑old.prev,.slice x1 n0 y1,↑old.sel.index,.slice x2 n1 y2,.slice x3 n2 y3,↑bG.authority,↑bG.number,↑bG.pos,↑bG.prev,.slice x4 n3 y4,↑bG.sel.index,.slice x5 n4 y5,.slice x6 n5 y6] 84)).drew.there (w.heap.size+1+1) 0 16:=fun j hj=>by have h2:=(hBX.block (w+1+1) oM).trans hblk2;refine⟨?_,Bi h2 _⟩;rw [Bh,Ab h2 j];rcases (oM:j=0\/j=1\/j=2\/j=3\/j=4\/j=5\/j=6\/j=7\/j=8\/j=9\/j=10\/j=11\/j=12\/j=13\/j=14\/j=15) with rfl|rfl|rfl|rfl|rfl|rfl|rfl|rfl|rfl|rfl|rfl|rfl|rfl|rfl|rfl|rfl <;> rfl
  have hi8:(prog.info? 84).map (·.size)=some 16:=kR;have hall:(#[↑old.authority,↑old.number,↑old.pos,↑old.prev,.slice x1 n0 y1,↑old.sel.index,.slice x2 n1 y2,.slice x3 n2 y3,↑bG.authority,↑bG.number,↑bG.pos,↑bG.prev,.slice x4 n3 y4,↑bG.sel.index,.slice x5 n4 y5,.slice x6 n5 y6]:Array ZC).all (·.oneCell')=true:=F9 (cs:=[↑old.authority,↑old.number,↑old.pos,↑old.prev,.slice x1 n0 y1,↑old.sel.index,.slice x2 n1 y2,.slice x3 n2 y3,↑bG.authority,↑bG.number,↑bG.pos,↑bG.prev,.slice x4 n3 y4,↑bG.sel.index,.slice x5 n4 y5,.slice x6 n5 y6]) (by intro u hu;simp only [A8,Bc,Dj] at hu;rcases hu with rfl|rfl|rfl|rfl|rfl|rfl|rfl|rfl|rfl|rfl|rfl|rfl|rfl|rfl|rfl|rfl <;> rfl);have hBw:=hB0.trans (hBX.mono hB0.size);clear SS hBd hBX hblk hblk2;generalize (W0.alloc (.cells #[↑old.authority,↑old.number,↑old.pos,↑old.prev,.slice x1 n0 y1,↑old.sel.index,.slice x2 n1 y2,.slice x3 n2 y3,↑bG.authority,↑bG.number,↑bG.pos,↑bG.prev,.slice x4 n3 y4,↑bG.sel.index,.slice x5 n4 y5,.slice x6 n5 y6] 84)).drew=X at *;have hrF:=Aa (Ee X (w+1+1) 0 [↑old.authority,↑old.number,↑old.pos,↑old.prev,.slice x1 n0 y1,↑old.sel.index,.slice x2 n1 y2,.slice x3 n2 y3,↑bG.authority,↑bG.number,↑bG.pos,↑bG.prev,.slice x4 n3 y4,↑bG.sel.index,.slice x5 n4 y5,.slice x6 n5 y6] hth);have hBF:=Aa (Cy (b:=w.heap.size+1+1) hBw oM [↑old.authority,↑old.number,↑old.pos,↑old.prev,.slice x1 n0 y1,↑old.sel.index,.slice x2 n1 y2,.slice x3 n2 y3,↑bG.authority,↑bG.number,↑bG.pos,↑bG.prev,.slice x4 n3 y4,↑bG.sel.index,.slice x5 n4 y5,.slice x6 n5 y6] 0);replace hrX:=Aa hrX;replace hth:=Aa hth;replace hall:=Aa hall;simp only [Exit.then];refine hK _ _ ?_;clear hK;go_wp2_with (refine Bf rfl 84 _ rfl (w+3) 0 rfl [↑old.authority,↑old.number,↑old.pos,↑old.prev,.slice x1 n0 y1,↑old.sel.index,.slice x2 n1 y2,.slice x3 n2 y3,↑bG.authority,↑bG.number,↑bG.pos,↑bG.prev,.slice x4 n3 y4,↑bG.sel.index,.slice x5 n4 y5,.slice x6 n5 y6] _ hrX.out underlying84 rfl hi8 ?_;refine Hg rfl 84 _ _ rfl (w+1+1) 0 #[↑old.authority,↑old.number,↑old.pos,↑old.prev,.slice x1 n0 y1,↑old.sel.index,.slice x2 n1 y2,.slice x3 n2 y3,↑bG.authority,↑bG.number,↑bG.pos,↑bG.prev,.slice x4 n3 y4,↑bG.sel.index,.slice x5 n4 y5,.slice x6 n5 y6] rfl rfl hth.out hi8 hall.out ?_)
  refine Ah (G0 rfl _ _ ⟨w+1+1,0,none⟩ _ rfl (G7 _ (w+1+1) 0 84 [↑old.authority,↑old.number,↑old.pos,↑old.prev,.slice x1 n0 y1,↑old.sel.index,.slice x2 n1 y2,.slice x3 n2 y3,↑bG.authority,↑bG.number,↑bG.pos,↑bG.prev,.slice x4 n3 y4,↑bG.sel.index,.slice x5 n4 y5,.slice x6 n5 y6] _ hrF.out underlying84 rfl hi8)) rfl ?_;exact⟨rfl,hBF.out⟩
def Map (w:ZB) (r:Nat) (p:Int × Int) (x:ZC) (kvs:List ((Int × Int) × ZC)) (e:Ending) (w':ZB):Prop := e=.returned (.tuple #[x,.bool true])/\Held [r] w w'/\Cp Bk r w' (kvs++[(p,x)])
theorem Hdk (c o r:Nat) (p:Int × Int) (v:CH.Version) (s:dA) (kvs:List ((Int × Int) × ZC)) (w:ZB) (hc:w.cell? ⟨c,o,none⟩=some (.map (some r))) (hm:Cp Bk r w kvs) (hf:Ch p kvs 0=none) (hv:aP w w v s) : ZE prog 35 #[.pointer (some ⟨c,o,none⟩),Bk p,.agg (Al v s).toArray] w (Map w r p (.agg (Al v s).toArray) kvs):=by
 have L:=fun (W:ZB) (hb:Below w w W)=>L0 underlying76 _ Ifn (hm.below hb) p;simp only [hf,Nr,Nl,Option.isSome_none] at L;have UP:=fun (W:ZB) (hb:Below w w W)=>Qs underlying76 (hm.below hb) p (.agg (Al v s).toArray) hf;obtain⟨p1,p2⟩:=p;obtain⟨va,v1,v2⟩:=s;have hoc:∀ u∈([↑v.authority,↑v.number,↑v.pos,↑v.prev,va,↑v.sel.index,v1,v2]:List ZC),u.oneCell'=true:=by obtain⟨_,_,e1,_,_⟩:=hv.acts.form;obtain⟨_,_,e2,_,_⟩:=hv.sig.form;obtain⟨_,_,e3,_,_⟩:=hv.path.form;change va=_ at e1;change v1=_ at e2;change v2=_ at e3;intro u hu;simp only [A8,Bc,Dj] at hu;exact FD110
 replace hoc:=Aa hoc;have uj:=hm.lt;clear hv;dsimp only [Al,Bk] at *;have iw:=Ef w _ hc;go_enter func35,ntmps35;go_wp2_with fail;rename_i K hK;have hB0:Below w w (((w.alloc (.cells #[↑p1,↑p2] 93)).alloc (.cells #[↑v.authority,↑v.number,↑v.pos,↑v.prev,va,↑v.sel.index,v1,v2] 31)).alloc (.cells #[.int .i64 0,.int .i64 0,.int .i64 0,.string ⟨#[]⟩,.slice none 0 0,.int .i64 0,.slice none 0 0,.slice none 0 0] 31)):=(((Ac _ w).alloc nR _).alloc sM _).alloc (by simp;omega) _;have hblk:(((w.alloc (.cells #[↑p1,↑p2] 93)).alloc (.cells #[↑v.authority,↑v.number,↑v.pos,↑v.prev,va,↑v.sel.index,v1,v2] 31)).alloc (.cells #[.int .i64 0,.int .i64 0,.int .i64 0,.string ⟨#[]⟩,.slice none 0 0,.int .i64 0,.slice none 0 0,.slice none 0 0] 31)).heap[w.heap.size]?=some (.cells #[↑p1,↑p2] 93 (0,0)):=by exact FD84
 have hblk1:(((w.alloc (.cells #[↑p1,↑p2] 93)).alloc (.cells #[↑v.authority,↑v.number,↑v.pos,↑v.prev,va,↑v.sel.index,v1,v2] 31)).alloc (.cells #[.int .i64 0,.int .i64 0,.int .i64 0,.string ⟨#[]⟩,.slice none 0 0,.int .i64 0,.slice none 0 0,.slice none 0 0] 31)).heap[w.heap.size+1]?=some (.cells #[↑v.authority,↑v.number,↑v.pos,↑v.prev,va,↑v.sel.index,v1,v2] 31 (0,0)):=by simp only [ZM,Dl,Ea];rw [Af oM,Ap trivial]
 have hblk2:(((w.alloc (.cells #[↑p1,↑p2] 93)).alloc (.cells #[↑v.authority,↑v.number,↑v.pos,↑v.prev,va,↑v.sel.index,v1,v2] 31)).alloc (.cells #[.int .i64 0,.int .i64 0,.int .i64 0,.string ⟨#[]⟩,.slice none 0 0,.int .i64 0,.slice none 0 0,.slice none 0 0] 31)).heap[w.heap.size+1+1]?=some (.cells #[.int .i64 0,.int .i64 0,.int .i64 0,.string ⟨#[]⟩,.slice none 0 0,.int .i64 0,.slice none 0 0,.slice none 0 0] 31 (0,0)):=by exact FD113
 have hsz:(((w.alloc (.cells #[↑p1,↑p2] 93)).alloc (.cells #[↑v.authority,↑v.number,↑v.pos,↑v.prev,va,↑v.sel.index,v1,v2] 31)).alloc (.cells #[.int .i64 0,.int .i64 0,.int .i64 0,.string ⟨#[]⟩,.slice none 0 0,.int .i64 0,.slice none 0 0,.slice none 0 0] 31)).heap.size=w.heap.size+3:=sM;generalize ((w.alloc (.cells #[↑p1,↑p2] 93)).alloc (.cells #[↑v.authority,↑v.number,↑v.pos,↑v.prev,va,↑v.sel.index,v1,v2] 31)).alloc (.cells #[.int .i64 0,.int .i64 0,.int .i64 0,.string ⟨#[]⟩,.slice none 0 0,.int .i64 0,.slice none 0 0,.slice none 0 0] 31)=W0 at *;have SS:∀ W',Below W0 W0 W'->W'.cell? ⟨c,o,none⟩=some (.map (some r))/\W'.cell? ⟨w,0,none⟩=some ↑p1/\W'.cell? ⟨w,1,none⟩=some ↑p2/\(Instr.lookup 76 (.map (some r)) (.agg #[↑p1,↑p2]) true).run prog W'=_:=fun W' hb =>⟨((hB0.trans (hb.mono hB0.size)).cell (p:=⟨c,o,none⟩) iw).trans hc,(hb.cell (p:=⟨w,0,none⟩) (by show w.heap.size<_;omega)).trans (Ab hblk 0),(hb.cell (p:=⟨w,1,none⟩) (by show w.heap.size<_;omega)).trans (Ab hblk 1),L W' (hB0.trans (hb.mono hB0.size))⟩
 have hBd:Below W0 W0 W0.drew:=(Ac _ W0).drew;clear L;go_region_held3 (fun W'=>W'.cell? ⟨c,o,none⟩=some (.map (some r))/\W'.cell? ⟨w,0,none⟩=some ↑p1/\W'.cell? ⟨w,1,none⟩=some ↑p2/\(Instr.lookup 76 (.map (some r)) (.agg #[↑p1,↑p2]) true).run prog W'=.ok (.tuple #[.agg #[.int .i64 0,.int .i64 0,.int .i64 0,.string ⟨#[]⟩,.slice none 0 0,.int .i64 0,.slice none 0 0,.slice none 0 0],.bool false]) W') ((refine SS _ ?_;repeat (first|exact hBd|exact Ac _ _|refine Gu ?_|refine Ez ?_ (by simp <;> omega) _|refine Fp ?_ (by simp <;> omega) _))) (first|fail);all_goals
  have hBX:Below W0 W0 (W0.alloc (.cells #[.int .i64 0,.int .i64 0,.int .i64 0,.string ⟨#[]⟩,.slice none 0 0,.int .i64 0,.slice none 0 0,.slice none 0 0] 31)).drew:=((Ac _ W0).alloc nR _).drew;have hrX:(W0.alloc (.cells #[.int .i64 0,.int .i64 0,.int .i64 0,.string ⟨#[]⟩,.slice none 0 0,.int .i64 0,.slice none 0 0,.slice none 0 0] 31)).drew.rangeAt (w.heap.size+3) 0 [.int .i64 0,.int .i64 0,.int .i64 0,.string ⟨#[]⟩,.slice none 0 0,.int .i64 0,.slice none 0 0,.slice none 0 0]:=by rw [<- hsz];exact fun j u hj=>B7 W0 [.int .i64 0,.int .i64 0,.int .i64 0,.string ⟨#[]⟩,.slice none 0 0,.int .i64 0,.slice none 0 0,.slice none 0 0] 31 j u hj
  have hth:(W0.alloc (.cells #[.int .i64 0,.int .i64 0,.int .i64 0,.string ⟨#[]⟩,.slice none 0 0,.int .i64 0,.slice none 0 0,.slice none 0 0] 31)).drew.there (w.heap.size+1+1) 0 8:=fun j hj=>by have h2:=(hBX.block (w+1+1) oM).trans hblk2;refine⟨?_,Bi h2 _⟩;rw [Bh,Ab h2 j];rcases (oM:j=0\/j=1\/j=2\/j=3\/j=4\/j=5\/j=6\/j=7) with rfl|rfl|rfl|rfl|rfl|rfl|rfl|rfl <;> rfl
  have hi8:(prog.info? 31).map (·.size)=some 8:=kR;have hall:(#[.int .i64 0,.int .i64 0,.int .i64 0,.string ⟨#[]⟩,.slice none 0 0,.int .i64 0,.slice none 0 0,.slice none 0 0]:Array ZC).all (·.oneCell')=true:=F9 (cs:=[.int .i64 0,.int .i64 0,.int .i64 0,.string ⟨#[]⟩,.slice none 0 0,.int .i64 0,.slice none 0 0,.slice none 0 0]) (by intro u hu;simp only [A8,Bc,Dj] at hu;rcases hu with rfl|rfl|rfl|rfl|rfl|rfl|rfl|rfl <;> rfl);have hBw:=hB0.trans (hBX.mono hB0.size);obtain⟨s1,s2,s3,_⟩:=SS _ hBX;have gX:=(hBX.block (w+1) oM).trans hblk1;have uJ:=(hBX.block (w+1+1) oM).trans hblk2;have hUP:=UP _ hBw.drew;have hmX:=hm.below hBw;clear SS hBd hBX hblk hblk1 hblk2 UP hm;generalize (W0.alloc (.cells #[.int .i64 0,.int .i64 0,.int .i64 0,.string ⟨#[]⟩,.slice none 0 0,.int .i64 0,.slice none 0 0,.slice none 0 0] 31)).drew=X at *;have hrF:=Aa (Ee X (w+1+1) 0 [.int .i64 0,.int .i64 0,.int .i64 0,.string ⟨#[]⟩,.slice none 0 0,.int .i64 0,.slice none 0 0,.slice none 0 0] hth);have hBF:=Aa (Cy (b:=w.heap.size+1+1) hBw oM [.int .i64 0,.int .i64 0,.int .i64 0,.string ⟨#[]⟩,.slice none 0 0,.int .i64 0,.slice none 0 0,.slice none 0 0] 0);replace hrX:=Aa hrX;replace hth:=Aa hth;replace hall:=Aa hall;simp only [Exit.then];refine hK _ _ ?_;clear hK;go_wp2_with fail;obtain⟨ob,u1,u2,_⟩:=hUP;have SX:∀ W',Cells X W'->W'.cell? ⟨c,o,none⟩=some (.map (some r))/\W'.cell? ⟨w,0,none⟩=some ↑p1/\W'.cell? ⟨w,1,none⟩=some ↑p2/\W'.cell? ⟨w+1,0,none⟩=some ↑v.authority/\W'.cell? ⟨w+1,1,none⟩=some ↑v.number/\W'.cell? ⟨w+1,2,none⟩=some ↑v.pos/\W'.cell? ⟨w+1,3,none⟩=some ↑v.prev/\W'.cell? ⟨w+1,4,none⟩=some va/\W'.cell? ⟨w+1,5,none⟩=some ↑v.sel.index/\W'.cell? ⟨w+1,6,none⟩=some v1/\W'.cell? ⟨w+1,7,none⟩=some v2:=fun W' hb=>⟨hb _ _ s1,hb _ _ s2,hb _ _ s3,hb _ _ (Ab gX 0),hb _ _ (Ab gX 1),hb _ _ (Ab gX 2),hb _ _ (Ab gX 3),hb _ _ (Ab gX 4),hb _ _ (Ab gX 5),hb _ _ (Ab gX 6),hb _ _ (Ab gX 7)⟩
  have hBd:Below X X X.drew:=(Ac _ X).drew;have hHX:Held [r] X (X.drew.putObj r ob):=⟨hBd.os,hBd.tape,hBd.output,by simp [World.putObj],fun k hk hr=>(World.putObj_heap_other (by simpa using hr)).trans (hBd.block k hk)⟩
  have hcp:Cells X (X.drew.putObj r ob):=hHX.cells (fun q hq=>by cases Bv.1 hq;obtain⟨es,ck,e,_⟩:=hmX;exact⟨es,ck,e⟩);have hcd:Cells X X.drew:=Cells.of_below hBd;have hcr:Cells X X:=fun _ _ h=>h;go_region_held3 (fun W'=>W'.cell? ⟨c,o,none⟩=some (.map (some r))/\W'.cell? ⟨w,0,none⟩=some ↑p1/\W'.cell? ⟨w,1,none⟩=some ↑p2/\W'.cell? ⟨w+1,0,none⟩=some ↑v.authority/\W'.cell? ⟨w+1,1,none⟩=some ↑v.number/\W'.cell? ⟨w+1,2,none⟩=some ↑v.pos/\W'.cell? ⟨w+1,3,none⟩=some ↑v.prev/\W'.cell? ⟨w+1,4,none⟩=some va/\W'.cell? ⟨w+1,5,none⟩=some ↑v.sel.index/\W'.cell? ⟨w+1,6,none⟩=some v1/\W'.cell? ⟨w+1,7,none⟩=some v2) ((refine SX _ ?_;first|exact hcp|exact hcd|exact hcr)) (first|fail);have hXs:w.heap.size<=X.heap.size:=hBw.size;have xK:=(hHX.block (w+1) (aZ gX) (by simp;omega)).trans gX;have uI:=(hHX.block (w+1+1) (aZ uJ) (by simp;omega)).trans uJ;clear SX hBd hcp hcd hcr u1 hmX hth hrX hrF hBF hall;have hrY:(X.drew.putObj r ob).rangeAt (w.heap.size+1) 0 [↑v.authority,↑v.number,↑v.pos,↑v.prev,va,↑v.sel.index,v1,v2]:=fun j u hj=>by rw [Bh,Ab xK j];simpa using hj
  have pV:(X.drew.putObj r ob).there (w.heap.size+1+1) 0 8:=fun j hj=>by refine⟨?_,Bi uI _⟩;rw [Bh,Ab uI j];rcases (oM:j=0\/j=1\/j=2\/j=3\/j=4\/j=5\/j=6\/j=7) with rfl|rfl|rfl|rfl|rfl|rfl|rfl|rfl <;> rfl
  generalize X.drew.putObj r ob=Y at *;have hrF:=Aa (Ee Y (w+1+1) 0 [↑v.authority,↑v.number,↑v.pos,↑v.prev,va,↑v.sel.index,v1,v2] pV);have hBF:=Aa (Cy (b:=w.heap.size+1+1) (Ac w Y) oM [↑v.authority,↑v.number,↑v.pos,↑v.prev,va,↑v.sel.index,v1,v2] 0);have hall:=Aa (F9 hoc.out);replace hrY:=Aa hrY;replace pV:=Aa pV;go_wp2_with (refine Bf rfl 31 _ rfl (w+1) 0 rfl [↑v.authority,↑v.number,↑v.pos,↑v.prev,va,↑v.sel.index,v1,v2] _ hrY.out underlying31 rfl hi8 ?_;refine Hg rfl 31 _ _ rfl (w+1+1) 0 #[↑v.authority,↑v.number,↑v.pos,↑v.prev,va,↑v.sel.index,v1,v2] rfl rfl pV.out hi8 hall.out ?_)
  refine Ah (G0 rfl _ _ ⟨w+1+1,0,none⟩ _ rfl (G7 _ (w+1+1) 0 31 [↑v.authority,↑v.number,↑v.pos,↑v.prev,va,↑v.sel.index,v1,v2] _ hrF.out underlying31 rfl hi8)) rfl ?_;refine⟨rfl,⟨hBF.out.os.trans (hHX.os.trans hBw.os),hBF.out.tape.trans (hHX.tape.trans hBw.tape),hBF.out.output.trans (hHX.output.trans hBw.output),Ag hBw.size (Ag hHX.size hBF.out.size),fun k hk hr=>(hBF.out.block k hk).trans ((hHX.block k (Ai hk hXs) hr).trans (hBw.block k hk))⟩,?_⟩;obtain⟨es,ck,e1,e2⟩:=u2;exact⟨es,ck,(hBF.out.block r uj).trans e1,e2⟩
theorem C10 (c o r:Nat) (p:Int × Int) (v vv:CH.Version) (va v1 v2 vb v3 v4:ZC) (kvs:List ((Int × Int) × ZC)) (w:ZB) (hc:w.cell? ⟨c,o,none⟩=some (.map (some r))) (hm:Cp Bk r w kvs) (hf:Ch p kvs 0=none) (hoc:∀ u∈([↑v.authority,↑v.number,↑v.pos,↑v.prev,va,↑v.sel.index,v1,v2,↑vv.authority,↑vv.number,↑vv.pos,↑vv.prev,vb,↑vv.sel.index,v3,v4]:List ZC),u.oneCell'=true) : ZE prog 36 #[.pointer (some ⟨c,o,none⟩),Bk p,.agg #[↑v.authority,↑v.number,↑v.pos,↑v.prev,va,↑v.sel.index,v1,v2,↑vv.authority,↑vv.number,↑vv.pos,↑vv.prev,vb,↑vv.sel.index,v3,v4]] w (Map w r p (.agg #[↑v.authority,↑v.number,↑v.pos,↑v.prev,va,↑v.sel.index,v1,v2,↑vv.authority,↑vv.number,↑vv.pos,↑vv.prev,vb,↑vv.sel.index,v3,v4]) kvs):=by
 have L:=fun (W:ZB) (hb:Below w w W)=>L0 underlying79 _ Xd (hm.below hb) p;simp only [hf,Nr,Nl,Option.isSome_none] at L;have UP:=fun (W:ZB) (hb:Below w w W)=>Qs underlying79 (hm.below hb) p (.agg #[↑v.authority,↑v.number,↑v.pos,↑v.prev,va,↑v.sel.index,v1,v2,↑vv.authority,↑vv.number,↑vv.pos,↑vv.prev,vb,↑vv.sel.index,v3,v4]) hf;obtain⟨p1,p2⟩:=p;replace hoc:=Aa hoc;have uj:=hm.lt;dsimp only [Bk] at *;have iw:=Ef w _ hc;go_enter func36,ntmps36;go_wp2_with fail;rename_i K hK;have hB0:Below w w (((w.alloc (.cells #[↑p1,↑p2] 93)).alloc (.cells #[↑v.authority,↑v.number,↑v.pos,↑v.prev,va,↑v.sel.index,v1,v2,↑vv.authority,↑vv.number,↑vv.pos,↑vv.prev,vb,↑vv.sel.index,v3,v4] 84)).alloc (.cells #[.int .i64 0,.int .i64 0,.int .i64 0,.string ⟨#[]⟩,.slice none 0 0,.int .i64 0,.slice none 0 0,.slice none 0 0,.int .i64 0,.int .i64 0,.int .i64 0,.string ⟨#[]⟩,.slice none 0 0,.int .i64 0,.slice none 0 0,.slice none 0 0] 84)):=(((Ac _ w).alloc nR _).alloc sM _).alloc (by simp;omega) _;have hblk:(((w.alloc (.cells #[↑p1,↑p2] 93)).alloc (.cells #[↑v.authority,↑v.number,↑v.pos,↑v.prev,va,↑v.sel.index,v1,v2,↑vv.authority,↑vv.number,↑vv.pos,↑vv.prev,vb,↑vv.sel.index,v3,v4] 84)).alloc (.cells #[.int .i64 0,.int .i64 0,.int .i64 0,.string ⟨#[]⟩,.slice none 0 0,.int .i64 0,.slice none 0 0,.slice none 0 0,.int .i64 0,.int .i64 0,.int .i64 0,.string ⟨#[]⟩,.slice none 0 0,.int .i64 0,.slice none 0 0,.slice none 0 0] 84)).heap[w.heap.size]?=some (.cells #[↑p1,↑p2] 93 (0,0)):=by exact FD84
 have hblk1:(((w.alloc (.cells #[↑p1,↑p2] 93)).alloc (.cells #[↑v.authority,↑v.number,↑v.pos,↑v.prev,va,↑v.sel.index,v1,v2,↑vv.authority,↑vv.number,↑vv.pos,↑vv.prev,vb,↑vv.sel.index,v3,v4] 84)).alloc (.cells #[.int .i64 0,.int .i64 0,.int .i64 0,.string ⟨#[]⟩,.slice none 0 0,.int .i64 0,.slice none 0 0,.slice none 0 0,.int .i64 0,.int .i64 0,.int .i64 0,.string ⟨#[]⟩,.slice none 0 0,.int .i64 0,.slice none 0 0,.slice none 0 0] 84)).heap[w.heap.size+1]?=some (.cells #[↑v.authority,↑v.number,↑v.pos,↑v.prev,va,↑v.sel.index,v1,v2,↑vv.authority,↑vv.number,↑vv.pos,↑vv.prev,vb,↑vv.sel.index,v3,v4] 84 (0,0)):=by simp only [ZM,Dl,Ea];rw [Af oM,Ap trivial]
 have hblk2:(((w.alloc (.cells #[↑p1,↑p2] 93)).alloc (.cells #[↑v.authority,↑v.number,↑v.pos,↑v.prev,va,↑v.sel.index,v1,v2,↑vv.authority,↑vv.number,↑vv.pos,↑vv.prev,vb,↑vv.sel.index,v3,v4] 84)).alloc (.cells #[.int .i64 0,.int .i64 0,.int .i64 0,.string ⟨#[]⟩,.slice none 0 0,.int .i64 0,.slice none 0 0,.slice none 0 0,.int .i64 0,.int .i64 0,.int .i64 0,.string ⟨#[]⟩,.slice none 0 0,.int .i64 0,.slice none 0 0,.slice none 0 0] 84)).heap[w.heap.size+1+1]?=some (.cells #[.int .i64 0,.int .i64 0,.int .i64 0,.string ⟨#[]⟩,.slice none 0 0,.int .i64 0,.slice none 0 0,.slice none 0 0,.int .i64 0,.int .i64 0,.int .i64 0,.string ⟨#[]⟩,.slice none 0 0,.int .i64 0,.slice none 0 0,.slice none 0 0] 84 (0,0)):=by exact FD113
 have hsz:(((w.alloc (.cells #[↑p1,↑p2] 93)).alloc (.cells #[↑v.authority,↑v.number,↑v.pos,↑v.prev,va,↑v.sel.index,v1,v2,↑vv.authority,↑vv.number,↑vv.pos,↑vv.prev,vb,↑vv.sel.index,v3,v4] 84)).alloc (.cells #[.int .i64 0,.int .i64 0,.int .i64 0,.string ⟨#[]⟩,.slice none 0 0,.int .i64 0,.slice none 0 0,.slice none 0 0,.int .i64 0,.int .i64 0,.int .i64 0,.string ⟨#[]⟩,.slice none 0 0,.int .i64 0,.slice none 0 0,.slice none 0 0] 84)).heap.size=w.heap.size+3:=sM;generalize ((w.alloc (.cells #[↑p1,↑p2] 93)).alloc (.cells #[↑v.authority,↑v.number,↑v.pos,↑v.prev,va,↑v.sel.index,v1,v2,↑vv.authority,↑vv.number,↑vv.pos,↑vv.prev,vb,↑vv.sel.index,v3,v4] 84)).alloc (.cells #[.int .i64 0,.int .i64 0,.int .i64 0,.string ⟨#[]⟩,.slice none 0 0,.int .i64 0,.slice none 0 0,.slice none 0 0,.int .i64 0,.int .i64 0,.int .i64 0,.string ⟨#[]⟩,.slice none 0 0,.int .i64 0,.slice none 0 0,.slice none 0 0] 84)=W0 at *;have SS:∀ W',Below W0 W0 W'->W'.cell? ⟨c,o,none⟩=some (.map (some r))/\W'.cell? ⟨w,0,none⟩=some ↑p1/\W'.cell? ⟨w,1,none⟩=some ↑p2/\(Instr.lookup 79 (.map (some r)) (.agg #[↑p1,↑p2]) true).run prog W'=_:=fun W' hb =>⟨((hB0.trans (hb.mono hB0.size)).cell (p:=⟨c,o,none⟩) iw).trans hc,(hb.cell (p:=⟨w,0,none⟩) (by show w.heap.size<_;omega)).trans (Ab hblk 0),(hb.cell (p:=⟨w,1,none⟩) (by show w.heap.size<_;omega)).trans (Ab hblk 1),L W' (hB0.trans (hb.mono hB0.size))⟩
 have hBd:Below W0 W0 W0.drew:=(Ac _ W0).drew;clear L;go_region_held3 (fun W'=>W'.cell? ⟨c,o,none⟩=some (.map (some r))/\W'.cell? ⟨w,0,none⟩=some ↑p1/\W'.cell? ⟨w,1,none⟩=some ↑p2/\(Instr.lookup 79 (.map (some r)) (.agg #[↑p1,↑p2]) true).run prog W'=.ok (.tuple #[.agg #[.int .i64 0,.int .i64 0,.int .i64 0,.string ⟨#[]⟩,.slice none 0 0,.int .i64 0,.slice none 0 0,.slice none 0 0,.int .i64 0,.int .i64 0,.int .i64 0,.string ⟨#[]⟩,.slice none 0 0,.int .i64 0,.slice none 0 0,.slice none 0 0],.bool false]) W') ((refine SS _ ?_;repeat (first|exact hBd|exact Ac _ _|refine Gu ?_|refine Ez ?_ (by simp <;> omega) _|refine Fp ?_ (by simp <;> omega) _))) (first|fail);all_goals
  have hBX:Below W0 W0 (W0.alloc (.cells #[.int .i64 0,.int .i64 0,.int .i64 0,.string ⟨#[]⟩,.slice none 0 0,.int .i64 0,.slice none 0 0,.slice none 0 0,.int .i64 0,.int .i64 0,.int .i64 0,.string ⟨#[]⟩,.slice none 0 0,.int .i64 0,.slice none 0 0,.slice none 0 0] 84)).drew:=((Ac _ W0).alloc nR _).drew;have hrX:(W0.alloc (.cells #[.int .i64 0,.int .i64 0,.int .i64 0,.string ⟨#[]⟩,.slice none 0 0,.int .i64 0,.slice none 0 0,.slice none 0 0,.int .i64 0,.int .i64 0,.int .i64 0,.string ⟨#[]⟩,.slice none 0 0,.int .i64 0,.slice none 0 0,.slice none 0 0] 84)).drew.rangeAt (w.heap.size+3) 0 [.int .i64 0,.int .i64 0,.int .i64 0,.string ⟨#[]⟩,.slice none 0 0,.int .i64 0,.slice none 0 0,.slice none 0 0,.int .i64 0,.int .i64 0,.int .i64 0,.string ⟨#[]⟩,.slice none 0 0,.int .i64 0,.slice none 0 0,.slice none 0 0]:=by rw [<- hsz];exact fun j u hj=>B7 W0 [.int .i64 0,.int .i64 0,.int .i64 0,.string ⟨#[]⟩,.slice none 0 0,.int .i64 0,.slice none 0 0,.slice none 0 0,.int .i64 0,.int .i64 0,.int .i64 0,.string ⟨#[]⟩,.slice none 0 0,.int .i64 0,.slice none 0 0,.slice none 0 0] 84 j u hj
  have hth:(W0.alloc (.cells #[.int .i64 0,.int .i64 0,.int .i64 0,.string ⟨#[]⟩,.slice none 0 0,.int .i64 0,.slice none 0 0,.slice none 0 0,.int .i64 0,.int .i64 0,.int .i64 0,.string ⟨#[]⟩,.slice none 0 0,.int .i64 0,.slice none 0 0,.slice none 0 0] 84)).drew.there (w.heap.size+1+1) 0 16:=fun j hj=>by have h2:=(hBX.block (w+1+1) oM).trans hblk2;refine⟨?_,Bi h2 _⟩;rw [Bh,Ab h2 j];rcases (oM:j=0\/j=1\/j=2\/j=3\/j=4\/j=5\/j=6\/j=7\/j=8\/j=9\/j=10\/j=11\/j=12\/j=13\/j=14\/j=15) with rfl|rfl|rfl|rfl|rfl|rfl|rfl|rfl|rfl|rfl|rfl|rfl|rfl|rfl|rfl|rfl <;> rfl
  have hi8:(prog.info? 84).map (·.size)=some 16:=kR;have hall:(#[.int .i64 0,.int .i64 0,.int .i64 0,.string ⟨#[]⟩,.slice none 0 0,.int .i64 0,.slice none 0 0,.slice none 0 0,.int .i64 0,.int .i64 0,.int .i64 0,.string ⟨#[]⟩,.slice none 0 0,.int .i64 0,.slice none 0 0,.slice none 0 0]:Array ZC).all (·.oneCell')=true:=F9 (cs:=[.int .i64 0,.int .i64 0,.int .i64 0,.string ⟨#[]⟩,.slice none 0 0,.int .i64 0,.slice none 0 0,.slice none 0 0,.int .i64 0,.int .i64 0,.int .i64 0,.string ⟨#[]⟩,.slice none 0 0,.int .i64 0,.slice none 0 0,.slice none 0 0]) (by intro u hu;simp only [A8,Bc,Dj] at hu;rcases hu with rfl|rfl|rfl|rfl|rfl|rfl|rfl|rfl|rfl|rfl|rfl|rfl|rfl|rfl|rfl|rfl <;> rfl);have hBw:=hB0.trans (hBX.mono hB0.size);obtain⟨s1,s2,s3,_⟩:=SS _ hBX;have gX:=(hBX.block (w+1) oM).trans hblk1;have uJ:=(hBX.block (w+1+1) oM).trans hblk2;have hUP:=UP _ hBw.drew;have hmX:=hm.below hBw;clear SS hBd hBX hblk hblk1 hblk2 UP hm;generalize (W0.alloc (.cells #[.int .i64 0,.int .i64 0,.int .i64 0,.string ⟨#[]⟩,.slice none 0 0,.int .i64 0,.slice none 0 0,.slice none 0 0,.int .i64 0,.int .i64 0,.int .i64 0,.string ⟨#[]⟩,.slice none 0 0,.int .i64 0,.slice none 0 0,.slice none 0 0] 84)).drew=X at *;have hrF:=Aa (Ee X (w+1+1) 0 [.int .i64 0,.int .i64 0,.int .i64 0,.string ⟨#[]⟩,.slice none 0 0,.int .i64 0,.slice none 0 0,.slice none 0 0,.int .i64 0,.int .i64 0,.int .i64 0,.string ⟨#[]⟩,.slice none 0 0,.int .i64 0,.slice none 0 0,.slice none 0 0] hth);have hBF:=Aa (Cy (b:=w.heap.size+1+1) hBw oM [.int .i64 0,.int .i64 0,.int .i64 0,.string ⟨#[]⟩,.slice none 0 0,.int .i64 0,.slice none 0 0,.slice none 0 0,.int .i64 0,.int .i64 0,.int .i64 0,.string ⟨#[]⟩,.slice none 0 0,.int .i64 0,.slice none 0 0,.slice none 0 0] 0);replace hrX:=Aa hrX;replace hth:=Aa hth;replace hall:=Aa hall;simp only [Exit.then];refine hK _ _ ?_;clear hK;go_wp2_with fail;obtain⟨ob,u1,u2,_⟩:=hUP;have SX:∀ W',Cells X W'->W'.cell? ⟨c,o,none⟩=some (.map (some r))/\W'.cell? ⟨w,0,none⟩=some ↑p1/\W'.cell? ⟨w,1,none⟩=some ↑p2/\W'.cell? ⟨w+1,0,none⟩=some ↑v.authority/\W'.cell? ⟨w+1,1,none⟩=some ↑v.number/\W'.cell? ⟨w+1,2,none⟩=some ↑v.pos/\W'.cell? ⟨w+1,3,none⟩=some ↑v.prev/\W'.cell? ⟨w+1,4,none⟩=some va/\W'.cell? ⟨w+1,5,none⟩=some ↑v.sel.index/\W'.cell? ⟨w+1,6,none⟩=some v1/\W'.cell? ⟨w+1,7,none⟩=some v2/\W'.cell? ⟨w+1,8,none⟩=some ↑vv.authority/\W'.cell? ⟨w+1,9,none⟩=some ↑vv.number/\W'.cell? ⟨w+1,10,none⟩=some ↑vv.pos/\W'.cell? ⟨w+1,11,none⟩=some ↑vv.prev/\W'.cell? ⟨w+1,12,none⟩=some vb/\W'.cell? ⟨w+1,13,none⟩=some ↑vv.sel.index/\W'.cell? ⟨w+1,14,none⟩=some v3/\W'.cell? ⟨w+1,15,none⟩=some v4:=fun W' hb=>⟨hb _ _ s1,hb _ _ s2,hb _ _ s3,hb _ _ (Ab gX 0),hb _ _ (Ab gX 1),hb _ _ (Ab gX 2),hb _ _ (Ab gX 3),hb _ _ (Ab gX 4),hb _ _ (Ab gX 5),hb _ _ (Ab gX 6),hb _ _ (Ab gX 7),hb _ _ (Ab gX 8),hb _ _ (Ab gX 9),hb _ _ (Ab gX 10),hb _ _ (Ab gX 11),hb _ _ (Ab gX 12),hb _ _ (Ab gX 13),hb _ _ (Ab gX 14),hb _ _ (Ab gX 15)⟩
  have hBd:Below X X X.drew:=(Ac _ X).drew;have hHX:Held [r] X (X.drew.putObj r ob):=⟨hBd.os,hBd.tape,hBd.output,by simp [World.putObj],fun k hk hr=>(World.putObj_heap_other (by simpa using hr)).trans (hBd.block k hk)⟩
  have hcp:Cells X (X.drew.putObj r ob):=hHX.cells (fun q hq=>by cases Bv.1 hq;obtain⟨es,ck,e,_⟩:=hmX;exact⟨es,ck,e⟩);have hcd:Cells X X.drew:=Cells.of_below hBd;have hcr:Cells X X:=fun _ _ h=>h;go_region_held3 (fun W'=>W'.cell? ⟨c,o,none⟩=some (.map (some r))/\W'.cell? ⟨w,0,none⟩=some ↑p1/\W'.cell? ⟨w,1,none⟩=some ↑p2/\W'.cell? ⟨w+1,0,none⟩=some ↑v.authority/\W'.cell? ⟨w+1,1,none⟩=some ↑v.number/\W'.cell? ⟨w+1,2,none⟩=some ↑v.pos/\W'.cell? ⟨w+1,3,none⟩=some ↑v.prev/\W'.cell? ⟨w+1,4,none⟩=some va/\W'.cell? ⟨w+1,5,none⟩=some ↑v.sel.index/\W'.cell? ⟨w+1,6,none⟩=some v1/\W'.cell? ⟨w+1,7,none⟩=some v2/\W'.cell? ⟨w+1,8,none⟩=some ↑vv.authority/\W'.cell? ⟨w+1,9,none⟩=some ↑vv.number/\W'.cell? ⟨w+1,10,none⟩=some ↑vv.pos/\W'.cell? ⟨w+1,11,none⟩=some ↑vv.prev/\W'.cell? ⟨w+1,12,none⟩=some vb/\W'.cell? ⟨w+1,13,none⟩=some ↑vv.sel.index/\W'.cell? ⟨w+1,14,none⟩=some v3/\W'.cell? ⟨w+1,15,none⟩=some v4) ((refine SX _ ?_;first|exact hcp|exact hcd|exact hcr)) (first|fail);have hXs:w.heap.size<=X.heap.size:=hBw.size;have xK:=(hHX.block (w+1) (aZ gX) (by simp;omega)).trans gX;have uI:=(hHX.block (w+1+1) (aZ uJ) (by simp;omega)).trans uJ;clear SX hBd hcp hcd hcr u1 hmX hth hrX hrF hBF hall;have hrY:(X.drew.putObj r ob).rangeAt (w.heap.size+1) 0 [↑v.authority,↑v.number,↑v.pos,↑v.prev,va,↑v.sel.index,v1,v2,↑vv.authority,↑vv.number,↑vv.pos,↑vv.prev,vb,↑vv.sel.index,v3,v4]:=fun j u hj=>by rw [Bh,Ab xK j];simpa using hj
  have pV:(X.drew.putObj r ob).there (w.heap.size+1+1) 0 16:=fun j hj=>by refine⟨?_,Bi uI _⟩;rw [Bh,Ab uI j];rcases (oM:j=0\/j=1\/j=2\/j=3\/j=4\/j=5\/j=6\/j=7\/j=8\/j=9\/j=10\/j=11\/j=12\/j=13\/j=14\/j=15) with rfl|rfl|rfl|rfl|rfl|rfl|rfl|rfl|rfl|rfl|rfl|rfl|rfl|rfl|rfl|rfl <;> rfl
  generalize X.drew.putObj r ob=Y at *;have hrF:=Aa (Ee Y (w+1+1) 0 [↑v.authority,↑v.number,↑v.pos,↑v.prev,va,↑v.sel.index,v1,v2,↑vv.authority,↑vv.number,↑vv.pos,↑vv.prev,vb,↑vv.sel.index,v3,v4] pV);have hBF:=Aa (Cy (b:=w.heap.size+1+1) (Ac w Y) oM [↑v.authority,↑v.number,↑v.pos,↑v.prev,va,↑v.sel.index,v1,v2,↑vv.authority,↑vv.number,↑vv.pos,↑vv.prev,vb,↑vv.sel.index,v3,v4] 0);have hall:=Aa (F9 hoc.out);replace hrY:=Aa hrY;replace pV:=Aa pV;go_wp2_with (refine Bf rfl 84 _ rfl (w+1) 0 rfl [↑v.authority,↑v.number,↑v.pos,↑v.prev,va,↑v.sel.index,v1,v2,↑vv.authority,↑vv.number,↑vv.pos,↑vv.prev,vb,↑vv.sel.index,v3,v4] _ hrY.out underlying84 rfl hi8 ?_;refine Hg rfl 84 _ _ rfl (w+1+1) 0 #[↑v.authority,↑v.number,↑v.pos,↑v.prev,va,↑v.sel.index,v1,v2,↑vv.authority,↑vv.number,↑vv.pos,↑vv.prev,vb,↑vv.sel.index,v3,v4] rfl rfl pV.out hi8 hall.out ?_)
  refine Ah (G0 rfl _ _ ⟨w+1+1,0,none⟩ _ rfl (G7 _ (w+1+1) 0 84 [↑v.authority,↑v.number,↑v.pos,↑v.prev,va,↑v.sel.index,v1,v2,↑vv.authority,↑vv.number,↑vv.pos,↑vv.prev,vb,↑vv.sel.index,v3,v4] _ hrF.out underlying84 rfl hi8)) rfl ?_;refine⟨rfl,⟨hBF.out.os.trans (hHX.os.trans hBw.os),hBF.out.tape.trans (hHX.tape.trans hBw.tape),hBF.out.output.trans (hHX.output.trans hBw.output),Ag hBw.size (Ag hHX.size hBF.out.size),fun k hk hr=>(hBF.out.block k hk).trans ((hHX.block k (Ai hk hXs) hr).trans (hBw.block k hk))⟩,?_⟩;obtain⟨es,ck,e1,e2⟩:=u2;exact⟨es,ck,(hBF.out.block r uj).trans e1,e2⟩
def eU (v:CH.Version) (key:List UInt8):Bool:=match dD v with
 |.error _=>false
 |.ok _=>v.sel.index==v.number - 1&&S4 key (CH.msg v) v.sel.index v.sel.sig v.sel.path
theorem Ub (v:CH.Version) (s:dA) (key:List UInt8) (w:ZB) (hG:Gc w) (h:aP w w v s) : ZE prog 34 #[.agg (Al v s).toArray,↑key] w (Ret w (.bool (eU v key))):=by
 obtain⟨R,hR⟩:∃ R,Hid (eU v key=R):=⟨_,Aa rfl⟩
 rw [hR.out];have hR1:=hR.out;unfold eU at hR1;have hB0:=fun o=>(Ac _ w).alloc nR o;have HV:=Aa fun (W:ZB) (hb:Below w w W)=>(h.below hb nR).mono hb.size;have T:=fun (W:ZB) (hb:Below w w W)=>Kh v s W (hG.below hb) (HV.out W hb);have M:=fun (W:ZB) (hb:Below w w W)=>Pe v s W (hG.below hb) (HV.out W hb);obtain⟨x,hx⟩:∃ x,dD v=x:=⟨_,rfl⟩
 have herr:∀ e,x=.error e->e≠0:=fun e he=>by rcases Sr (hx.trans he) with rfl|rfl <;> decide
 have hnum:∀ y,x=.ok y->1<=v.number/\v.number<=200:=fun y hy=>by obtain⟨u,hu⟩:=Vu (hx.trans hy);have:=M13 hu;omega
 simp only [Cnt] at M;have hml:=Mst v;generalize Htw (CH.message v)=me at M;generalize CH.msg v=mm at M hR1 hml;rw [hx] at hR1 T;have HS:=Aa h.small;have V:=fun (W:ZB) (hb:Below w w W)=>Geo key mm v.sel.index s.v1 s.v2 v.sel.sig v.sel.path W (hG.below hb).gl (Ag hml dC) (HV.out W hb).sig (HV.out W hb).path (fun l hl=>Ag (HS.out.sig.2 l hl) dC) (fun l hl=>Ag (HS.out.path.2 l hl) dC) HS.out.index;obtain⟨va,v1,v2⟩:=s;clear h hx hR;dsimp only [Al] at T M V ⊢;have T:=Aa T;have M:=Aa M;have V:=Aa V;go_enter func34,ntmps34;go_wp2_with fail;refine (T.out _ (hB0 _)).mono ?_;rintro e w1 ⟨rfl,hb1⟩;have hB1:Below w w w1:=(hB0 _).trans (hb1.mono sM);have hblk:=(hb1.block w sM).trans (Au w _);have hlt1:w.heap.size<w1.heap.size:=(aZ hblk)
 have k0:w1.cell? ⟨w,0,none⟩=some ↑v.authority:=Ab hblk 0;have k1:w1.cell? ⟨w,1,none⟩=some ↑v.number:=Ab hblk 1;have k2:w1.cell? ⟨w,2,none⟩=some ↑v.pos:=Ab hblk 2;have k3:w1.cell? ⟨w,3,none⟩=some ↑v.prev:=Ab hblk 3;have k4:w1.cell? ⟨w,4,none⟩=some va:=Ab hblk 4;have k5:w1.cell? ⟨w,5,none⟩=some ↑v.sel.index:=Ab hblk 5;have k6:w1.cell? ⟨w,6,none⟩=some v1:=Ab hblk 6;have k7:w1.cell? ⟨w,7,none⟩=some v2:=Ab hblk 7;clear T hb1;cases x with
 |error e =>
  dsimp only [Ow];dsimp only at hR1;have q:(e==0)=false:=by simpa using herr e rfl
  replace hR1:=Aa hR1;clear herr hnum hblk M V;go_wp2;go_ret;exact⟨by rw [<- hR1.out];rfl,hB1⟩
 |ok y =>
  have hn:=hnum y rfl;dsimp only [Ow];dsimp only at hR1;replace hR1:=Aa hR1;clear herr hnum;by_cases hi:v.sel.index=v.number - 1
  ·have q1:(v.sel.index==v.number - 1)=true:=by simpa using hi
   have hR2:Hid (S4 key mm v.sel.index v.sel.sig v.sel.path=R):=Aa (by rw [<- hR1.out,q1];rfl);clear hR1 hi;go_wp2_with fail;refine (M.out _ hB1).mono ?_;rintro e w2 ⟨rfl,hb2⟩;have hB2:Below w w w2:=hB1.trans (hb2.mono hB1.size);have hblk2:=(hb2.block w hlt1).trans hblk;have m5:w2.cell? ⟨w,5,none⟩=some ↑v.sel.index:=Ab hblk2 5;have m6:w2.cell? ⟨w,6,none⟩=some v1:=Ab hblk2 6;have m7:w2.cell? ⟨w,7,none⟩=some v2:=Ab hblk2 7;clear M k0 k1 k2 k3 k4 k5 k6 k7 hblk hblk2;go_wp2_with fail;refine (V.out _ hB2).mono ?_;rintro e w3 ⟨rfl,hb3⟩;clear V;go_wp2;go_ret;exact⟨by rw [<- hR2.out];rfl,hB2.trans (hb3.mono hB2.size)⟩
  ·have q1:(v.sel.index==v.number - 1)=false:=by simpa using hi
   have hR2:Hid (false=R):=Aa (by rw [<- hR1.out,q1];rfl);clear hR1 M V hblk;go_wp2;go_ret;exact⟨by rw [<- hR2.out];rfl,hB1⟩
end
section
open Go.Lib Go.Proofs.Tryz Go.RowKit Go.Shelf Go.Sort CH
abbrev tJ (keys:List (List UInt8)) (known:CH.Known) (forks:CH.Forks) (v:CH.Version):=gU eU keys known forks v
attribute [local irreducible] wpQuiet
def ou (B K:Nat) (w:ZB) (c r1 r2:Nat) (keys:List (List UInt8)) (x:Int × CH.Known × CH.Forks) (e:Ending) (w':ZB):Prop := e=.returned ↑x.1/\ChainIn B K w' c r1 r2 keys x.2.1 x.2.2/\Held [r1,r2] w w'
def Ifb (w:ZB) (c r1 r2:Nat) (keys:List (List UInt8)) (x:Int × CH.Known × CH.Forks) (e:Ending) (w':ZB):Prop := e=.returned ↑x.1/\De w' c r1 r2 keys x.2.1 x.2.2/\Held [r1,r2] w w'
theorem L4i (B0 K0:Nat) (c r1 r2:Nat) (keys:List (List UInt8)) (known:CH.Known) (forks:CH.Forks) (v:CH.Version) (s:dA) (w:ZB) (hG:Gc w) (hC:ChainIn B0 K0 w c r1 r2 keys known forks) (hv0:aP B0 w v s) (er:Int) (ht:dD v=.error er) : ZE prog 15 #[.pointer (some ⟨c,0,none⟩),.agg (Al v s).toArray] w (ou B0 K0 w c r1 r2 keys (1,known,forks)):=by
 have hv:=hv0.mono hC.le;replace hv0:=Aa hv0;have hB0:=fun o=>(Ac _ w).alloc nR o;have T:=fun (W:ZB) (hb:Below w w W)=>Kh v s W (hG.below hb) ((hv.below hb nR).mono hb.size);rw [ht] at T;have herr:=Sr ht;obtain⟨va,v1,v2⟩:=s;dsimp only [Al,Ow] at T ⊢;have HC:=Aa hC;clear ht hC hv;rcases herr with rfl|rfl;all_goals
  have T:=Aa T;go_enter func15,ntmps15;go_wp2_with fail;refine (T.out _ (hB0 _)).mono ?_;rintro e w1 ⟨rfl,hb1⟩;have hB1:Below w w w1:=(hB0 _).trans (hb1.mono sM);clear T hb1;go_wp2_with fail;refine Ba kR kR ?_;repeat (quiet_step (fail))
  refine Cj ?_;intro wq hbq;replace hbq:=As hbq;go_wp2;go_ret;have hB2:=hB1.trans (hbq.mono hB1.size);exact⟨rfl,HC.out.grow hB2,Held.of_below hB2⟩
theorem L64 (B0 K0:Nat) (c r1 r2:Nat) (keys:List (List UInt8)) (known:CH.Known) (forks:CH.Forks) (v:CH.Version) (s:dA) (w:ZB) (hG:Gc w) (hC:ChainIn B0 K0 w c r1 r2 keys known forks) (hv0:aP B0 w v s) (t:List UInt8) (ht:dD v=.ok t) (ha:(keys.length:Int)<=v.authority) : ZE prog 15 #[.pointer (some ⟨c,0,none⟩),.agg (Al v s).toArray] w (ou B0 K0 w c r1 r2 keys (1,known,forks)):=by
 have hv:=hv0.mono hC.le;replace hv0:=Aa hv0;have hB0:=fun o=>(Ac _ w).alloc nR o;have T:=fun (W:ZB) (hb:Below w w W)=>Kh v s W (hG.below hb) ((hv.below hb nR).mono hb.size);rw [ht] at T;obtain⟨va,v1,v2⟩:=s;dsimp only [Al,Ow] at T ⊢;have T:=Aa T;have HC:=Aa hC;obtain⟨vk,gI,hks⟩:=hC.ex;obtain⟨ak,ck,rfl,_,_⟩:=hks.form;have iw:c<w.heap.size:=(aZ gI)
 generalize keys.length=N at *;have q:ZH ((N:Int)<=v.authority)=true:=Ak ha;clear ht hC hv hks;replace gI:=Aa gI;go_enter func15,ntmps15;go_wp2_with fail;refine (T.out _ (hB0 _)).mono ?_;rintro e w1 ⟨rfl,hb1⟩;have hB1:Below w w w1:=(hB0 _).trans (hb1.mono sM);have hblk:=(hb1.block w sM).trans (Au w _);have hlt1:w.heap.size<w1.heap.size:=(aZ hblk)
 have k0:w1.cell? ⟨w,0,none⟩=some ↑v.authority:=Ab hblk 0;have kc:w1.cell? ⟨c,0,none⟩=some (.slice ak N ck):=Ab ((hB1.block c iw).trans gI.out) 0;have g0:∀ (d:Nat) (os:Array Obj),(grow (ZI w1 d) os).cell? ⟨w,0,none⟩=some ↑v.authority:=Ae k0;have gc:∀ (d:Nat) (os:Array Obj),(grow (ZI w1 d) os).cell? ⟨c,0,none⟩=some (.slice ak N ck):=Ae kc;clear T hb1 hblk k0 kc;go_wp2_with fail;refine Ba kR kR ?_;repeat (quiet_step (fail))
 refine Cj ?_;intro wq hbq;replace hbq:=As hbq;clear g0 gc;go_wp2;go_ret;have hB2:=hB1.trans (hbq.mono hB1.size);exact⟨rfl,HC.out.grow hB2,Held.of_below hB2⟩
end
section
open Go.Lib Go.Proofs.Tryz Go.RowKit Go.Shelf Go.Sort CH
attribute [local irreducible] wpQuiet
theorem M2a (B0 K0:Nat) (c r1 r2:Nat) (keys:List (List UInt8)) (known:CH.Known) (forks:CH.Forks) (v:CH.Version) (s:dA) (w:ZB) (hG:Gc w) (hC:ChainIn B0 K0 w c r1 r2 keys known forks) (hv0:aP B0 w v s) (t:List UInt8) (ht:dD v=.ok t) (ha:v.authority<(keys.length:Int)) (hk:eU v (keys.getD v.authority.toNat [])=false) : ZE prog 15 #[.pointer (some ⟨c,0,none⟩),.agg (Al v s).toArray] w (ou B0 K0 w c r1 r2 keys (16,known,forks)):=by
 have hv:=hv0.mono hC.le;replace hv0:=Aa hv0;have hn:=jH ht;have hB0:=fun o=>(Ac _ w).alloc nR o;have HV:=Aa fun (W:ZB) (hb:Below w w W)=>(hv.below hb nR).mono hb.size;have T:=fun (W:ZB) (hb:Below w w W)=>Kh v s W (hG.below hb) (HV.out W hb);rw [ht] at T;obtain⟨vk,gI,hks⟩:=hC.ex;obtain⟨ak,ck,rfl,_,_,hks⟩:=hks;obtain⟨A,hA⟩:∃ A:Nat,v.authority=A:=⟨v.authority.toNat,oM⟩
 have hAt:v.authority.toNat=A:=oM;rw [hAt] at hk;rw [hA] at ha;have hAl:A<keys.length:=oM;obtain⟨key,hkey⟩:∃ key,keys[A]?=some key:=⟨_,Ad hAl⟩
 have hgd:keys.getD A []=key:=by simp [hkey]
 rw [hgd] at hk;obtain⟨bk,ok,rfl,hbk,hkc⟩:=hks (fun e=>by rw [e] at hAl;simp at hAl);have hkc:=hkc A key hkey;have C:=fun (W:ZB) (hb:Below w w W)=>Ub v s key W (hG.below hb) (HV.out W hb);rw [hk] at C;obtain⟨va,v1,v2⟩:=s;dsimp only [Al,Ow] at T C ⊢;rw [hA] at T C ⊢;have T:=Aa T;have C:=Aa C;have HC:=Aa hC;have iw:c<w.heap.size:=(aZ gI)
 have HS:=Aa hv.small;have hAt:=Aa hAt;have hA:=Aa hA;generalize keys.length=N at *;have q:ZH ((N:Int)<=(A:Int))=false:=by simp;omega
 have z0:(0:Int)<=(A:Int):=oM;have zA:((A:Int)).toNat=A:=oM;have ha':(A:Int)<(N:Int):=oM;clear hC hv hks hkey hgd hk hn;replace gI:=Aa gI;replace ht:=Aa ht;go_enter func15,ntmps15;go_wp2_with fail;refine (T.out _ (hB0 _)).mono ?_;rintro e w1 ⟨rfl,hb1⟩;have hB1:Below w w w1:=(hB0 _).trans (hb1.mono sM);have hblk:=(hb1.block w sM).trans (Au w _);have hlt1:w.heap.size<w1.heap.size:=(aZ hblk)
 have k0:w1.cell? ⟨w,0,none⟩=some ↑A:=Ab hblk 0;have kc:w1.cell? ⟨c,0,none⟩=some (.slice (some ⟨bk,ok,none⟩) N ck):=Ab ((hB1.block c iw).trans gI.out) 0;have g0:∀ (d:Nat) (os:Array Obj),(grow (ZI w1 d) os).cell? ⟨w,0,none⟩=some ↑A:=Ae k0;have gc:∀ (d:Nat) (os:Array Obj),(grow (ZI w1 d) os).cell? ⟨c,0,none⟩=some (.slice (some ⟨bk,ok,none⟩) N ck):=Ae kc;clear T hb1 k0 kc;go_wp2_with fail;refine Ba kR kR ?_;repeat (quiet_step (fail))
 refine Cj ?_;intro wq hbq;replace hbq:=As hbq;clear g0 gc;have hB2:=hB1.trans (hbq.mono hB1.size);replace hblk:=(hbq.block w hlt1).trans hblk;have hlt2:w.heap.size<wq.heap.size:=(aZ hblk)
 clear hbq;have C2:=Aa fun (W:ZB) (hb:Below wq wq W)=>C.out W (hB2.trans (hb.mono hB2.size));obtain⟨X,hX⟩:∃ X,X=wq:=⟨_,rfl⟩
 rw [<- hX] at hB2 hblk hlt2 C2 ⊢;have g0:∀ (d:Nat) (os:Array Obj),(grow (ZI X d) os).cell? ⟨w,0,none⟩=some ↑A:=Ae (Ab hblk 0);have g1:∀ (d:Nat) (os:Array Obj),(grow (ZI X d) os).cell? ⟨w,1,none⟩=some ↑v.number:=Ae (Ab hblk 1);have g2:∀ (d:Nat) (os:Array Obj),(grow (ZI X d) os).cell? ⟨w,2,none⟩=some ↑v.pos:=Ae (Ab hblk 2);have g3:∀ (d:Nat) (os:Array Obj),(grow (ZI X d) os).cell? ⟨w,3,none⟩=some ↑v.prev:=Ae (Ab hblk 3);have g4:∀ (d:Nat) (os:Array Obj),(grow (ZI X d) os).cell? ⟨w,4,none⟩=some va:=Ae (Ab hblk 4);have g5:∀ (d:Nat) (os:Array Obj),(grow (ZI X d) os).cell? ⟨w,5,none⟩=some ↑v.sel.index:=Ae (Ab hblk 5);have g6:∀ (d:Nat) (os:Array Obj),(grow (ZI X d) os).cell? ⟨w,6,none⟩=some v1:=Ae (Ab hblk 6);have g7:∀ (d:Nat) (os:Array Obj),(grow (ZI X d) os).cell? ⟨w,7,none⟩=some v2:=Ae (Ab hblk 7);have gc:∀ (d:Nat) (os:Array Obj),(grow (ZI X d) os).cell? ⟨c,0,none⟩=some (.slice (some ⟨bk,ok,none⟩) N ck):=Ae (Ab ((hB2.block c iw).trans gI.out) 0);have gk:∀ (d:Nat) (os:Array Obj),(grow (ZI X d) os).cell? ⟨bk,ok+A,none⟩=some ↑key:=Ae ((hB2.cell (p:=⟨bk,ok+A,none⟩) hbk).trans hkc);clear hX C w1 hB1 hlt1;go_wp2_with fail;refine Ba kR kR ?_;repeat (quiet_step ((with_reducible exact Bg (C2.out _ (Dx _ _ _)))))
 refine Cj ?_;intro wq hbq;replace hbq:=As hbq;clear g0 g1 g2 g3 g4 g5 g6 g7 gc gk;have hB3:=hB2.trans (hbq.mono hB2.size);replace hblk:=(hbq.block w hlt2).trans hblk;have hlt3:w.heap.size<wq.heap.size:=(aZ hblk)
 clear C2 hbq hlt2 hB2;go_wp2;go_ret;exact⟨rfl,HC.out.grow hB3,Held.of_below hB3⟩
end
section
open Go.Lib Go.Proofs.Tryz Go.RowKit Go.Shelf Go.Sort CH
attribute [local irreducible] wpQuiet
theorem U3 (w:ZB):ZE prog 22 #[.pointer none] w (fun e w'=>e=.returned (.slice none 0 0)/\w=w'):=by go_enter func22,ntmps22;go_wp2_with fail;go_ret;exact⟨rfl,rfl⟩
theorem Yq (w:ZB):ZE prog 24 #[.pointer none] w (fun e w'=>e=.returned (.slice none 0 0)/\w=w'):=by go_enter func24,ntmps24;go_wp2_with fail;go_ret;exact⟨rfl,rfl⟩
theorem Hym (v:CH.Version) (s:dA) (w:ZB) (hG:Gc w) (hv:aP w w v s) : ZE prog 15 #[.pointer none,.agg (Al v s).toArray] w (Ret w (.int .i64 1)):=by
 have hB0:=fun o=>(Ac _ w).alloc nR o;have T:=fun (W:ZB) (hb:Below w w W)=>Kh v s W (hG.below hb) ((hv.below hb nR).mono hb.size);obtain⟨va,v1,v2⟩:=s;cases ht:dD v with
 |ok t =>exact FD33
 |error er =>exact FD33
end
section
open Go.Lib Go.Proofs.Tryz Go.RowKit Go.Shelf Go.Sort CH
attribute [local irreducible] wpQuiet
def Far (C:Nat) (w w':ZB):Prop:=∀ p v,p.block<C->w.cell? p=some v->w'.cell? p=some v
theorem Far.set {C b o:Nat} {x:ZC} {w w':ZB} (h:Far C w w') (hb:C<=b):Far C w (w'.setCell ⟨b,o,none⟩ x):=fun p v hp hv=>by rw [Uq (B8 w' ⟨b,o,none⟩ x p.block (by show p.block≠b;omega))];exact h p v hp hv
theorem Far.refl (C:Nat) (w:ZB):Far C w w:=fun _ _ _ h=>h
theorem Far.setCells {C b:Nat} (hb:C<=b):∀ (cs:List ZC) (o:Nat) {w w':ZB},Far C w w'->Far C w (w'.setCells b o cs)
 |[],_,_,_,h=>h
 |x::cs,o,_,_,h=>by
  rw [World.setCells]
  exact Far.setCells hb cs (o+1) (Far.set h hb)
theorem Cp.same {r:Nat} {w w':ZB} {kvs:List ((Int × Int) × ZC)} (h:Cp Bk r w kvs) (e:w'.heap[r]?=w.heap[r]?):Cp Bk r w' kvs:=by obtain⟨es,ck,e1,e2⟩:=h;exact⟨es,ck,e.trans e1,e2⟩
theorem Uy {B K c r1 r2:Nat} {keys:List (List UInt8)} {known:CH.Known} {forks:CH.Forks} {v:CH.Version} {s:dA} {w w':ZB} {p:Int × Int} {kvs:List ((Int × Int) × ZC)} (hC:ChainIn B K w c r1 r2 keys known forks) (hv:aP B w v s) (hH:Held [r1] w w') (hm0:Cp Bk r1 w kvs) (hkv:KVs B w kvs known) (hm:Cp Bk r1 w' (kvs++[(p,.agg (Al v s).toArray)])):ChainIn B K w' c r1 r2 keys (known++[(p,v)]) forks:=by
 obtain⟨vk,h1,h2⟩:=hC.ex;obtain⟨k2,h5,h6⟩:=hC.forks;have hmm:=hm0;obtain⟨es,ck,e1,_⟩:=hmm;have hcc:Cells w w':=hH.cells fun r hr=>by cases Bv.1 hr;exact⟨es,ck,e1⟩
 have hcr:c ∉ [r1]:=fun h=>by cases Bv.1 h;rw [h1] at e1;cases e1
 have hr2:r2 ∉ [r1]:=fun h=>hC.ne (Bv.1 h).symm;have hcb:=hH.block c (aZ h1) hcr;exact⟨⟨vk,hcb.trans h1,(h2.kept hcc).mono hH.size⟩,⟨_,hm,KVs.snoc (hv.kept hcc) (hkv.imp fun _ _ h=>h.kept hcc)⟩,⟨k2,h5.same (hH.block r2 h5.lt hr2),h6.imp fun _ _ h=>h.kept hcc⟩,hC.ne,Ag hC.le hH.size,fun ad n cap x y e=>hC.far ad n cap x y (hcb.symm.trans e)⟩
theorem Fpt (B0 K0:Nat) (c r1 r2:Nat) (keys:List (List UInt8)) (known:CH.Known) (forks:CH.Forks) (v:CH.Version) (s:dA) (w:ZB) (hG:Gc w) (hC:ChainIn B0 K0 w c r1 r2 keys known forks) (hv0:aP B0 w v s) (t:List UInt8) (ht:dD v=.ok t) (ha:v.authority<(keys.length:Int)) (hk:eU v (keys.getD v.authority.toNat [])=true) (hl:bH (v.authority,v.number) known=none) : ZE prog 15 #[.pointer (some ⟨c,0,none⟩),.agg (Al v s).toArray] w (ou B0 K0 w c r1 r2 keys (0,known++[((v.authority,v.number),v)],forks)):=by
 have hv:=hv0.mono hC.le;replace hv0:=Aa hv0;have hn:=jH ht;have hB0:=fun o=>(Ac _ w).alloc nR o;have HV:=Aa fun (W:ZB) (hb:Below w w W)=>(hv.below hb nR).mono hb.size;have T:=fun (W:ZB) (hb:Below w w W)=>Kh v s W (hG.below hb) (HV.out W hb);rw [ht] at T;obtain⟨vk,gI,hks⟩:=hC.ex;obtain⟨ak,ck,rfl,_,_,hks⟩:=hks;obtain⟨A,hA⟩:∃ A:Nat,v.authority=A:=⟨v.authority.toNat,oM⟩
 have hAt:v.authority.toNat=A:=oM;rw [hAt] at hk;rw [hA] at ha;have hAl:A<keys.length:=oM;obtain⟨key,hkey⟩:∃ key,keys[A]?=some key:=⟨_,Ad hAl⟩
 have hgd:keys.getD A []=key:=by simp [hkey]
 rw [hgd] at hk;obtain⟨bk,ok,rfl,hbk,hkc⟩:=hks (fun e=>by rw [e] at hAl;simp at hAl);have hkc:=hkc A key hkey;have C:=fun (W:ZB) (hb:Below w w W)=>Ub v s key W (hG.below hb) (HV.out W hb);rw [hk] at C;obtain⟨va,v1,v2⟩:=s;dsimp only [Al,Ow] at T C ⊢;rw [hA] at T C ⊢;have T:=Aa T;have C:=Aa C;have HC:=Aa hC;have iw:c<w.heap.size:=(aZ gI)
 have HS:=Aa hv.small;have hAt:=Aa hAt;have hA:=Aa hA;generalize keys.length=N at *;have q:ZH ((N:Int)<=(A:Int))=false:=by simp;omega
 have z0:(0:Int)<=(A:Int):=oM;have zA:((A:Int)).toNat=A:=oM;have ha':(A:Int)<(N:Int):=oM;clear hC hv hks hkey hgd hk hn;replace gI:=Aa gI;replace ht:=Aa ht;go_enter func15,ntmps15;go_wp2_with fail;refine (T.out _ (hB0 _)).mono ?_;rintro e w1 ⟨rfl,hb1⟩;have hB1:Below w w w1:=(hB0 _).trans (hb1.mono sM);have hblk:=(hb1.block w sM).trans (Au w _);have hlt1:w.heap.size<w1.heap.size:=(aZ hblk)
 have k0:w1.cell? ⟨w,0,none⟩=some ↑A:=Ab hblk 0;have kc:w1.cell? ⟨c,0,none⟩=some (.slice (some ⟨bk,ok,none⟩) N ck):=Ab ((hB1.block c iw).trans gI.out) 0;have g0:∀ (d:Nat) (os:Array Obj),(grow (ZI w1 d) os).cell? ⟨w,0,none⟩=some ↑A:=Ae k0;have gc:∀ (d:Nat) (os:Array Obj),(grow (ZI w1 d) os).cell? ⟨c,0,none⟩=some (.slice (some ⟨bk,ok,none⟩) N ck):=Ae kc;clear T hb1 k0 kc;go_wp2_with fail;refine Ba kR kR ?_;repeat (quiet_step (fail))
 refine Cj ?_;intro wq hbq;replace hbq:=As hbq;clear g0 gc;have hB2:=hB1.trans (hbq.mono hB1.size);replace hblk:=(hbq.block w hlt1).trans hblk;have hlt2:w.heap.size<wq.heap.size:=(aZ hblk)
 clear hbq;have C2:=Aa fun (W:ZB) (hb:Below wq wq W)=>C.out W (hB2.trans (hb.mono hB2.size));obtain⟨X,hX⟩:∃ X,X=wq:=⟨_,rfl⟩
 rw [<- hX] at hB2 hblk hlt2 C2 ⊢;have g0:∀ (d:Nat) (os:Array Obj),(grow (ZI X d) os).cell? ⟨w,0,none⟩=some ↑A:=Ae (Ab hblk 0);have g1:∀ (d:Nat) (os:Array Obj),(grow (ZI X d) os).cell? ⟨w,1,none⟩=some ↑v.number:=Ae (Ab hblk 1);have g2:∀ (d:Nat) (os:Array Obj),(grow (ZI X d) os).cell? ⟨w,2,none⟩=some ↑v.pos:=Ae (Ab hblk 2);have g3:∀ (d:Nat) (os:Array Obj),(grow (ZI X d) os).cell? ⟨w,3,none⟩=some ↑v.prev:=Ae (Ab hblk 3);have g4:∀ (d:Nat) (os:Array Obj),(grow (ZI X d) os).cell? ⟨w,4,none⟩=some va:=Ae (Ab hblk 4);have g5:∀ (d:Nat) (os:Array Obj),(grow (ZI X d) os).cell? ⟨w,5,none⟩=some ↑v.sel.index:=Ae (Ab hblk 5);have g6:∀ (d:Nat) (os:Array Obj),(grow (ZI X d) os).cell? ⟨w,6,none⟩=some v1:=Ae (Ab hblk 6);have g7:∀ (d:Nat) (os:Array Obj),(grow (ZI X d) os).cell? ⟨w,7,none⟩=some v2:=Ae (Ab hblk 7);have gc:∀ (d:Nat) (os:Array Obj),(grow (ZI X d) os).cell? ⟨c,0,none⟩=some (.slice (some ⟨bk,ok,none⟩) N ck):=Ae (Ab ((hB2.block c iw).trans gI.out) 0);have gk:∀ (d:Nat) (os:Array Obj),(grow (ZI X d) os).cell? ⟨bk,ok+A,none⟩=some ↑key:=Ae ((hB2.cell (p:=⟨bk,ok+A,none⟩) hbk).trans hkc);clear hX C w1 hB1 hlt1;go_wp2_with fail;refine Ba kR kR ?_;repeat (quiet_step ((with_reducible exact Bg (C2.out _ (Dx _ _ _)))))
 refine Cj ?_;intro wq hbq;replace hbq:=As hbq;clear g0 g1 g2 g3 g4 g5 g6 g7 gc gk;have hB3:=hB2.trans (hbq.mono hB2.size);replace hblk:=(hbq.block w hlt2).trans hblk;have hlt3:w.heap.size<wq.heap.size:=(aZ hblk)
 clear C2 hbq hlt2 hB2;obtain⟨a1,m1,c1,a2,m2,c2,a3,m3,c3,hsl⟩:=(HV.out w (Ac _ _)).sl;simp only [dA.mk.injEq] at hsl;obtain⟨rfl,rfl,rfl⟩:=hsl;have k0:wq.cell? ⟨w,0,none⟩=some ↑A:=Ab hblk 0;have k1:wq.cell? ⟨w,1,none⟩=some ↑v.number:=Ab hblk 1;go_upto_region 7 with (fail)
 obtain⟨kvs,hm0,lD⟩:=HC.out.known;have hf0:Ch (v.authority,v.number) kvs 0=none:=lD.none 0 hl;obtain⟨W1,hW1⟩:∃ W1,wq.alloc (.cells #[↑A,↑v.number] 93)=W1:=⟨_,rfl⟩
 have qX:Below wq wq W1:=by rw [<- hW1];exact (Ac _ wq).alloc nR _
 have hpl:W1.heap[wq.heap.size]?=some (.cells #[↑A,↑v.number] 93 (0,0)):=by rw [<- hW1];exact Au wq _
 rw [hW1];clear hW1 k0 k1;have hB4:Below w w W1:=hB3.trans (qX.mono hB3.size);have hvb:=(qX.block w hlt3).trans hblk;have hP1:w.heap.size<W1.heap.size:=(aZ hvb)
 have hP2:wq.heap.size<W1.heap.size:=(aZ hpl)
 have hc1:w.cell? ⟨c,1,none⟩=some (.map (some r1)):=Ab gI.out 1;have hr1:=hm0.lt;have PC:=Aa fun (W:ZB) (hb:Below W1 W1 W)=>Hdk c 1 r1 (v.authority,v.number) v ⟨(.slice a1 m1 c1),(.slice a2 m2 c2),(.slice a3 m3 c3)⟩ kvs W (((hB4.trans (hb.mono hB4.size)).cell (p:=⟨c,1,none⟩) iw).trans hc1) (hm0.below (hB4.trans (hb.mono hB4.size))) hf0 (HV.out W (hB4.trans (hb.mono hB4.size)));rw [hA.out] at PC;dsimp only [Al,Bk] at PC;rw [hA.out] at PC;have SC:∀ W',Cells W1 W'->W'.cell? ⟨wq,0,none⟩=some ↑A/\W'.cell? ⟨wq,1,none⟩=some ↑v.number/\W'.cell? ⟨w,0,none⟩=some ↑A/\W'.cell? ⟨w,1,none⟩=some ↑v.number/\W'.cell? ⟨w,2,none⟩=some ↑v.pos/\W'.cell? ⟨w,3,none⟩=some ↑v.prev/\W'.cell? ⟨w,4,none⟩=some (.slice a1 m1 c1)/\W'.cell? ⟨w,5,none⟩=some ↑v.sel.index/\W'.cell? ⟨w,6,none⟩=some (.slice a2 m2 c2)/\W'.cell? ⟨w,7,none⟩=some (.slice a3 m3 c3):=fun W' h =>⟨h _ _ (Ab hpl 0),h _ _ (Ab hpl 1),h _ _ (Ab hvb 0),h _ _ (Ab hvb 1),h _ _ (Ab hvb 2),h _ _ (Ab hvb 3),h _ _ (Ab hvb 4),h _ _ (Ab hvb 5),h _ _ (Ab hvb 6),h _ _ (Ab hvb 7)⟩
 have zZ:Mb8 W1 r1:=by obtain⟨es,ck,e,_⟩:=hm0.below hB4;exact⟨es,ck,e⟩
 have hBd:Below W1 W1 W1.drew:=(Ac _ W1).drew;have hBz:=fun o=>((Ac _ W1).alloc nR o).drew;have HX:Hid (∀ (W w':ZB),Below W1 W1 W->Held [r1] W w'->Cells W1 w'):=Aa fun W w' hb hh=>(Cells.of_below hb).trans (hh.cells fun r hr=>by cases Bv.1 hr;obtain⟨es,ck,e⟩:=zZ;exact⟨es,ck,(hb.block r1 (aZ e)).trans e⟩);have hne1:r1≠wq.heap.size:=fun e=>by have:=hr1;omega
 have HZ:Hid (∀ (w':ZB),Held [r1] (W1.alloc (.cells #[.int .i64 0,.int .i64 0,.int .i64 0,.string ⟨#[]⟩,.slice none 0 0,.int .i64 0,.slice none 0 0,.slice none 0 0] 31)).drew w'->w'.cell? ⟨W1,0,none⟩=some (.int .i64 0)/\w'.cell? ⟨W1,1,none⟩=some (.int .i64 0)/\w'.cell? ⟨W1,2,none⟩=some (.int .i64 0)/\w'.cell? ⟨W1,3,none⟩=some (.string ⟨#[]⟩)/\w'.cell? ⟨W1,4,none⟩=some (.slice none 0 0)/\w'.cell? ⟨W1,5,none⟩=some (.int .i64 0)/\w'.cell? ⟨W1,6,none⟩=some (.slice none 0 0)/\w'.cell? ⟨W1,7,none⟩=some (.slice none 0 0)/\w'.frozen? ⟨W1,0,none⟩=false/\w'.frozen? ⟨W1,1,none⟩=false/\w'.frozen? ⟨W1,2,none⟩=false/\w'.frozen? ⟨W1,3,none⟩=false/\w'.frozen? ⟨W1,4,none⟩=false/\w'.frozen? ⟨W1,5,none⟩=false/\w'.frozen? ⟨W1,6,none⟩=false/\w'.frozen? ⟨W1,7,none⟩=false):=Aa fun w' hh=>by have hz:=(hh.block W1 (by show W1.heap.size<(W1.alloc (.cells #[.int .i64 0,.int .i64 0,.int .i64 0,.string ⟨#[]⟩,.slice none 0 0,.int .i64 0,.slice none 0 0,.slice none 0 0] 31)).heap.size;simp) (by simp;omega)).trans (Au W1 (.cells #[.int .i64 0,.int .i64 0,.int .i64 0,.string ⟨#[]⟩,.slice none 0 0,.int .i64 0,.slice none 0 0,.slice none 0 0] 31));exact⟨Ab hz 0,Ab hz 1,Ab hz 2,Ab hz 3,Ab hz 4,Ab hz 5,Ab hz 6,Ab hz 7,Bi hz 0,Bi hz 1,Bi hz 2,Bi hz 3,Bi hz 4,Bi hz 5,Bi hz 6,Bi hz 7⟩
 have CF:Hid (∀ w' w'',Cells W1 w'->Far W1 w' w''->Cells W1 w''):=Aa fun w' w'' h1 h2 p u hp=>h2 p u (Ef W1 p hp) (h1 p u hp);have SC:=Aa SC;have hf0:=Aa hf0;have lD:=Aa lD;have zo:=Aa hm0;clear zZ hm0 hvb hpl hblk hB3 qX hc1;refine wp_region_noPanic ?_;refine F8 (S:=(fun W'=>W'.cell? ⟨wq,0,none⟩=some ↑A/\W'.cell? ⟨wq,1,none⟩=some ↑v.number/\W'.cell? ⟨w,0,none⟩=some ↑A/\W'.cell? ⟨w,1,none⟩=some ↑v.number/\W'.cell? ⟨w,2,none⟩=some ↑v.pos/\W'.cell? ⟨w,3,none⟩=some ↑v.prev/\W'.cell? ⟨w,4,none⟩=some (.slice a1 m1 c1)/\W'.cell? ⟨w,5,none⟩=some ↑v.sel.index/\W'.cell? ⟨w,6,none⟩=some (.slice a2 m2 c2)/\W'.cell? ⟨w,7,none⟩=some (.slice a3 m3 c3))) kR (SC.out _ (Cells.of_below hBd)) (fun hHeld=>?_);refine tk 0 (v:=.pointer (some ⟨c,0,none⟩)) rfl rF hHeld ?_ ?_;·exact FD11
 simp only [ZF,pA,pB,pC];refine tk 1 (v:=.pointer (some ⟨c,0,none⟩)) rfl rF hHeld ?_ ?_;·exact FD11
 simp only [ZF,pA,pB,pC];refine tk 2 (v:=.pointer (some ⟨c,1,none⟩)) rfl rF hHeld ?_ ?_;·exact FD11
 simp only [ZF,pA,pB,pC];refine tk 3 (v:=.agg #[↑A,↑v.number]) rfl rF hHeld ?_ ?_;·exact FD11
 simp only [ZF,pA,pB,pC];refine tk 4 (v:=(.agg #[↑A,↑v.number,↑v.pos,↑v.prev,.slice a1 m1 c1,↑v.sel.index,.slice a2 m2 c2,.slice a3 m3 c3])) rfl rF hHeld ?_ ?_;·exact FD11
 simp only [ZF,pA,pB,pC];refine Fq (rs:=[5,9]) kR sM ?_;refine Ce (o:=_) rfl (fun K hK=>?_) ?_
 ·go_simp;refine (PC.out _ hBd).mono ?_;rintro e w' ⟨rfl,hh,hmm⟩;have hcl:=HX.out _ _ hBd hh;go_wp2_with fail;refine hK.out _ _ (SC.out _ hcl) (fun hHeld=>?_);clear hK K;(try simp only [ZF,pA,pB,pC]);refine tk 6 (v:=.tuple #[(.agg #[↑A,↑v.number,↑v.pos,↑v.prev,.slice a1 m1 c1,↑v.sel.index,.slice a2 m2 c2,.slice a3 m3 c3]),.bool true]) rfl rF hHeld ?_ ?_;·exact FD11
  (try simp only [ZF,pA,pB,pC]);refine tk 7 (v:=(.agg #[↑A,↑v.number,↑v.pos,↑v.prev,.slice a1 m1 c1,↑v.sel.index,.slice a2 m2 c2,.slice a3 m3 c3])) rfl rF hHeld ?_ ?_;·exact FD11
  (try simp only [ZF,pA,pB,pC]);refine tk 8 (v:=.bool true) rfl rF hHeld ?_ ?_;·exact FD11
  (try simp only [ZF,pA,pB,pC]);refine rk 9 rfl (fun K hK=>?_);go_simp;refine hK.out _ _ (SC.out _ (hcl.trans (Cells.of_below ((Ac _ _).alloc nR _)))) (fun hHeld=>?_);clear hK K;(try simp only [ZF,pA,pB,pC]);refine rk 10 rfl (fun K hK=>?_);go_simp;refine hK.out _ _ (SC.out _ (hcl.trans (Cells.of_below ((Ac _ _).alloc nR _)))) (fun hHeld=>?_);clear hK K;(try simp only [ZF,pA,pB,pC]);refine tk 11 (v:=.bool true) rfl rF hHeld ?_ ?_;·exact FD11
  (try simp only [ZF,pA,pB,pC]);refine Eb kR (NoPanic.normal ?_) _;have hfin:Held [r1] w (w'.alloc (.cells #[↑A,↑v.number,↑v.pos,↑v.prev,.slice a1 m1 c1,↑v.sel.index,.slice a2 m2 c2,.slice a3 m3 c3] 31)):=(Held.of_below hB4).trans ((Held.of_below hBd).trans (hh.trans (Held.of_below ((Ac _ _).alloc nR _))));have hfin:=Aa hfin;have hmm:Hid (Cp Bk r1 (w'.alloc (.cells #[↑A,↑v.number,↑v.pos,↑v.prev,.slice a1 m1 c1,↑v.sel.index,.slice a2 m2 c2,.slice a3 m3 c3] 31)) (kvs++[((v.authority,v.number),.agg (Al v ⟨.slice a1 m1 c1,.slice a2 m2 c2,.slice a3 m3 c3⟩).toArray)])):=Aa (by dsimp only [Al];rw [hA.out];exact hmm.same (((Ac _ w').alloc nR _).block r1 hmm.lt));clear hcl hHeld;exact FD83
 ·refine Ce (o:=_) rfl (fun K hK=>?_) Ey;go_simp;refine hK.out _ _ (SC.out _ (Cells.of_below (hBz _))) (fun hHeld=>?_);clear hK K;(try simp only [ZF,pA,pB,pC]);refine rk 5 rfl (fun K hK=>?_);go_simp;refine (PC.out _ (hBz _)).mono ?_;rintro e w' ⟨rfl,hh,hmm⟩;have hcl:=HX.out _ _ (hBz _) hh;go_wp2_with fail;refine hK.out _ _ (SC.out _ hcl) (fun hHeld=>?_);clear hK K;(try simp only [ZF,pA,pB,pC]);refine tk 6 (v:=.tuple #[(.agg #[↑A,↑v.number,↑v.pos,↑v.prev,.slice a1 m1 c1,↑v.sel.index,.slice a2 m2 c2,.slice a3 m3 c3]),.bool true]) rfl rF hHeld ?_ ?_;·exact FD11
  (try simp only [ZF,pA,pB,pC]);refine tk 7 (v:=(.agg #[↑A,↑v.number,↑v.pos,↑v.prev,.slice a1 m1 c1,↑v.sel.index,.slice a2 m2 c2,.slice a3 m3 c3])) rfl rF hHeld ?_ ?_;·exact FD11
  (try simp only [ZF,pA,pB,pC]);refine tk 8 (v:=.bool true) rfl rF hHeld ?_ ?_;·exact FD11
  (try simp only [ZF,pA,pB,pC]);have hz:w'.heap[W1.heap.size]?=some (.cells #[.int .i64 0,.int .i64 0,.int .i64 0,.string ⟨#[]⟩,.slice none 0 0,.int .i64 0,.slice none 0 0,.slice none 0 0] 31):=(hh.block W1 (by show W1.heap.size<(W1.alloc (.cells #[.int .i64 0,.int .i64 0,.int .i64 0,.string ⟨#[]⟩,.slice none 0 0,.int .i64 0,.slice none 0 0,.slice none 0 0] 31)).heap.size;simp) (by simp;omega)).trans (Au W1 (.cells #[.int .i64 0,.int .i64 0,.int .i64 0,.string ⟨#[]⟩,.slice none 0 0,.int .i64 0,.slice none 0 0,.slice none 0 0] 31));have hth:w'.there W1 0 8:=fun j hj=>by exact FD104
  have hi8:(prog.info? 31).map (·.size)=some 8:=kR;have hall:(#[↑A,↑v.number,↑v.pos,↑v.prev,.slice a1 m1 c1,↑v.sel.index,.slice a2 m2 c2,.slice a3 m3 c3]:Array ZC).all (·.oneCell')=true:=F9 (cs:=[↑A,↑v.number,↑v.pos,↑v.prev,.slice a1 m1 c1,↑v.sel.index,.slice a2 m2 c2,.slice a3 m3 c3]) (by intro u hu;simp only [A8,Bc,Dj] at hu;rcases hu with rfl|rfl|rfl|rfl|rfl|rfl|rfl|rfl <;> rfl);refine rk 10 rfl (fun K hK=>?_);rw [Ap rF];refine wp_store_mid 31 _ _ rfl W1 0 #[↑A,↑v.number,↑v.pos,↑v.prev,.slice a1 m1 c1,↑v.sel.index,.slice a2 m2 c2,.slice a3 m3 c3] rfl rfl hth hi8 hall ?_;refine hK.out _ _ (SC.out _ (CF.out _ _ hcl (Far.setCells nR _ _ (Far.refl _ _)))) (fun hHeld=>?_);clear hK K;(try simp only [ZF,pA,pB,pC]);refine tk 11 (v:=.bool true) rfl rF hHeld ?_ ?_;·exact FD11
  (try simp only [ZF,pA,pB,pC]);refine Eb kR (NoPanic.normal ?_) _;have h00:Held [r1] w w':=(Held.of_below hB4).trans ((Held.of_below (hBz _)).trans hh);have hBF:Below w w' (w'.setCells W1 0 #[↑A,↑v.number,↑v.pos,↑v.prev,.slice a1 m1 c1,↑v.sel.index,.slice a2 m2 c2,.slice a3 m3 c3].toList):=Cy (Ac w w') hB4.size _ 0;have hfin:Held [r1] w (w'.setCells W1 0 #[↑A,↑v.number,↑v.pos,↑v.prev,.slice a1 m1 c1,↑v.sel.index,.slice a2 m2 c2,.slice a3 m3 c3].toList):=⟨hBF.os.trans h00.os,hBF.tape.trans h00.tape,hBF.output.trans h00.output,Ag h00.size hBF.size,fun k hk hr=>(hBF.block k hk).trans (h00.block k hk hr)⟩
  have hmm:Hid (Cp Bk r1 (w'.setCells W1 0 #[↑A,↑v.number,↑v.pos,↑v.prev,.slice a1 m1 c1,↑v.sel.index,.slice a2 m2 c2,.slice a3 m3 c3].toList) (kvs++[((v.authority,v.number),.agg (Al v ⟨.slice a1 m1 c1,.slice a2 m2 c2,.slice a3 m3 c3⟩).toArray)])):=Aa (by dsimp only [Al];rw [hA.out];exact hmm.same (hBF.block r1 hr1));have hfin:=Aa hfin;clear hcl hHeld hBF hz hth;generalize w'.setCells W1 0 _=Y at *;exact FD83
end
section
open Go.Lib Go.Proofs.Tryz Go.RowKit Go.Shelf Go.Sort CH
attribute [local irreducible] wpQuiet
theorem Ggl {T G:ZB->Nat->Prop} {H:Prop} (h1:(∀ Y oB,T Y oB->G Y oB)->H) (h2:∀ Y oB,T Y oB->G Y oB):H:=h1 h2
theorem Yj (x:Option (List UInt8)):∃ b,jQ x=.tuple #[.string ⟨(x.getD []).toArray⟩,.bool b]:=by cases x <;> exact⟨_,rfl⟩
theorem Can {B K c r1 r2:Nat} {keys:List (List UInt8)} {known:CH.Known} {forks:CH.Forks} {v old:CH.Version} {s so:dA} {w w':ZB} {p:Int × Int} {kvs:List ((Int × Int) × ZC)} (hC:ChainIn B K w c r1 r2 keys known forks) (hv:aP B w v s) (ho:aP B w old so) (hH:Held [r2] w w') (hm0:Cp Bk r2 w kvs) (hkv:iU B w kvs forks) (hm:Cp Bk r2 w' (kvs++[(p,.agg (Al old so++Al v s).toArray)])):ChainIn B K w' c r1 r2 keys known (forks++[(p,(old,v))]):=by
 obtain⟨vk,h1,h2⟩:=hC.ex;obtain⟨k1,h5,h6⟩:=hC.known;have hmm:=hm0;obtain⟨es,ck,e1,_⟩:=hmm;have hcc:Cells w w':=hH.cells fun r hr=>by cases Bv.1 hr;exact⟨es,ck,e1⟩
 have hcr:c ∉ [r2]:=fun h=>by cases Bv.1 h;rw [h1] at e1;cases e1
 have hr1:r1 ∉ [r2]:=fun h=>hC.ne (Bv.1 h);have hcb:=hH.block c (aZ h1) hcr;exact⟨⟨vk,hcb.trans h1,(h2.kept hcc).mono hH.size⟩,⟨k1,h5.same (hH.block r1 h5.lt hr1),h6.imp fun _ _ h=>h.kept hcc⟩,⟨_,hm,iU.snoc (f:=(old,v)) ⟨so,s,rfl,ho.kept hcc,hv.kept hcc⟩ (hkv.imp fun _ _ h=>h.kept hcc)⟩,hC.ne,Ag hC.le hH.size,fun ad n cap x y e=>hC.far ad n cap x y (hcb.symm.trans e)⟩
theorem For (B0 K0:Nat) (c r1 r2:Nat) (keys:List (List UInt8)) (known:CH.Known) (forks:CH.Forks) (v:CH.Version) (s:dA) (w:ZB) (hG:Gc w) (hC:ChainIn B0 K0 w c r1 r2 keys known forks) (hv0:aP B0 w v s) (t:List UInt8) (ht:dD v=.ok t) (ha:v.authority<(keys.length:Int)) (hk:eU v (keys.getD v.authority.toNat [])=true) (old:CH.Version) (hl:bH (v.authority,v.number) known=some old) : ZE prog 15 #[.pointer (some ⟨c,0,none⟩),.agg (Al v s).toArray] w (ou B0 K0 w c r1 r2 keys (if (CH.bare old).getD []==(CH.bare v).getD [] then (0,known,forks) else (17,known,kM (v.authority,v.number) (old,v) forks))):=by
 have hv:=hv0.mono hC.le;replace hv0:=Aa hv0;obtain⟨RX,hRX⟩:∃ X:Int × CH.Known × CH.Forks,Hid ((if (CH.bare old).getD []==(CH.bare v).getD [] then (0,known,forks) else (17,known,kM (v.authority,v.number) (old,v) forks))=X):=⟨_,Aa rfl⟩
 rw [hRX.out];have hn:=jH ht;have hB0:=fun o=>(Ac _ w).alloc nR o;have HV:=Aa fun (W:ZB) (hb:Below w w W)=>(hv.below hb nR).mono hb.size;have T:=fun (W:ZB) (hb:Below w w W)=>Kh v s W (hG.below hb) (HV.out W hb);rw [ht] at T;obtain⟨vk,gI,hks⟩:=hC.ex;obtain⟨ak,ck,rfl,_,_,hks⟩:=hks;obtain⟨A,hA⟩:∃ A:Nat,v.authority=A:=⟨v.authority.toNat,oM⟩
 have hAt:v.authority.toNat=A:=oM;rw [hAt] at hk;rw [hA] at ha;have hAl:A<keys.length:=oM;obtain⟨key,hkey⟩:∃ key,keys[A]?=some key:=⟨_,Ad hAl⟩
 have hgd:keys.getD A []=key:=by simp [hkey]
 rw [hgd] at hk;obtain⟨bk,ok,rfl,hbk,hkc⟩:=hks (fun e=>by rw [e] at hAl;simp at hAl);have hkc:=hkc A key hkey;have C:=fun (W:ZB) (hb:Below w w W)=>Ub v s key W (hG.below hb) (HV.out W hb);rw [hk] at C;obtain⟨va,v1,v2⟩:=s;dsimp only [Al,Ow] at T C ⊢;rw [hA] at T C ⊢;have T:=Aa T;have C:=Aa C;have HC:=Aa hC;have iw:c<w.heap.size:=(aZ gI)
 have HS:=Aa hv.small;have hAt:=Aa hAt;have hA:=Aa hA;generalize keys.length=N at *;have q:ZH ((N:Int)<=(A:Int))=false:=by simp;omega
 have z0:(0:Int)<=(A:Int):=oM;have zA:((A:Int)).toNat=A:=oM;have ha':(A:Int)<(N:Int):=oM;clear hC hv hks hkey hgd hk hn;replace gI:=Aa gI;replace ht:=Aa ht;go_enter func15,ntmps15;go_wp2_with fail;refine (T.out _ (hB0 _)).mono ?_;rintro e w1 ⟨rfl,hb1⟩;have hB1:Below w w w1:=(hB0 _).trans (hb1.mono sM);have hblk:=(hb1.block w sM).trans (Au w _);have hlt1:w.heap.size<w1.heap.size:=(aZ hblk)
 have k0:w1.cell? ⟨w,0,none⟩=some ↑A:=Ab hblk 0;have kc:w1.cell? ⟨c,0,none⟩=some (.slice (some ⟨bk,ok,none⟩) N ck):=Ab ((hB1.block c iw).trans gI.out) 0;have g0:∀ (d:Nat) (os:Array Obj),(grow (ZI w1 d) os).cell? ⟨w,0,none⟩=some ↑A:=Ae k0;have gc:∀ (d:Nat) (os:Array Obj),(grow (ZI w1 d) os).cell? ⟨c,0,none⟩=some (.slice (some ⟨bk,ok,none⟩) N ck):=Ae kc;clear T hb1 k0 kc;go_wp2_with fail;refine Ba kR kR ?_;repeat (quiet_step (fail))
 refine Cj ?_;intro wq hbq;replace hbq:=As hbq;clear g0 gc;have hB2:=hB1.trans (hbq.mono hB1.size);replace hblk:=(hbq.block w hlt1).trans hblk;have hlt2:w.heap.size<wq.heap.size:=(aZ hblk)
 clear hbq;have C2:=Aa fun (W:ZB) (hb:Below wq wq W)=>C.out W (hB2.trans (hb.mono hB2.size));obtain⟨X,hX⟩:∃ X,X=wq:=⟨_,rfl⟩
 rw [<- hX] at hB2 hblk hlt2 C2 ⊢;have g0:∀ (d:Nat) (os:Array Obj),(grow (ZI X d) os).cell? ⟨w,0,none⟩=some ↑A:=Ae (Ab hblk 0);have g1:∀ (d:Nat) (os:Array Obj),(grow (ZI X d) os).cell? ⟨w,1,none⟩=some ↑v.number:=Ae (Ab hblk 1);have g2:∀ (d:Nat) (os:Array Obj),(grow (ZI X d) os).cell? ⟨w,2,none⟩=some ↑v.pos:=Ae (Ab hblk 2);have g3:∀ (d:Nat) (os:Array Obj),(grow (ZI X d) os).cell? ⟨w,3,none⟩=some ↑v.prev:=Ae (Ab hblk 3);have g4:∀ (d:Nat) (os:Array Obj),(grow (ZI X d) os).cell? ⟨w,4,none⟩=some va:=Ae (Ab hblk 4);have g5:∀ (d:Nat) (os:Array Obj),(grow (ZI X d) os).cell? ⟨w,5,none⟩=some ↑v.sel.index:=Ae (Ab hblk 5);have g6:∀ (d:Nat) (os:Array Obj),(grow (ZI X d) os).cell? ⟨w,6,none⟩=some v1:=Ae (Ab hblk 6);have g7:∀ (d:Nat) (os:Array Obj),(grow (ZI X d) os).cell? ⟨w,7,none⟩=some v2:=Ae (Ab hblk 7);have gc:∀ (d:Nat) (os:Array Obj),(grow (ZI X d) os).cell? ⟨c,0,none⟩=some (.slice (some ⟨bk,ok,none⟩) N ck):=Ae (Ab ((hB2.block c iw).trans gI.out) 0);have gk:∀ (d:Nat) (os:Array Obj),(grow (ZI X d) os).cell? ⟨bk,ok+A,none⟩=some ↑key:=Ae ((hB2.cell (p:=⟨bk,ok+A,none⟩) hbk).trans hkc);clear hX C w1 hB1 hlt1;go_wp2_with fail;refine Ba kR kR ?_;repeat (quiet_step ((with_reducible exact Bg (C2.out _ (Dx _ _ _)))))
 refine Cj ?_;intro wq hbq;replace hbq:=As hbq;clear g0 g1 g2 g3 g4 g5 g6 g7 gc gk;have hB3:=hB2.trans (hbq.mono hB2.size);replace hblk:=(hbq.block w hlt2).trans hblk;have hlt3:w.heap.size<wq.heap.size:=(aZ hblk)
 clear C2 hbq hlt2 hB2;obtain⟨a1,m1,c1,a2,m2,c2,a3,m3,c3,hsl⟩:=(HV.out w (Ac _ _)).sl;simp only [dA.mk.injEq] at hsl;obtain⟨rfl,rfl,rfl⟩:=hsl;have k0:wq.cell? ⟨w,0,none⟩=some ↑A:=Ab hblk 0;have k1:wq.cell? ⟨w,1,none⟩=some ↑v.number:=Ab hblk 1;go_upto_region 7 with (fail)
 obtain⟨kvs,hm0,lD⟩:=HC.out.known;obtain⟨jj,so,hf0,hos0⟩:=lD.some 0 hl;have hos:=hos0.mono HC.out.le;obtain⟨b1,n1,d1,b2,n2,d2,b3,n3,d3,EF⟩:=hos.sl;subst EF;replace hos0:=Aa hos0;obtain⟨W1,hW1⟩:∃ W1,wq.alloc (.cells #[↑A,↑v.number] 93)=W1:=⟨_,rfl⟩
 have qX:Below wq wq W1:=by rw [<- hW1];exact (Ac _ wq).alloc nR _
 have hpl:W1.heap[wq.heap.size]?=some (.cells #[↑A,↑v.number] 93 (0,0)):=by rw [<- hW1];exact Au wq _
 rw [hW1];clear hW1 k0 k1;have hB4:Below w w W1:=hB3.trans (qX.mono hB3.size);have hvb:=(qX.block w hlt3).trans hblk;have hP1:w.heap.size<W1.heap.size:=(aZ hvb)
 have hP2:wq.heap.size<W1.heap.size:=(aZ hpl)
 have hc1:w.cell? ⟨c,1,none⟩=some (.map (some r1)):=Ab gI.out 1;have hr1:=hm0.lt;have PC:=Aa fun (W:ZB) (hb:Below W1 W1 W)=>Hct c 1 r1 (v.authority,v.number) v old ⟨.slice a1 m1 c1,.slice a2 m2 c2,.slice a3 m3 c3⟩ ⟨.slice b1 n1 d1,.slice b2 n2 d2,.slice b3 n3 d3⟩ kvs jj W (((hB4.trans (hb.mono hB4.size)).cell (p:=⟨c,1,none⟩) iw).trans hc1) (hm0.below (hB4.trans (hb.mono hB4.size))) hf0 ((hos.below (hB4.trans (hb.mono hB4.size)) nR).mono (hB4.trans (hb.mono hB4.size)).size) (HV.out W (hB4.trans (hb.mono hB4.size)));dsimp only [Al,Bk] at PC;rw [hA.out] at PC;have SC:∀ W',Cells W1 W'->W'.cell? ⟨wq,0,none⟩=some ↑A/\W'.cell? ⟨wq,1,none⟩=some ↑v.number/\W'.cell? ⟨w,0,none⟩=some ↑A/\W'.cell? ⟨w,1,none⟩=some ↑v.number/\W'.cell? ⟨w,2,none⟩=some ↑v.pos/\W'.cell? ⟨w,3,none⟩=some ↑v.prev/\W'.cell? ⟨w,4,none⟩=some (.slice a1 m1 c1)/\W'.cell? ⟨w,5,none⟩=some ↑v.sel.index/\W'.cell? ⟨w,6,none⟩=some (.slice a2 m2 c2)/\W'.cell? ⟨w,7,none⟩=some (.slice a3 m3 c3):=fun W' h =>⟨h _ _ (Ab hpl 0),h _ _ (Ab hpl 1),h _ _ (Ab hvb 0),h _ _ (Ab hvb 1),h _ _ (Ab hvb 2),h _ _ (Ab hvb 3),h _ _ (Ab hvb 4),h _ _ (Ab hvb 5),h _ _ (Ab hvb 6),h _ _ (Ab hvb 7)⟩
 have hBd:Below W1 W1 W1.drew:=(Ac _ W1).drew;have hBz:=fun o=>((Ac _ W1).alloc nR o).drew;have CF:Hid (∀ w' w'',Cells W1 w'->Far W1 w' w''->Cells W1 w''):=Aa fun w' w'' h1 h2 p u hp=>h2 p u (Ef W1 p hp) (h1 p u hp);have SC:=Aa SC;have hOS:=Aa fun (W:ZB) (hb:Below w w W)=>(hos.below hb nR).mono hb.size;have hl:=Aa hl;have hf0:=Aa hf0;have lD:=Aa lD;have hm0:=Aa hm0;have hi8:(prog.info? 31).map (·.size)=some 8:=kR;clear hos hblk hB3 qX hc1;apply Ggl (T:=fun (Y:ZB) (oB:Nat)=>Hid (Below w w Y)/\Hid (Y.heap[w.heap.size]?=some (.cells #[↑A,↑v.number,↑v.pos,↑v.prev,.slice a1 m1 c1,↑v.sel.index,.slice a2 m2 c2,.slice a3 m3 c3] 31 (0,0)))/\Hid (Y.heap[wq.heap.size]?=some (.cells #[↑A,↑v.number] 93 (0,0)))/\Hid (Y.rangeAt oB 0 [↑old.authority,↑old.number,↑old.pos,↑old.prev,.slice b1 n1 d1,↑old.sel.index,.slice b2 n2 d2,.slice b3 n3 d3]))
 ·intro TAIL;refine wp_region_noPanic ?_;refine F8 (S:=(fun W'=>W'.cell? ⟨wq,0,none⟩=some ↑A/\W'.cell? ⟨wq,1,none⟩=some ↑v.number/\W'.cell? ⟨w,0,none⟩=some ↑A/\W'.cell? ⟨w,1,none⟩=some ↑v.number/\W'.cell? ⟨w,2,none⟩=some ↑v.pos/\W'.cell? ⟨w,3,none⟩=some ↑v.prev/\W'.cell? ⟨w,4,none⟩=some (.slice a1 m1 c1)/\W'.cell? ⟨w,5,none⟩=some ↑v.sel.index/\W'.cell? ⟨w,6,none⟩=some (.slice a2 m2 c2)/\W'.cell? ⟨w,7,none⟩=some (.slice a3 m3 c3))) kR (SC.out _ (Cells.of_below hBd)) (fun hHeld=>?_);refine tk 0 (v:=.pointer (some ⟨c,0,none⟩)) rfl rF hHeld ?_ ?_;·exact FD11
  (try simp only [ZF,pA,pB,pC]);refine tk 1 (v:=.pointer (some ⟨c,0,none⟩)) rfl rF hHeld ?_ ?_;·exact FD11
  (try simp only [ZF,pA,pB,pC]);refine tk 2 (v:=.pointer (some ⟨c,1,none⟩)) rfl rF hHeld ?_ ?_;·exact FD11
  (try simp only [ZF,pA,pB,pC]);refine tk 3 (v:=.agg #[↑A,↑v.number]) rfl rF hHeld ?_ ?_;·exact FD11
  (try simp only [ZF,pA,pB,pC]);refine tk 4 (v:=.agg #[↑A,↑v.number,↑v.pos,↑v.prev,.slice a1 m1 c1,↑v.sel.index,.slice a2 m2 c2,.slice a3 m3 c3]) rfl rF hHeld ?_ ?_;·exact FD11
  (try simp only [ZF,pA,pB,pC]);refine Fq (rs:=[5,9]) kR sM ?_;refine Ce (o:=_) rfl (fun K hK=>?_) ?_
  ·go_simp;refine (PC.out _ hBd).mono ?_;rintro e w' ⟨rfl,hh⟩;have hcl:Cells W1 w':=(Cells.of_below hBd).trans (Cells.of_below hh);go_wp2_with fail;refine hK.out _ _ (SC.out _ hcl) (fun hHeld=>?_);clear hK K;(try simp only [ZF,pA,pB,pC]);refine tk 6 (v:=.tuple #[.agg #[↑old.authority,↑old.number,↑old.pos,↑old.prev,.slice b1 n1 d1,↑old.sel.index,.slice b2 n2 d2,.slice b3 n3 d3],.bool false]) rfl rF hHeld ?_ ?_;·exact FD11
   (try simp only [ZF,pA,pB,pC]);refine tk 7 (v:=.agg #[↑old.authority,↑old.number,↑old.pos,↑old.prev,.slice b1 n1 d1,↑old.sel.index,.slice b2 n2 d2,.slice b3 n3 d3]) rfl rF hHeld ?_ ?_;·exact FD11
   (try simp only [ZF,pA,pB,pC]);refine tk 8 (v:=.bool false) rfl rF hHeld ?_ ?_;·exact FD11
   (try simp only [ZF,pA,pB,pC]);refine rk 9 rfl (fun K hK=>?_);go_simp;refine hK.out _ _ (SC.out _ (hcl.trans (Cells.of_below ((Ac _ _).alloc nR _)))) (fun hHeld=>?_);clear hK K;(try simp only [ZF,pA,pB,pC]);refine rk 10 rfl (fun K hK=>?_);go_simp;refine hK.out _ _ (SC.out _ (hcl.trans (Cells.of_below ((Ac _ _).alloc nR _)))) (fun hHeld=>?_);clear hK K;(try simp only [ZF,pA,pB,pC]);refine tk 11 (v:=.bool false) rfl rF hHeld ?_ ?_;·exact FD11
   (try simp only [ZF,pA,pB,pC]);refine Eb kR (NoPanic.normal ?_) _;have lY:Below W1 W1 (w'.alloc (.cells #[↑old.authority,↑old.number,↑old.pos,↑old.prev,.slice b1 n1 d1,↑old.sel.index,.slice b2 n2 d2,.slice b3 n3 d3] 31)):=(hBd.trans (hh.mono hBd.size)).alloc (hBd.trans (hh.mono hBd.size)).size _;have hYo:=B7 w' [↑old.authority,↑old.number,↑old.pos,↑old.prev,.slice b1 n1 d1,↑old.sel.index,.slice b2 n2 d2,.slice b3 n3 d3] 31;have hY:=Aa (hB4.trans (lY.mono hB4.size));have hYv:=Aa ((lY.block _ hP1).trans hvb);have hYp:=Aa ((lY.block _ hP2).trans hpl);have hYo:=Aa hYo;clear hcl hHeld lY;generalize w'.alloc (.cells #[↑old.authority,↑old.number,↑old.pos,↑old.prev,.slice b1 n1 d1,↑old.sel.index,.slice b2 n2 d2,.slice b3 n3 d3] 31)=Y at *;generalize w'.heap.size=oB at *;clear hh;exact TAIL Y oB ⟨hY,hYv,hYp,hYo⟩
  ·refine Ce (o:=_) rfl (fun K hK=>?_) Ey;go_simp;refine hK.out _ _ (SC.out _ (Cells.of_below (hBz _))) (fun hHeld=>?_);clear hK K;(try simp only [ZF,pA,pB,pC]);refine rk 5 rfl (fun K hK=>?_);go_simp;refine (PC.out _ (hBz _)).mono ?_;rintro e w' ⟨rfl,hh⟩;have hcl:Cells W1 w':=(Cells.of_below (hBz _)).trans (Cells.of_below hh);go_wp2_with fail;refine hK.out _ _ (SC.out _ hcl) (fun hHeld=>?_);clear hK K;(try simp only [ZF,pA,pB,pC]);refine tk 6 (v:=.tuple #[.agg #[↑old.authority,↑old.number,↑old.pos,↑old.prev,.slice b1 n1 d1,↑old.sel.index,.slice b2 n2 d2,.slice b3 n3 d3],.bool false]) rfl rF hHeld ?_ ?_;·exact FD11
   (try simp only [ZF,pA,pB,pC]);refine tk 7 (v:=.agg #[↑old.authority,↑old.number,↑old.pos,↑old.prev,.slice b1 n1 d1,↑old.sel.index,.slice b2 n2 d2,.slice b3 n3 d3]) rfl rF hHeld ?_ ?_;·exact FD11
   (try simp only [ZF,pA,pB,pC]);refine tk 8 (v:=.bool false) rfl rF hHeld ?_ ?_;·exact FD11
   (try simp only [ZF,pA,pB,pC]);have hz:w'.heap[W1.heap.size]?=some (.cells #[.int .i64 0,.int .i64 0,.int .i64 0,.string ⟨#[]⟩,.slice none 0 0,.int .i64 0,.slice none 0 0,.slice none 0 0] 31):=(hh.block W1 (by show W1.heap.size<(W1.alloc (.cells #[.int .i64 0,.int .i64 0,.int .i64 0,.string ⟨#[]⟩,.slice none 0 0,.int .i64 0,.slice none 0 0,.slice none 0 0] 31)).heap.size;simp)).trans (Au W1 (.cells #[.int .i64 0,.int .i64 0,.int .i64 0,.string ⟨#[]⟩,.slice none 0 0,.int .i64 0,.slice none 0 0,.slice none 0 0] 31));have hth:w'.there W1 0 8:=fun j hj=>by exact FD104
   have hall:(#[↑old.authority,↑old.number,↑old.pos,↑old.prev,.slice b1 n1 d1,↑old.sel.index,.slice b2 n2 d2,.slice b3 n3 d3]:Array ZC).all (·.oneCell')=true:=F9 (cs:=[↑old.authority,↑old.number,↑old.pos,↑old.prev,.slice b1 n1 d1,↑old.sel.index,.slice b2 n2 d2,.slice b3 n3 d3]) (by intro u hu;simp only [A8,Bc,Dj] at hu;rcases hu with rfl|rfl|rfl|rfl|rfl|rfl|rfl|rfl <;> rfl);refine rk 10 rfl (fun K hK=>?_);rw [Ap rF];refine wp_store_mid 31 _ _ rfl W1 0 #[↑old.authority,↑old.number,↑old.pos,↑old.prev,.slice b1 n1 d1,↑old.sel.index,.slice b2 n2 d2,.slice b3 n3 d3] rfl rfl hth hi8 hall ?_;refine hK.out _ _ (SC.out _ (CF.out _ _ hcl (Far.setCells nR _ _ (Far.refl _ _)))) (fun hHeld=>?_);clear hK K;(try simp only [ZF,pA,pB,pC]);refine tk 11 (v:=.bool false) rfl rF hHeld ?_ ?_;·exact FD11
   (try simp only [ZF,pA,pB,pC]);refine Eb kR (NoPanic.normal ?_) _;have hbw:Below W1 W1 w':=(hBz _).trans (hh.mono (hBz _).size);have lY:Below W1 W1 (w'.setCells W1 0 #[↑old.authority,↑old.number,↑old.pos,↑old.prev,.slice b1 n1 d1,↑old.sel.index,.slice b2 n2 d2,.slice b3 n3 d3].toList):=Cy hbw nR _ 0;have hYo:=Ee w' W1 0 [↑old.authority,↑old.number,↑old.pos,↑old.prev,.slice b1 n1 d1,↑old.sel.index,.slice b2 n2 d2,.slice b3 n3 d3] hth;have hY:=Aa (hB4.trans (lY.mono hB4.size));have hYv:=Aa ((lY.block _ hP1).trans hvb);have hYp:=Aa ((lY.block _ hP2).trans hpl);have hYo:=Aa hYo;clear hcl hHeld lY;clear hbw hz hth hall hh;generalize w'.setCells W1 0 _=Y at *;generalize W1.heap.size=oB at *;exact TAIL Y oB ⟨hY,hYv,hYp,hYo⟩
 ·rintro Y oB ⟨hY,hYv,hYp,hYo⟩;clear PC SC CF hBd hBz hP1 hP2 hvb hpl hB4 hf0 hm0 lD;have nD:(prog.info? 31).map (·.size)=some (Al old ⟨.slice b1 n1 d1,.slice b2 n2 d2,.slice b3 n3 d3⟩).length:=hi8;obtain⟨bo,hbo⟩:=Yj (CH.bare old);obtain⟨bv,hbv⟩:=Yj (CH.bare v);have BO:=Si old ⟨.slice b1 n1 d1,.slice b2 n2 d2,.slice b3 n3 d3⟩ Y (hG.below hY.out) (hOS.out Y hY.out);have BV:=fun (W:ZB) (hb:Below w w W)=>Si v ⟨.slice a1 m1 c1,.slice a2 m2 c2,.slice a3 m3 c3⟩ W (hG.below hb) (HV.out W hb);rw [hbo] at BO;rw [hbv] at BV;dsimp only [Al] at BO BV nD;rw [hA.out] at BV;have BO:=Aa BO;have BV:=Aa BV;obtain⟨tO,hTO⟩:∃ t,Hid ((CH.bare old).getD []=t):=⟨_,Aa rfl⟩
  obtain⟨tV,hTV⟩:∃ t,Hid ((CH.bare v).getD []=t):=⟨_,Aa rfl⟩
  rw [hTO.out] at BO;rw [hTV.out] at BV;rw [hTO.out,hTV.out] at hRX;clear hbo hbv;go_wp2_with (refine Bf rfl 31 _ rfl oB 0 rfl [↑old.authority,↑old.number,↑old.pos,↑old.prev,.slice b1 n1 d1,↑old.sel.index,.slice b2 n2 d2,.slice b3 n3 d3] _ hYo.out underlying31 rfl nD ?_)
  refine BO.out.mono ?_;rintro e w2 ⟨rfl,hb2⟩;have hY2:=Aa (hY.out.trans (hb2.mono hY.out.size));have hv2:=(hb2.block _ (aZ hYv.out)).trans hYv.out;have hrv:w2.rangeAt w 0 [↑A,↑v.number,↑v.pos,↑v.prev,.slice a1 m1 c1,↑v.sel.index,.slice a2 m2 c2,.slice a3 m3 c3]:=fun j u hj=>by rw [Bh,Ab hv2 j];simpa using hj
  have hrv:=Aa hrv;have hb2:=Aa hb2;clear BO hv2;go_wp2_with (refine Bf rfl 31 _ rfl w 0 rfl [↑A,↑v.number,↑v.pos,↑v.prev,.slice a1 m1 c1,↑v.sel.index,.slice a2 m2 c2,.slice a3 m3 c3] _ hrv.out underlying31 rfl nD ?_)
  refine (BV.out _ hY2.out).mono ?_;rintro e w3 ⟨rfl,hb3⟩;have hY3:=Aa (hY2.out.trans (hb3.mono hY2.out.size));have hYb:=Aa (hb2.out.trans (hb3.mono hb2.out.size));clear BV hb3 hrv hb2 hY2;cases hq:(tO==tV) with
  |true =>
   have q:((⟨tO.toArray⟩:ByteArray)==⟨tV.toArray⟩)=true:=by rw [Cw];exact hq
   have hRX:=hRX.out;rw [hq,Ap rfl] at hRX;subst hRX;go_wp2;go_ret;exact⟨rfl,HC.out.grow hY3.out,Held.of_below hY3.out⟩
  |false =>
   have q:((⟨tO.toArray⟩:ByteArray)==⟨tV.toArray⟩)=false:=by rw [Cw];exact hq
   have hRX:=hRX.out;rw [hq,Af dC] at hRX;have hRX:=Aa hRX;have hYc:Cells Y w3:=Cells.of_below hYb.out;have SC2:=Aa fun (W':ZB) (h:Cells w3 W')=>(⟨h _ _ (hYc _ _ (Ab hYp.out 0)),h _ _ (hYc _ _ (Ab hYp.out 1)),h _ _ (hYc _ _ (hYo.out 0 _ rfl)),h _ _ (hYc _ _ (hYo.out 1 _ rfl)),h _ _ (hYc _ _ (hYo.out 2 _ rfl)),h _ _ (hYc _ _ (hYo.out 3 _ rfl)),h _ _ (hYc _ _ (hYo.out 4 _ rfl)),h _ _ (hYc _ _ (hYo.out 5 _ rfl)),h _ _ (hYc _ _ (hYo.out 6 _ rfl)),h _ _ (hYc _ _ (hYo.out 7 _ rfl)),h _ _ (hYc _ _ (Ab hYv.out 0)),h _ _ (hYc _ _ (Ab hYv.out 1)),h _ _ (hYc _ _ (Ab hYv.out 2)),h _ _ (hYc _ _ (Ab hYv.out 3)),h _ _ (hYc _ _ (Ab hYv.out 4)),h _ _ (hYc _ _ (Ab hYv.out 5)),h _ _ (hYc _ _ (Ab hYv.out 6)),h _ _ (hYc _ _ (Ab hYv.out 7))⟩:W'.cell? ⟨wq,0,none⟩=some ↑A/\W'.cell? ⟨wq,1,none⟩=some ↑v.number/\W'.cell? ⟨oB,0,none⟩=some ↑old.authority/\W'.cell? ⟨oB,1,none⟩=some ↑old.number/\W'.cell? ⟨oB,2,none⟩=some ↑old.pos/\W'.cell? ⟨oB,3,none⟩=some ↑old.prev/\W'.cell? ⟨oB,4,none⟩=some (.slice b1 n1 d1)/\W'.cell? ⟨oB,5,none⟩=some ↑old.sel.index/\W'.cell? ⟨oB,6,none⟩=some (.slice b2 n2 d2)/\W'.cell? ⟨oB,7,none⟩=some (.slice b3 n3 d3)/\W'.cell? ⟨w,0,none⟩=some ↑A/\W'.cell? ⟨w,1,none⟩=some ↑v.number/\W'.cell? ⟨w,2,none⟩=some ↑v.pos/\W'.cell? ⟨w,3,none⟩=some ↑v.prev/\W'.cell? ⟨w,4,none⟩=some (.slice a1 m1 c1)/\W'.cell? ⟨w,5,none⟩=some ↑v.sel.index/\W'.cell? ⟨w,6,none⟩=some (.slice a2 m2 c2)/\W'.cell? ⟨w,7,none⟩=some (.slice a3 m3 c3))
   obtain⟨yh,hfm,hfk⟩:=HC.out.forks;have hc2:w.cell? ⟨c,2,none⟩=some (.map (some r2)):=Ab gI.out 2;have hmc:Hid (∀ W,Below w w W->W.cell? ⟨c,2,none⟩=some (.map (some r2))):=Aa fun W hb=>(hb.cell (p:=⟨c,2,none⟩) iw).trans hc2;have hfm:=Aa hfm;have hfk:=Aa hfk;have hBd:Below w3 w3 w3.drew:=(Ac _ w3).drew;have hb3:=Aa (hY3.out.trans (hBd.mono hY3.out.size));clear hc2 hYc hYb hYo hYp hYv hY;go_wp2_with fail;cases hlf:bH (v.authority,v.number) forks with
   |none =>
    have hRX:=hRX.out;rw [kM,hlf] at hRX;dsimp only at hRX;subst hRX;have PF:=C10 c 2 r2 (v.authority,v.number) old v (.slice b1 n1 d1) (.slice b2 n2 d2) (.slice b3 n3 d3) (.slice a1 m1 c1) (.slice a2 m2 c2) (.slice a3 m3 c3) yh w3.drew (hmc.out _ hb3.out) (hfm.out.below hb3.out) (hfk.out.none 0 hlf) (Dh.1 rF);dsimp only [Bk] at PF;rw [hA.out] at PF;have hM2:Hid (Mb8 w3.drew r2):=Aa (by obtain⟨es,ck,e,_⟩:=hfm.out.below hb3.out;exact⟨es,ck,e⟩);have PF:=Aa PF;refine wp_region_noPanic ?_;refine F8 (S:=fun W'=>W'.cell? ⟨wq,0,none⟩=some ↑A/\W'.cell? ⟨wq,1,none⟩=some ↑v.number/\W'.cell? ⟨oB,0,none⟩=some ↑old.authority/\W'.cell? ⟨oB,1,none⟩=some ↑old.number/\W'.cell? ⟨oB,2,none⟩=some ↑old.pos/\W'.cell? ⟨oB,3,none⟩=some ↑old.prev/\W'.cell? ⟨oB,4,none⟩=some (.slice b1 n1 d1)/\W'.cell? ⟨oB,5,none⟩=some ↑old.sel.index/\W'.cell? ⟨oB,6,none⟩=some (.slice b2 n2 d2)/\W'.cell? ⟨oB,7,none⟩=some (.slice b3 n3 d3)/\W'.cell? ⟨w,0,none⟩=some ↑A/\W'.cell? ⟨w,1,none⟩=some ↑v.number/\W'.cell? ⟨w,2,none⟩=some ↑v.pos/\W'.cell? ⟨w,3,none⟩=some ↑v.prev/\W'.cell? ⟨w,4,none⟩=some (.slice a1 m1 c1)/\W'.cell? ⟨w,5,none⟩=some ↑v.sel.index/\W'.cell? ⟨w,6,none⟩=some (.slice a2 m2 c2)/\W'.cell? ⟨w,7,none⟩=some (.slice a3 m3 c3)) kR (SC2.out _ (Cells.of_below hBd)) (fun hHeld=>?_);refine tk 0 (v:=.pointer (some ⟨c,0,none⟩)) rfl rF hHeld ?_ ?_;·exact FD11
    (try simp only [ZF,pA,pB,pC]);refine tk 1 (v:=.pointer (some ⟨c,0,none⟩)) rfl rF hHeld ?_ ?_;·exact FD11
    (try simp only [ZF,pA,pB,pC]);refine tk 2 (v:=.pointer (some ⟨c,2,none⟩)) rfl rF hHeld ?_ ?_;·exact FD11
    (try simp only [ZF,pA,pB,pC]);refine tk 3 (v:=.agg #[↑A,↑v.number]) rfl rF hHeld ?_ ?_;·exact FD11
    (try simp only [ZF,pA,pB,pC]);refine tk 4 (v:=.agg #[↑old.authority,↑old.number,↑old.pos,↑old.prev,.slice b1 n1 d1,↑old.sel.index,.slice b2 n2 d2,.slice b3 n3 d3]) rfl rF hHeld ?_ ?_;·exact FD11
    (try simp only [ZF,pA,pB,pC]);refine tk 5 (v:=.agg #[↑A,↑v.number,↑v.pos,↑v.prev,.slice a1 m1 c1,↑v.sel.index,.slice a2 m2 c2,.slice a3 m3 c3]) rfl rF hHeld ?_ ?_;·exact FD11
    (try simp only [ZF,pA,pB,pC]);refine tk 6 (v:=.agg #[↑old.authority,↑old.number,↑old.pos,↑old.prev,.slice b1 n1 d1,↑old.sel.index,.slice b2 n2 d2,.slice b3 n3 d3,↑A,↑v.number,↑v.pos,↑v.prev,.slice a1 m1 c1,↑v.sel.index,.slice a2 m2 c2,.slice a3 m3 c3]) rfl rF hHeld ?_ ?_;·exact FD11
    (try simp only [ZF,pA,pB,pC]);refine rk 7 rfl (fun K hK=>?_);go_simp;refine PF.out.mono ?_;rintro e w4 ⟨rfl,hh,hmm⟩;have hcl:Cells w3 w4:=(Cells.of_below hBd).trans (hh.cells fun r hr=>by cases Bv.1 hr;exact hM2.out);go_wp2_with fail;refine hK.out _ _ (SC2.out _ hcl) (fun hHeld=>?_);clear hK K;(try simp only [ZF,pA,pB,pC]);refine Eb kR (NoPanic.normal ?_) _;have hfin:=Aa ((Held.of_below hb3.out).trans hh);have hmm:Hid (Cp Bk r2 w4 (yh++[((v.authority,v.number),.agg (Al old ⟨.slice b1 n1 d1,.slice b2 n2 d2,.slice b3 n3 d3⟩++Al v ⟨.slice a1 m1 c1,.slice a2 m2 c2,.slice a3 m3 c3⟩).toArray)])):=Aa (by dsimp only [Al];rw [hA.out];exact hmm);clear hcl hHeld PF hh;go_wp2;go_ret;exact⟨rfl,Can HC.out hv0.out hos0.out hfin.out hfm.out hfk.out hmm.out,hfin.out.mono sM⟩
   |some f0 =>
    have hRX:=hRX.out;rw [kM,hlf] at hRX;dsimp only at hRX;subst hRX;obtain⟨j0,x0,hf0,s1,s2,hx0,hv1,hv2⟩:=hfk.out.some 0 hlf;obtain⟨p1,p2,p3,p4,p5,p6,p7,p8,p9,rfl⟩:=hv1.sl;obtain⟨q1,q2,q3,q4,q5,q6,q7,q8,q9,rfl⟩:=hv2.sl;subst hx0;have PF:=Cvh c 2 r2 (v.authority,v.number) old v f0.1 f0.2 (.slice b1 n1 d1) (.slice b2 n2 d2) (.slice b3 n3 d3) (.slice a1 m1 c1) (.slice a2 m2 c2) (.slice a3 m3 c3) p1 p4 p7 q1 q4 q7 p2 p5 p8 q2 q5 q8 p3 p6 p9 q3 q6 q9 yh j0 w3.drew (hmc.out _ hb3.out) (hfm.out.below hb3.out) hf0;dsimp only [Bk] at PF;rw [hA.out] at PF;have PF:=Aa PF;clear hf0 hv1 hv2;refine wp_region_noPanic ?_;refine F8 (S:=fun W'=>W'.cell? ⟨wq,0,none⟩=some ↑A/\W'.cell? ⟨wq,1,none⟩=some ↑v.number/\W'.cell? ⟨oB,0,none⟩=some ↑old.authority/\W'.cell? ⟨oB,1,none⟩=some ↑old.number/\W'.cell? ⟨oB,2,none⟩=some ↑old.pos/\W'.cell? ⟨oB,3,none⟩=some ↑old.prev/\W'.cell? ⟨oB,4,none⟩=some (.slice b1 n1 d1)/\W'.cell? ⟨oB,5,none⟩=some ↑old.sel.index/\W'.cell? ⟨oB,6,none⟩=some (.slice b2 n2 d2)/\W'.cell? ⟨oB,7,none⟩=some (.slice b3 n3 d3)/\W'.cell? ⟨w,0,none⟩=some ↑A/\W'.cell? ⟨w,1,none⟩=some ↑v.number/\W'.cell? ⟨w,2,none⟩=some ↑v.pos/\W'.cell? ⟨w,3,none⟩=some ↑v.prev/\W'.cell? ⟨w,4,none⟩=some (.slice a1 m1 c1)/\W'.cell? ⟨w,5,none⟩=some ↑v.sel.index/\W'.cell? ⟨w,6,none⟩=some (.slice a2 m2 c2)/\W'.cell? ⟨w,7,none⟩=some (.slice a3 m3 c3)) kR (SC2.out _ (Cells.of_below hBd)) (fun hHeld=>?_);refine tk 0 (v:=.pointer (some ⟨c,0,none⟩)) rfl rF hHeld ?_ ?_;·exact FD11
    (try simp only [ZF,pA,pB,pC]);refine tk 1 (v:=.pointer (some ⟨c,0,none⟩)) rfl rF hHeld ?_ ?_;·exact FD11
    (try simp only [ZF,pA,pB,pC]);refine tk 2 (v:=.pointer (some ⟨c,2,none⟩)) rfl rF hHeld ?_ ?_;·exact FD11
    (try simp only [ZF,pA,pB,pC]);refine tk 3 (v:=.agg #[↑A,↑v.number]) rfl rF hHeld ?_ ?_;·exact FD11
    (try simp only [ZF,pA,pB,pC]);refine tk 4 (v:=.agg #[↑old.authority,↑old.number,↑old.pos,↑old.prev,.slice b1 n1 d1,↑old.sel.index,.slice b2 n2 d2,.slice b3 n3 d3]) rfl rF hHeld ?_ ?_;·exact FD11
    (try simp only [ZF,pA,pB,pC]);refine tk 5 (v:=.agg #[↑A,↑v.number,↑v.pos,↑v.prev,.slice a1 m1 c1,↑v.sel.index,.slice a2 m2 c2,.slice a3 m3 c3]) rfl rF hHeld ?_ ?_;·exact FD11
    (try simp only [ZF,pA,pB,pC]);refine tk 6 (v:=.agg #[↑old.authority,↑old.number,↑old.pos,↑old.prev,.slice b1 n1 d1,↑old.sel.index,.slice b2 n2 d2,.slice b3 n3 d3,↑A,↑v.number,↑v.pos,↑v.prev,.slice a1 m1 c1,↑v.sel.index,.slice a2 m2 c2,.slice a3 m3 c3]) rfl rF hHeld ?_ ?_;·exact FD11
    (try simp only [ZF,pA,pB,pC]);refine rk 7 rfl (fun K hK=>?_);go_simp;refine PF.out.mono ?_;rintro e w4 ⟨rfl,hh⟩;have hcl:Cells w3 w4:=(Cells.of_below hBd).trans (Cells.of_below hh);go_wp2_with fail;refine hK.out _ _ (SC2.out _ hcl) (fun hHeld=>?_);clear hK K;(try simp only [ZF,pA,pB,pC]);refine Eb kR (NoPanic.normal ?_) _;have hfin:=Aa (hb3.out.trans (hh.mono hb3.out.size));clear hcl hHeld PF hh;go_wp2;go_ret;exact⟨rfl,HC.out.grow hfin.out,Held.of_below hfin.out⟩
end
section
open Go.Lib Go.Proofs.Tryz Go.RowKit Go.Shelf Go.Sort CH
theorem Asc (B0 K0:Nat) (c r1 r2:Nat) (keys:List (List UInt8)) (known:CH.Known) (forks:CH.Forks) (v:CH.Version) (s:dA) (w:ZB) (hG:Gc w) (hC:ChainIn B0 K0 w c r1 r2 keys known forks) (hv:aP B0 w v s) : ZE prog 15 #[.pointer (some ⟨c,0,none⟩),.agg (Al v s).toArray] w (ou B0 K0 w c r1 r2 keys (tJ keys known forks v)):=by
 unfold tJ gU;cases ht:dD v with
 |error er=>exact L4i B0 K0 c r1 r2 keys known forks v s w hG hC hv er ht
 |ok t =>
  dsimp only;by_cases ha:v.authority >= (keys.length:Int)
  ·rw [Ap (Ak ha)];exact L64 B0 K0 c r1 r2 keys known forks v s w hG hC hv t ht ha
  ·have hlt:v.authority<(keys.length:Int):=oM;rw [Af (by simpa using ha)];cases hk:eU v (keys.getD v.authority.toNat []) with
   |false =>exact M2a B0 K0 c r1 r2 keys known forks v s w hG hC hv t ht hlt hk
   |true =>
    cases hl:bH (v.authority,v.number) known with
    |none=>exact Fpt B0 K0 c r1 r2 keys known forks v s w hG hC hv t ht hlt hk hl
    |some old=>exact For B0 K0 c r1 r2 keys known forks v s w hG hC hv t ht hlt hk old hl
theorem M3a (c r1 r2:Nat) (keys:List (List UInt8)) (known:CH.Known) (forks:CH.Forks) (v:CH.Version) (s:dA) (w:ZB) (hG:Gc w) (hC:De w c r1 r2 keys known forks) (hv:aP w w v s) : ZE prog 15 #[.pointer (some ⟨c,0,none⟩),.agg (Al v s).toArray] w (Ifb w c r1 r2 keys (tJ keys known forks v)):=by refine (Asc _ _ c r1 r2 keys known forks v s w hG hC hv).mono ?_;rintro e w1 ⟨h1,h2,h3⟩;exact⟨h1,h2.at,h3⟩
theorem U1 {c r1 r2:Nat} {keys:List (List UInt8)} {known:CH.Known} {forks:CH.Forks} {x:Int × CH.Known × CH.Forks} {w0 w w':ZB} {e:Ending} (hG:Gc w) (hC:De w c r1 r2 keys known forks) (h1:w0.heap.size<=r1) (h2:w0.heap.size<=r2) (h9:9<=w0.heap.size) (hB:Below w0 w0 w) (hR:Ifb w c r1 r2 keys x e w') : Gc w'/\Below w0 w0 w'/\Below w0 w w':=by obtain⟨_,_,hH⟩:=hR;have hB':Below w0 w w':=hH.below hB.size (fun r hr=>by simp only [A8,Bc,Dj] at hr;rcases hr with rfl|rfl <;> assumption);refine⟨hG.kept (hH.cells fun r hr=>?_) (hB'.mono h9),hB.trans hB',hB'⟩;exact FD74
end
end Go.Proofs.YtpkjhpenpfcpfaaGreatDoor
namespace CH
section
theorem Aap (n:Nat) (h:n<16):isHex (hexDigit n)=true:=by
 have:∀ k:Fin 16,isHex (hexDigit k.val)=true:=by decide +kernel
 exact this ⟨n,h⟩
theorem Abf (k n:Nat):(gJ k n).all isHex=true:=by
 induction k generalizing n with
 |zero=>rfl
 |succ k ih=>simp only [gJ,Io,ih,Jl,Nb,Aap _ (J9 n (dC:0<16)),Bool.and_self]
theorem Oa (l:List UInt8):aC (sum l)=true:=by
 have h1:=eu l;have h2:(sum l).all isHex=true:=by unfold sum;generalize wO l=n;exact Abf 16 n
 generalize sum l=s at *;unfold aC;rw [h1,h2];rfl
theorem Oi (ls:List (List UInt8)):aC (dl ls)=true:=Oa _
theorem Xu (n:Nat) (l:List UInt8) (h:aC l=true):aC (chain n l)=true:=by
 cases n with
 |zero=>exact h
 |succ n=>rw [jq];exact Oa _
theorem jy (ls:List (List UInt8)):aC (root ls)=true:=by
 rcases ls with _|⟨x,_|⟨y,r⟩⟩;·exact Oi _
 ·exact Oi _
 ·rw [jU _ sM];exact Oa _
theorem Oh (f:Nat):∀ (ls:List (List UInt8)) (i:Nat),∀ x∈gV f ls i,aC x=true:=by
 induction f with
 |zero=>intro ls i x hx;simp [gV] at hx
 |succ f ih =>
  intro ls i x hx;unfold gV at hx;split at hx;·simp at hx
  ·split at hx
   ·rcases A8.1 hx with rfl|hx;·exact jy _
    ·exact ih _ _ x hx
   ·rcases A8.1 hx with rfl|hx;·exact jy _
    ·exact ih _ _ x hx
theorem kV (ls:List (List UInt8)) (i:Nat):∀ x∈path ls i,aC x=true:=fun x hx=>Oh _ _ _ x (List.mem_reverse.1 hx)
theorem lM (secret:List UInt8) (i:Nat) (m:List UInt8):∀ x∈sig secret i m,aC x=true:=fun x hx=>by obtain⟨y,_,rfl⟩:=Eo.1 hx;exact Xu _ _ (Oi _)
theorem Aa8 (a b:Nat) (l:List UInt8):chain a (chain b l)=chain (b+a) l:=by
 induction b generalizing l with
 |zero=>rw [Bh];rfl
 |succ b ih=>rw [Nat.add_right_comm];exact ih (sum l)
theorem lC (secret:List UInt8) (i:Nat) (m:List UInt8):(sig secret i m).length=18:=by simp [sig,length_digits]
theorem Abj (secret:List UInt8) (i:Nat) (m:List UInt8):ends (sig secret i m) m=(List.range 18).map fun k=>chain 15 (start secret i k):=by
 apply Jp;intro k;by_cases hk:k<18
 ·have hd:k<(digits m).length:=by rw [length_digits];exact hk
  obtain⟨d,hdk⟩:∃ d,(digits m)[k]?=some d:=⟨_,Ad hd⟩
  have hle:=Aac m _ (Aw hdk);have hz:((digits m).zip (sig secret i m))[k]?=some (d,chain d (start secret i k)):=by rw [List.getElem?_zip_eq_some];refine⟨hdk,?_⟩;unfold sig;rw [Fe,List.getElem?_zipIdx,hdk,Gv,Gv,Bh]
  unfold ends;rw [Fe,hz,Fe,Lr hk,Gv,Gv];dsimp only;rw [Aa8,show d+(15 - d)=15 from by omega]
 ·rw [Gm (by simp [ends,length_digits,lC];omega),Gm (by simp;omega)]
theorem qF (secret:List UInt8) (i:Nat) (m:List UInt8):dl (ends (sig secret i m) m)=jO secret i:=by rw [Abj];rfl
theorem vC (secret:List UInt8) (h i:Nat) (hi:i<2 ^ h):(keys secret h)[i]?=some (jO secret i):=by unfold keys;rw [Fe,Lr hi];rfl
theorem Xk (l:List (List UInt8)) (d:List UInt8) (b:Bool) (hd:d.length=16):gG (l++[d],b)=(d,(l,b)):=by
 unfold gG;rw [List.getLast?_concat];dsimp only;rw [List.dropLast_concat];have:d.isEmpty=false:=by cases d with|nil=>simp at hd|cons=>rfl
 rw [this,Bool.or_false]
theorem Abb (f:Nat):∀ (g:Nat) (ls:List (List UInt8)) (i:Nat) (leaf:List UInt8) (pre:List (List UInt8)) (b:Bool),ls.length<=f->ls.length<=g->ls[i]?=some leaf -> upF leaf f ls.length i (pre++(gV g ls i).reverse,b)=(root ls,(pre,b)):=by
 induction f with
 |zero =>intro g ls i leaf pre b hf _ hi;have:ls=[]:=Cb.1 oM;subst this;simp at hi
 |succ f ih =>
  intro g ls i leaf pre b hf hg hi;have hil:i<ls.length:=(lS hi)
  by_cases h1:ls.length=1
  ·match ls,h1 with
   |[x],_ =>
    obtain rfl:i=0:=by simpa using hil
    obtain rfl:x=leaf:=by simpa using hi
    rw [mM _ _ _ sM];simp only [List.reverse_nil,Gy];rfl
  ·have h2:2<=ls.length:=oM;obtain⟨g,rfl⟩:∃ g',g=g'+1:=⟨g - 1,oM⟩
   have hp:=jf ls.length;have hh:=jo ls.length h2;have ht:(ls.take (half ls.length)).length=half ls.length:=by rw [Ec];omega
   have hd:(ls.drop (half ls.length)).length=ls.length - half ls.length:=by rw [Et]
   rw [upF,Af h1];by_cases hlt:i<half ls.length;·rw [Ap hlt,kZ _ _ _ h2 hlt,List.reverse_cons,<- D9,Xk _ _ _ (jm _)];dsimp only;have:=ih g (ls.take (half ls.length)) i leaf pre b oM oM (by rw [Ja hlt];exact hi);rw [ht] at this;rw [this,jU ls h2]
   ·rw [Af hlt,jV _ _ _ h2 hlt,List.reverse_cons,<- D9,Xk _ _ _ (jm _)];dsimp only;have:=ih g (ls.drop (half ls.length)) (i - half ls.length) leaf pre b oM oM (by rw [Ii,show half ls.length+(i - half ls.length)=i from by omega];exact hi);rw [hd] at this;rw [this,jU ls h2]
theorem nK (ls:List (List UInt8)) (i:Nat) (leaf:List UInt8) (hi:ls[i]?=some leaf):dU (root ls) ls.length i leaf (path ls i)=true:=by
 have h:=Abb ls.length ls.length ls i leaf [] false nR nR hi;rw [Dp] at h;unfold dU path;rw [h];have:(gV ls.length ls i).reverse.all aC=true:=by rw [Dh];exact fun x hx=>Oh _ _ _ x (List.mem_reverse.1 hx)
 rw [this];simp
theorem Aab (h:Nat):∀ (d j f:Nat),j+d=h->d<=f->jP f (2 ^ (h+1)) (2 ^ j)=2 ^ h
 |0,j,f,hj,_=>by
  obtain rfl:j=h:=oM
  rw [nT]
  rw [Jz];omega
 |d+1,j,f,hj,hf=>by
  obtain⟨f,rfl⟩:∃ f',f=f'+1:=⟨f - 1,oM⟩
  have hlt:2 ^ (j+1)<2 ^ (h+1):=Nat.pow_lt_pow_right dC oM
  have e:2*2 ^ j=2 ^ (j+1):=by rw [Jz];omega
  rw [jP,e,Ap hlt]
  exact Aab h d (j+1) f oM oM
theorem Abg (h:Nat):half (2 ^ (h+1))=2 ^ h:=by have hlt:h<2 ^ h:=Nat.lt_two_pow_self;have:2 ^ h<=2 ^ (h+1):=Lh dC oM;exact Aab h h 0 (2 ^ (h+1)) oM oM
theorem Aai (h:Nat):∀ (g:Nat) (ls:List (List UInt8)) (i:Nat),ls.length=2 ^ h->ls.length<=g->(gV g ls i).length=h:=by
 induction h with
 |zero=>intro g ls i hl _;rw [mM _ _ _ (by rw [hl];exact Bo _)];rfl
 |succ h ih =>
  intro g ls i hl hg;have hpos:1<=2 ^ h:=Nat.one_le_two_pow;have hs:2 ^ (h+1)=2 ^ h+2 ^ h:=by rw [Jz];omega
  obtain⟨g,rfl⟩:∃ g',g=g'+1:=⟨g - 1,oM⟩
  have rV:half ls.length=2 ^ h:=by rw [hl];exact Abg h
  by_cases hlt:i<half ls.length;·rw [kZ _ _ _ oM hlt,Az,ih g _ _ (by rw [Ec,rV];omega) (by rw [Ec,rV];omega)]
  ·rw [jV _ _ _ oM hlt,Az,ih g _ _ (by rw [Et,rV];omega) (by rw [Et,rV];omega)]
theorem mY (secret:List UInt8) (h i:Nat):(path (keys secret h) i).length=h:=by unfold path;rw [List.length_reverse];exact Aai h _ _ _ (length_keys _ _) nR
def yB:Act:=⟨0,⟨0,[],⟨[],[]⟩,0⟩,⟨[],[],0,[],.mk 0 [] 0 0 [],0,0,0⟩,⟨[],[],[],0,0,0,0⟩,⟨[],[],[],[],[],[],0,0,0,0⟩,[],0⟩
def gZ (n:Int):Act:={ yB with kind:=7,id:=[104,49],n:=n }
def lQ:Act:={ yB with kind:=6,holding:=⟨[104,49],[112,49],[112,48],[],[],[],60,51,0,-1⟩ }
def sS:Str:=[115]
def kF (number pos:Int) (prev:Str) (acts:List Act):Version:=⟨0,number,pos,prev,acts,⟨0,[],[]⟩⟩
def sealed (i:Nat) (v:Version) (m:Str):Version:={ v with sel:=⟨i,sig sS i m,path (keys sS 1) i⟩ }
def jD:Str:=pub sS 1
def m1:Str:=[49,53,51,102,50,53,51,99,54,48,57,98,102,50,57,97]
def m2:Str:=[48,51,57,50,98,52,53,97,52,98,98,54,50,56,51,51]
def m3:Str:=[51,56,98,97,54,56,53,102,97,98,52,55,57,57,56,102]
def m4:Str:=[97,97,56,50,51,52,51,48,99,102,51,49,98,55,54,53]
def rD:Version:=kF 1 100 [] [gZ 1]
def yu:Version:=kF 2 100 m1 [gZ 2]
def mV:Version:=kF 1 100 [] [gZ 3]
def rE:Version:=kF 2 99 m1 []
def jA:Version:=sealed 0 rD m1
def oJ:Version:=sealed 1 yu m2
def gY:Version:=sealed 0 mV m3
def mQ:Version:=sealed 1 rE m4
theorem rM {v:Version} {m:Str} (h:(match message v with|.error _=>false|.ok x=>x==m)=true):message v=.ok m:=by
 split at h;·cases h
 ·rename_i x e;rw [e,Dz.1 h]
theorem pG:message rD=.ok m1:=rM (by decide +kernel)
theorem ug:message yu=.ok m2:=rM (by decide +kernel)
theorem nO:message mV=.ok m3:=rM (by decide +kernel)
theorem qy:message rE=.ok m4:=rM (by decide +kernel)
theorem je (i:Nat) (v:Version) (m:Str) (h:v.sel=⟨0,[],[]⟩):message (sealed i v m)=message v:=by obtain⟨_,_,_,_,_,_⟩:=v;dsimp only at h;subst h;rfl
theorem Aaj {v:Version} (h:(match dD v with|.error _=>false|.ok _=>true)=true):∃ t,dD v=.ok t:=by
 split at h;·cases h
 ·rename_i x e;exact⟨x,e⟩
theorem kJ:∃ t,dD jA=.ok t:=Aaj (by decide +kernel)
theorem nH:∃ t,dD oJ=.ok t:=Aaj (by decide +kernel)
theorem kH:∃ t,dD gY=.ok t:=Aaj (by decide +kernel)
theorem mG:∃ t,dD mQ=.ok t:=Aaj (by decide +kernel)
end
end CH
namespace Go.Proofs.YtpkjhpenpfcpfaaGreatDoor
section
open Go.Lib Go.Proofs.Tryz Go.RowKit Go.Shelf Go.Sort CH
def pz:ZC:=.slice none 0 0
def qO:eX:=⟨pz,pz,pz,pz,pz⟩
def Nm2 (w:ZB) (n:Int) (e:Ending) (w':ZB):Prop:=∃ v,e=.returned v/\Gr w' w' v [gZ n]/\Below w w w'
theorem I56 (n:Int) (hn:I64 n) (B:Nat) (w:ZB):fJ B w (gZ n) qO:=by
 have s0:Strs B w pz []:=⟨none,0,rfl,Bo _,oM,fun h=>absurd rfl h⟩
 have hf:C5 (.mk 0 [] 0 0 []):=by unfold C5 Hk;exact⟨sM,trivial⟩
 have hc:(CH.Formula.mk 0 [] 0 0 []).count<=100000000:=by unfold CH.Formula.count aI;omega
 have hd:(CH.Formula.mk 0 [] 0 0 []).depth<=100000000:=by unfold CH.Formula.depth aX;omega
 have i0:I64 0:=⟨dC,dC⟩
 have z:(0:Nat)<=10000:=oM;have z1:(0:Nat)<=100000:=oM;have z2:(2:Nat)<=10000:=oM;have sh:Gk []:=⟨z1,fun l h=>by cases h⟩
 refine⟨⟨none,0,rfl,Bo _,oM,fun h=>absurd rfl h⟩,⟨?_,⟨i0,i0,i0,i0⟩,z,z,z,hf,hc,hd⟩,s0,s0,s0,⟨⟨z,⟨z,z1,fun _ h=>by cases h⟩⟩,i0,z,sh,sh,⟨z,z,z,z,z,sh⟩,z2,⟨by show (-9223372036854775808:Int)<=7;decide,by show (7:Int)<=9223372036854775807;decide⟩,hn⟩⟩;show A6 B w (.mk 0 [] 0 0 []) pz;unfold A6;exact FD81
theorem Lot (n:Int) (hn:I64 n) (w:ZB):ZE prog 13 #[↑n] w (Nm2 w n):=by
 go_enter func13,ntmps13;go_wp2_with fail;go_ret;have hlt:w.heap.size<(w.alloc (.cells (Av (gZ n) qO).toArray 65)).heap.size:=sM;exact⟨.slice (some ⟨w,0,none⟩) 1 1,rfl,⟨some ⟨w,0,none⟩,1,rfl,Bo _,oM,fun _=>⟨w,0,rfl,hlt,fun j x hj=>by
  cases j with
  |zero =>cases hj;refine⟨qO,fun i u hi=>?_,I56 n hn _ _⟩;rw [Nat.zero_mul,Bh];have h:=B7 w (Av (gZ n) qO) 65 i u hi;rw [Bh] at h;exact h
  |succ j=>simp at hj⟩⟩,(Ac _ w).alloc nR _⟩
def VAt (w:ZB) (x:Nat × CH.Version):Prop:=x.1<w.heap.size/\∃ s,w.rangeAt x.1 0 (Al x.2 s)/\aP w w x.2 s
theorem VAt.kept {w w':ZB} {x:Nat × CH.Version} (h:VAt w x) (hc:Cells w w') (hs:w.heap.size<=w'.heap.size):VAt w' x:=by obtain⟨h0,s,h1,h2⟩:=h;exact⟨Ai h0 hs,s,fun j u hj=>hc _ _ (h1 j u hj),(h2.kept hc).mono hs⟩
structure St (w0 w:ZB) (l:List (Nat × CH.Version)):Prop where
 gc:Gc w
 below:Below w0 w0 w
 vers:∀ x∈l,VAt w x
theorem St.go {w0 w w':ZB} {l:List (Nat × CH.Version)} (h:St w0 w l) (hb:Below w w w'):St w0 w' l := ⟨h.gc.below hb,h.below.trans (hb.mono h.below.size),fun x hx=>(h.vers x hx).kept (Cells.of_below hb) hb.size⟩
theorem St.put {w0 w:ZB} {l:List (Nat × CH.Version)} {v:CH.Version} {s:dA} (h:St w0 w l) (hv:aP w w v s):St w0 (w.alloc (.cells (Al v s).toArray 31)) ((w.heap.size,v)::l):=by
 have hb:Below w w (w.alloc (.cells (Al v s).toArray 31)):=(Ac _ w).alloc nR _;have h1:=h.go hb;refine⟨h1.gc,h1.below,fun x hx=>?_⟩;rcases A8.1 hx with rfl|hx;·exact⟨sM,s,B7 w (Al v s) _,(hv.below hb nR).mono hb.size⟩
 ·exact h1.vers x hx
theorem St.added {w0 w w':ZB} {l:List (Nat × CH.Version)} {c r1 r2:Nat} {keys:List (List UInt8)} {known:CH.Known} {forks:CH.Forks} {x:Int × CH.Known × CH.Forks} {e:Ending} (h:St w0 w l) (hC:De w c r1 r2 keys known forks) (h1:w0.heap.size<=r1) (h2:w0.heap.size<=r2) (h9:9<=w0.heap.size) (hR:Ifb w c r1 r2 keys x e w'):St w0 w' l:=by obtain⟨a1,a2,a3⟩:=U1 h.gc hC h1 h2 h9 h.below hR;refine⟨a1,a2,fun y hy=>(h.vers y hy).kept ?_ a3.size⟩;obtain⟨_,_,hH⟩:=hR;refine hH.cells fun r hr=>?_;exact FD74
theorem St.at {w0 w:ZB} {l:List (Nat × CH.Version)} (h:St w0 w l) {b:Nat} {v:CH.Version} (hm:(b,v)∈l):∃ s,w.rangeAt b 0 (Al v s)/\aP w w v s:=(h.vers _ hm).2
def ChP (w0 w:ZB) (K:List UInt8) (c r1 r2:Nat) (known:CH.Known) (forks:CH.Forks):Prop:=De w c r1 r2 [K] known forks/\w0.heap.size<=r1/\w0.heap.size<=r2
theorem ChP.go {w0 w w':ZB} {K:List UInt8} {c r1 r2:Nat} {known:CH.Known} {forks:CH.Forks} (h:ChP w0 w K c r1 r2 known forks) (hb:Below w w w'):ChP w0 w' K c r1 r2 known forks:=⟨h.1.below hb,h.2⟩
theorem Mab (B:Nat) (w:ZB):Gr B w (.slice none 0 0) []:=⟨none,0,rfl,Bo _,oM,fun h=>absurd rfl h⟩
def oO (K:List UInt8) (V:CH.Version) (known:CH.Known) (forks:CH.Forks) (er:Int) (known':CH.Known) (nV:CH.Forks):Prop := ∀ (w0 w:ZB) (l:List (Nat × CH.Version)) (c r1 r2:Nat) (s:dA),9<=w0.heap.size->St w0 w l->ChP w0 w K c r1 r2 known forks->aP w w V s -> ZE prog 15 #[.pointer (some ⟨c,0,none⟩),.agg (Al V s).toArray] w fun e w'=>e=.returned ↑er/\St w0 w' l/\ChP w0 w' K c r1 r2 known' nV
def uU (K:List UInt8) (known:CH.Known) (n:Int):Prop := ∀ (w0 w:ZB) (l:List (Nat × CH.Version)) (c r1 r2:Nat) (forks:CH.Forks),St w0 w l->ChP w0 w K c r1 r2 known forks -> ZE prog 16 #[.pointer (some ⟨c,0,none⟩),↑n] w fun e w'=>e=.returned (.bool true)/\St w0 w' l/\ChP w0 w' K c r1 r2 known forks
def qK (V:CH.Version) (n pos:Int) (prev:List UInt8) (acts:List CH.Act):Prop := ∀ (w:ZB) (va:ZC),Gc w->Gr w w va acts -> ZE prog 12 #[.int .i64 0,↑n,↑pos,↑prev,va,.string ⟨#[115]⟩,.int .i64 1] w fun e w'=>∃ a1 n1 c1 a2 n2 c2 a3 n3 c3,e=.returned (.tuple #[.agg (Al V ⟨.slice a1 n1 c1,.slice a2 n2 c2,.slice a3 n3 c3⟩).toArray,.int .i64 0])/\aP w' w' V ⟨.slice a1 n1 c1,.slice a2 n2 c2,.slice a3 n3 c3⟩/\Below w w w'
def sD (n:Int) (acts:List CH.Act):Prop := ∀ (w:ZB),ZE prog 13 #[↑n] w fun e w'=>∃ a m c,e=.returned (.slice a m c)/\Gr w' w' (.slice a m c) acts/\Below w w w'
structure HF (K M:List UInt8) (V1 V2 V3 V4:CH.Version) (A1 A2 A3:List CH.Act) (c1 c2 d1 d2 x1 x2:CH.Known) (fC fD:CH.Forks):Prop where
 pub:∀ w,Gl w->ZE prog 10 #[.string ⟨#[115]⟩,.int .i64 1] w (Ret w (.tuple #[↑K,.int .i64 0]))
 new:∀ w v,Gl w->Strs w w v [K]->ZE prog 11 #[v] w fun e w'=>∃ c r1 r2,e=.returned (.tuple #[.pointer (some ⟨c,0,none⟩),.int .i64 0])/\De w' c r1 r2 [K] [] []/\w.heap.size<=r1/\w.heap.size<=r2/\Below w w w'
 e1:sD 1 A1
 e2:sD 2 A2
 e3:sD 3 A3
 m1:qK V1 1 100 [] A1
 m2:qK V2 2 100 M A2
 m3:qK V3 1 100 [] A3
 m4:qK V4 2 99 M []
 msg:∀ w s,Gc w->aP w w V1 s->ZE prog 14 #[.agg (Al V1 s).toArray] w (Ret w (.tuple #[↑M,.int .i64 0]))
 ac1:oO K V2 [] [] 0 c1 []
 ac2:oO K V1 c1 [] 0 c2 []
 ac3:oO K V1 c2 [] 0 c2 []
 ac4:oO K V3 c2 [] 17 c2 fC
 ad1:oO K V3 [] [] 0 d1 []
 ad2:oO K V1 d1 [] 17 d1 fD
 ad3:oO K V2 d1 fD 0 d2 fD
 ax1:oO K V1 [] [] 0 x1 []
 ax2:oO K V4 x1 [] 0 x2 []
 vc1:uU K c1 0
 vc2:uU K c2 2
 vd2:uU K d2 1
 vx2:uU K x2 1
 forks:∀ w0 w l c r1 r2,St w0 w l->ChP w0 w K c r1 r2 c2 fC->ZE prog 9 #[.pointer (some ⟨c,0,none⟩)] w fun e w'=>∃ a cap,e=.returned (.slice a 1 cap)/\St w0 w' l
 act:∀ w,Gc w->ZE prog 17 #[.agg (Av lQ qO).toArray] w (Ret w (.tuple #[.string ⟨#[104,111,108,100,105,110,103,32,104,49,32,112,49,32,112,48,32,45,32,45,32,54,48,32,53,49,32,48,32,45,59]⟩,.int .i64 0]))
theorem Pa (V:CH.Version) (a1 a2 a3:Option Addr) (n1 n2 n3 c1 c2 c3:Nat):∀ u∈Al V ⟨.slice a1 n1 c1,.slice a2 n2 c2,.slice a3 n3 c3⟩,u.oneCell'=true:=by intro u hu;simp only [Al,A8,Bc,Dj] at hu;rcases hu with rfl|rfl|rfl|rfl|rfl|rfl|rfl|rfl <;> rfl
theorem V6 (w:ZB) (K:List UInt8):Strs (w.alloc (.cells #[ay K] 9)).heap.size (w.alloc (.cells #[ay K] 9)) (.slice (some ⟨w,0,none⟩) 1 1) [K] :=
 ⟨some ⟨w,0,none⟩,1,rfl,Bo _,oM,fun _=>⟨w,0,rfl,sM,fun j l hj=>by
  cases j with
  |zero=>cases hj;exact Ab (Au w _) 0
  |succ j=>simp at hj⟩⟩
theorem I51 {K M:List UInt8} {V1 V2 V3 V4:CH.Version} {A1 A2 A3:List CH.Act} {kc1 kc2 kd1 kd2 kx1 kx2:CH.Known} {fC fD:CH.Forks} (H:HF K M V1 V2 V3 V4 A1 A2 A3 kc1 kc2 kd1 kd2 kx1 kx2 fC fD) (w:ZB) (hG:Gc w) : ZE prog 4 #[] w (Ret w (.bool true)):=by
 have h9:9<=w.heap.size:=hG.gl.size;have H:=Aa H;have h9:=Aa h9;have hi8:(prog.info? 31).map (·.size)=some 8:=kR;go_enter func4,ntmps4;go_wp2_with fail;refine (H.out.pub w hG.gl).mono ?_;rintro e w1 ⟨rfl,hb1⟩;have S:Hid (St w w1 []):=Aa ⟨hG.below hb1,hb1,fun _ h=>by cases h⟩;clear hb1 hG;go_wp2_with fail;have S:=Aa (S.out.go ((Ac _ w1).alloc nR (.cells #[ay K] 9)));have ST:=Aa (V6 w1 K);dsimp only [ay] at S ST;generalize w1.alloc (.cells #[↑K] 9)=W at *;refine (H.out.new W _ S.out.gc.gl ST.out).mono ?_;rintro e w2 ⟨c,r1,r2,rfl,hC,g1,g2,hb⟩;have C:Hid (ChP w w2 K c r1 r2 [] []):=Aa ⟨hC,Ag S.out.below.size g1,Ag S.out.below.size g2⟩;have S:=Aa (S.out.go hb);clear hb hC g1 g2 ST;go_wp2_with fail;refine (H.out.e1 w2).mono ?_;rintro e w3 ⟨a,m,cc,rfl,hA,hb⟩;have C:=Aa (C.out.go hb);have S:=Aa (S.out.go hb);have hA:=Aa hA;clear hb;go_wp2_with fail;refine (H.out.m1 w3 _ S.out.gc hA.out).mono ?_;rintro e w4 ⟨a1,n1,c1,a2,n2,c2,a3,n3,c3,rfl,hv,hb⟩;have C:=Aa ((C.out.go hb).go ((Ac _ w4).alloc nR (.cells (Al V1 ⟨.slice a1 n1 c1,.slice a2 n2 c2,.slice a3 n3 c3⟩).toArray 31)));have S:=Aa ((S.out.go hb).put hv);have h1:=Aa (Pa V1 a1 a2 a3 n1 n2 n3 c1 c2 c3);have hl:Hid ((Al V1 ⟨.slice a1 n1 c1,.slice a2 n2 c2,.slice a3 n3 c3⟩).length=8):=Aa rfl;clear hb hv;generalize Al V1 ⟨.slice a1 n1 c1,.slice a2 n2 c2,.slice a3 n3 c3⟩=LL at *;obtain⟨b1,hbb⟩:∃ b,Hid (w4.heap.size=b):=⟨_,Aa rfl⟩
 rw [hbb.out] at S;have hi:(prog.info? 31).map (·.size)=some LL.length:=by rw [hl.out];exact hi8
 obtain⟨s,hr,hv⟩:=S.out.at (b:=b1) (v:=V1) sM;have hr:=Aa hr;have hv:=Aa hv;have hlv:(prog.info? 31).map (·.size)=some (Al V1 s).length:=hi8;rw [<- hbb.out] at hr;go_wp2_with (first|refine Ca rfl 31 _ _ rfl LL rfl rfl (by rw [hl.out];rfl) hi h1.out ?_|refine Bf rfl 31 _ rfl w4.heap.size 0 rfl (Al V1 s) _ hr.out underlying31 rfl hlv ?_)
 rw [hbb.out];generalize w4.alloc (.cells LL.toArray 31)=W at *;clear hi hl h1 hbb;refine (H.out.msg _ s S.out.gc hv.out).mono ?_;rintro e w5 ⟨rfl,hb⟩;have C:=Aa (C.out.go hb);have S:=Aa (S.out.go hb);clear hb hr hv hlv;go_wp2_with fail;refine (H.out.e2 w5).mono ?_;rintro e w3 ⟨a,m,cc,rfl,hA,hb⟩;have C:=Aa (C.out.go hb);have S:=Aa (S.out.go hb);have hA:=Aa hA;clear hb;go_wp2_with fail;refine (H.out.m2 w3 _ S.out.gc hA.out).mono ?_;rintro e w4 ⟨a1,n1,c1,a2,n2,c2,a3,n3,c3,rfl,hv,hb⟩;have C:=Aa ((C.out.go hb).go ((Ac _ w4).alloc nR (.cells (Al V2 ⟨.slice a1 n1 c1,.slice a2 n2 c2,.slice a3 n3 c3⟩).toArray 31)));have S:=Aa ((S.out.go hb).put hv);have h1:=Aa (Pa V2 a1 a2 a3 n1 n2 n3 c1 c2 c3);have hl:Hid ((Al V2 ⟨.slice a1 n1 c1,.slice a2 n2 c2,.slice a3 n3 c3⟩).length=8):=Aa rfl;clear hb hv;generalize Al V2 ⟨.slice a1 n1 c1,.slice a2 n2 c2,.slice a3 n3 c3⟩=LL at *;obtain⟨b2,hbb⟩:∃ b,Hid (w4.heap.size=b):=⟨_,Aa rfl⟩
 rw [hbb.out] at S;have hi:(prog.info? 31).map (·.size)=some LL.length:=by rw [hl.out];exact hi8
 go_wp2_with (refine Ca rfl 31 _ _ rfl LL rfl rfl (by rw [hl.out];rfl) hi h1.out ?_)
 rw [hbb.out];generalize w4.alloc (.cells LL.toArray 31)=W at *;clear hi hl h1 hbb;refine (H.out.e3 W).mono ?_;rintro e w3 ⟨a,m,cc,rfl,hA,hb⟩;have C:=Aa (C.out.go hb);have S:=Aa (S.out.go hb);have hA:=Aa hA;clear hb;go_wp2_with fail;refine (H.out.m3 w3 _ S.out.gc hA.out).mono ?_;rintro e w4 ⟨a1,n1,c1,a2,n2,c2,a3,n3,c3,rfl,hv,hb⟩;have C:=Aa ((C.out.go hb).go ((Ac _ w4).alloc nR (.cells (Al V3 ⟨.slice a1 n1 c1,.slice a2 n2 c2,.slice a3 n3 c3⟩).toArray 31)));have S:=Aa ((S.out.go hb).put hv);have h1:=Aa (Pa V3 a1 a2 a3 n1 n2 n3 c1 c2 c3);have hl:Hid ((Al V3 ⟨.slice a1 n1 c1,.slice a2 n2 c2,.slice a3 n3 c3⟩).length=8):=Aa rfl;clear hb hv;generalize Al V3 ⟨.slice a1 n1 c1,.slice a2 n2 c2,.slice a3 n3 c3⟩=LL at *;obtain⟨b3,hbb⟩:∃ b,Hid (w4.heap.size=b):=⟨_,Aa rfl⟩
 rw [hbb.out] at S;have hi:(prog.info? 31).map (·.size)=some LL.length:=by rw [hl.out];exact hi8
 go_wp2_with (refine Ca rfl 31 _ _ rfl LL rfl rfl (by rw [hl.out];rfl) hi h1.out ?_)
 rw [hbb.out];generalize w4.alloc (.cells LL.toArray 31)=W at *;clear hi hl h1 hbb;have hA:=Aa (Mab W W);refine (H.out.m4 W _ S.out.gc hA.out).mono ?_;rintro e w4 ⟨a1,n1,c1,a2,n2,c2,a3,n3,c3,rfl,hv,hb⟩;have C:=Aa ((C.out.go hb).go ((Ac _ w4).alloc nR (.cells (Al V4 ⟨.slice a1 n1 c1,.slice a2 n2 c2,.slice a3 n3 c3⟩).toArray 31)));have S:=Aa ((S.out.go hb).put hv);have h1:=Aa (Pa V4 a1 a2 a3 n1 n2 n3 c1 c2 c3);have hl:Hid ((Al V4 ⟨.slice a1 n1 c1,.slice a2 n2 c2,.slice a3 n3 c3⟩).length=8):=Aa rfl;clear hb hv;generalize Al V4 ⟨.slice a1 n1 c1,.slice a2 n2 c2,.slice a3 n3 c3⟩=LL at *;obtain⟨b4,hbb⟩:∃ b,Hid (w4.heap.size=b):=⟨_,Aa rfl⟩
 rw [hbb.out] at S;have hi:(prog.info? 31).map (·.size)=some LL.length:=by rw [hl.out];exact hi8
 obtain⟨s,hr,hv⟩:=S.out.at (b:=b2) (v:=V2) sM;have hr:=Aa hr;have hv:=Aa hv;have hlv:(prog.info? 31).map (·.size)=some (Al V2 s).length:=hi8;go_wp2_with (first|refine Ca rfl 31 _ _ rfl LL rfl rfl (by rw [hl.out];rfl) hi h1.out ?_|refine Bf rfl 31 _ rfl b2 0 rfl (Al V2 s) _ hr.out underlying31 rfl hlv ?_)
 rw [hbb.out];generalize w4.alloc (.cells LL.toArray 31)=W at *;clear hi hl h1 hbb;clear hA;refine (H.out.ac1 w _ _ c r1 r2 s h9.out S.out C.out hv.out).mono ?_;clear hr hv hlv S C;rintro e w6 ⟨rfl,S,C⟩;have S:=Aa S;have C:=Aa C;go_wp2_with fail;refine (H.out.vc1 w _ _ c r1 r2 _ S.out C.out).mono ?_;clear S C;rintro e w7 ⟨rfl,S,C⟩;have S:=Aa S;have C:=Aa C;obtain⟨s,hr,hv⟩:=S.out.at (b:=b1) (v:=V1) sM;have hr:=Aa hr;have hv:=Aa hv;have hlv:(prog.info? 31).map (·.size)=some (Al V1 s).length:=hi8;go_wp2_with (refine Bw rfl 31 _ rfl b1 0 rfl (Al V1 s) _ hr.out underlying31 rfl hlv ?_)
 refine (H.out.ac2 w _ _ c r1 r2 s h9.out S.out C.out hv.out).mono ?_;clear hr hv hlv S C;rintro e w6 ⟨rfl,S,C⟩;have S:=Aa S;have C:=Aa C;go_wp2_with fail;refine (H.out.vc2 w _ _ c r1 r2 _ S.out C.out).mono ?_;clear S C;rintro e w7 ⟨rfl,S,C⟩;have S:=Aa S;have C:=Aa C;obtain⟨s,hr,hv⟩:=S.out.at (b:=b1) (v:=V1) sM;have hr:=Aa hr;have hv:=Aa hv;have hlv:(prog.info? 31).map (·.size)=some (Al V1 s).length:=hi8;go_wp2_with (refine Bw rfl 31 _ rfl b1 0 rfl (Al V1 s) _ hr.out underlying31 rfl hlv ?_)
 refine (H.out.ac3 w _ _ c r1 r2 s h9.out S.out C.out hv.out).mono ?_;clear hr hv hlv S C;rintro e w6 ⟨rfl,S,C⟩;have S:=Aa S;have C:=Aa C;obtain⟨s,hr,hv⟩:=S.out.at (b:=b3) (v:=V3) sM;have hr:=Aa hr;have hv:=Aa hv;have hlv:(prog.info? 31).map (·.size)=some (Al V3 s).length:=hi8;go_wp2_with (refine Bw rfl 31 _ rfl b3 0 rfl (Al V3 s) _ hr.out underlying31 rfl hlv ?_)
 refine (H.out.ac4 w _ _ c r1 r2 s h9.out S.out C.out hv.out).mono ?_;clear hr hv hlv S C;rintro e w6 ⟨rfl,S,C⟩;have S:=Aa S;have C:=Aa C;go_wp2_with fail;refine (H.out.vc2 w _ _ c r1 r2 _ S.out C.out).mono ?_;clear S C;rintro e w7 ⟨rfl,S,C⟩;have S:=Aa S;have C:=Aa C;go_wp2_with fail;refine (H.out.forks w _ _ c r1 r2 S.out C.out).mono ?_;clear S C;rintro e w8 ⟨a,cap,rfl,S⟩;have S:=Aa S;go_wp2_with fail;have S:=Aa (S.out.go ((Ac _ w8).alloc nR (.cells #[ay K] 9)));have ST:=Aa (V6 w8 K);dsimp only [ay] at S ST;generalize w8.alloc (.cells #[↑K] 9)=W at *;refine (H.out.new W _ S.out.gc.gl ST.out).mono ?_;rintro e w2 ⟨c,r1,r2,rfl,hC,g1,g2,hb⟩;have C:Hid (ChP w w2 K c r1 r2 [] []):=Aa ⟨hC,Ag S.out.below.size g1,Ag S.out.below.size g2⟩;have S:=Aa (S.out.go hb);clear hb hC g1 g2 ST;obtain⟨s,hr,hv⟩:=S.out.at (b:=b3) (v:=V3) sM;have hr:=Aa hr;have hv:=Aa hv;have hlv:(prog.info? 31).map (·.size)=some (Al V3 s).length:=hi8;go_wp2_with (refine Bf rfl 31 _ rfl b3 0 rfl (Al V3 s) _ hr.out underlying31 rfl hlv ?_)
 refine (H.out.ad1 w _ _ c r1 r2 s h9.out S.out C.out hv.out).mono ?_;clear hr hv hlv S C;rintro e w6 ⟨rfl,S,C⟩;have S:=Aa S;have C:=Aa C;obtain⟨s,hr,hv⟩:=S.out.at (b:=b1) (v:=V1) sM;have hr:=Aa hr;have hv:=Aa hv;have hlv:(prog.info? 31).map (·.size)=some (Al V1 s).length:=hi8;go_wp2_with (refine Bw rfl 31 _ rfl b1 0 rfl (Al V1 s) _ hr.out underlying31 rfl hlv ?_)
 refine (H.out.ad2 w _ _ c r1 r2 s h9.out S.out C.out hv.out).mono ?_;clear hr hv hlv S C;rintro e w6 ⟨rfl,S,C⟩;have S:=Aa S;have C:=Aa C;obtain⟨s,hr,hv⟩:=S.out.at (b:=b2) (v:=V2) sM;have hr:=Aa hr;have hv:=Aa hv;have hlv:(prog.info? 31).map (·.size)=some (Al V2 s).length:=hi8;go_wp2_with (refine Bw rfl 31 _ rfl b2 0 rfl (Al V2 s) _ hr.out underlying31 rfl hlv ?_)
 refine (H.out.ad3 w _ _ c r1 r2 s h9.out S.out C.out hv.out).mono ?_;clear hr hv hlv S C;rintro e w6 ⟨rfl,S,C⟩;have S:=Aa S;have C:=Aa C;go_wp2_with fail;refine (H.out.vd2 w _ _ c r1 r2 _ S.out C.out).mono ?_;clear S C;rintro e w7 ⟨rfl,S,C⟩;have S:=Aa S;have C:=Aa C;go_wp2_with fail;clear C;have S:=Aa (S.out.go ((Ac _ w7).alloc nR (.cells #[ay K] 9)));have ST:=Aa (V6 w7 K);dsimp only [ay] at S ST;generalize w7.alloc (.cells #[↑K] 9)=W at *;refine (H.out.new W _ S.out.gc.gl ST.out).mono ?_;rintro e w2 ⟨c,r1,r2,rfl,hC,g1,g2,hb⟩;have C:Hid (ChP w w2 K c r1 r2 [] []):=Aa ⟨hC,Ag S.out.below.size g1,Ag S.out.below.size g2⟩;have S:=Aa (S.out.go hb);clear hb hC g1 g2 ST;obtain⟨s,hr,hv⟩:=S.out.at (b:=b1) (v:=V1) sM;have hr:=Aa hr;have hv:=Aa hv;have hlv:(prog.info? 31).map (·.size)=some (Al V1 s).length:=hi8;go_wp2_with (refine Bf rfl 31 _ rfl b1 0 rfl (Al V1 s) _ hr.out underlying31 rfl hlv ?_)
 refine (H.out.ax1 w _ _ c r1 r2 s h9.out S.out C.out hv.out).mono ?_;clear hr hv hlv S C;rintro e w6 ⟨rfl,S,C⟩;have S:=Aa S;have C:=Aa C;obtain⟨s,hr,hv⟩:=S.out.at (b:=b4) (v:=V4) sM;have hr:=Aa hr;have hv:=Aa hv;have hlv:(prog.info? 31).map (·.size)=some (Al V4 s).length:=hi8;go_wp2_with (refine Bw rfl 31 _ rfl b4 0 rfl (Al V4 s) _ hr.out underlying31 rfl hlv ?_)
 refine (H.out.ax2 w _ _ c r1 r2 s h9.out S.out C.out hv.out).mono ?_;clear hr hv hlv S C;rintro e w6 ⟨rfl,S,C⟩;have S:=Aa S;have C:=Aa C;go_wp2_with fail;refine (H.out.vx2 w _ _ c r1 r2 _ S.out C.out).mono ?_;clear S C;rintro e w7 ⟨rfl,S,C⟩;have S:=Aa S;have C:=Aa C;go_wp2_with fail;refine (H.out.act _ S.out.gc).mono ?_;rintro e w9 ⟨rfl,hb⟩;have S:=Aa (S.out.go hb);clear hb C;go_wp2;go_ret;exact⟨rfl,S.out.below⟩
def l9 (a b:Int × Int):Int:=if nX a.1 b.1 != 0 then nX a.1 b.1 else nX a.2 b.2
theorem I32 (a b:Int) (g:Nat) (w:ZB) (h0:w.cell? ⟨g,0,none⟩=some ↑a) (h1:w.cell? ⟨g,1,none⟩=some ↑b) : ZE prog 59 #[.slice (some ⟨g,0,none⟩) 2 2] w (fun e w'=>e=.returned (.int .i64 (if a != 0 then a else b))/\w=w'):=by
 obtain⟨R,hR⟩:∃ R,Hid ((if a != 0 then a else b)=R):=⟨_,Aa rfl⟩
 rw [hR.out];go_enter func59,ntmps59;go_wp2_with fail;go_loopw [8] (fun i wr=>∃ k:Nat,k<=2/\i=↑k/\w=wr/\Hid (1<=k->a=0)/\Hid (2<=k->b=0)) (fun i _=>2 - (ZG i).toNat);case atStart=>exact⟨0,oM,rfl,rfl,Aa (fun h=>by omega),Aa (fun h=>by omega)⟩
 case round =>
  obtain⟨k,hk,rfl,rfl,ha,hb⟩:=hrel;rcases (oM:k=0\/k=1\/k=2) with rfl|rfl|rfl
  ·by_cases h:a=0
   ·have q:(a != 0)=false:=by simp [h]
    have h:=Aa h;go_wp2;go_roundw;case rel=>exact⟨1,oM,by go_num,by trivial,Aa (fun _=>h.out),Aa (fun h=>by omega)⟩
    case measure=>simp [ZG]
   ·have q:(a != 0)=true:=by simp [h]
    have hRa:R=a:=by rw [<- hR.out,q];rfl
    subst hRa;exact FD38
  ·have ha0:a=0:=ha.out oM;have hRb:R=b:=by rw [<- hR.out,ha0];rfl
   subst hRb;by_cases h:R=0
   ·have q:(R != 0)=false:=by simp [h]
    have h:=Aa h;go_wp2;go_roundw;case rel=>exact⟨2,oM,by go_num,by trivial,Aa (fun _=>ha0),Aa (fun _=>h.out)⟩
    case measure=>simp [ZG]
   ·have q:(R != 0)=true:=by simp [h]
    exact FD38
  ·have ha0:a=0:=ha.out oM;have hb0:b=0:=hb.out oM;have hR0:R=0:=by rw [<- hR.out,ha0,hb0];rfl
   subst hR0;exact FD38
theorem Fn1 (w:ZB) (o1 o2:Obj):((w.alloc o1).alloc o2).heap[w.heap.size+1]?=some o2:=by have:=Au (w.alloc o1) o2;rwa [Dt] at this
theorem Fn8 (w:ZB) (o1 o2:Obj):((w.alloc o1).alloc o2).heap[w.heap.size]?=some o1 := (((Ac _ (w.alloc o1)).alloc nR o2).block w.heap.size sM).trans (Au w o1)
theorem Fne (w:ZB) (o1 o2 o3:Obj):∃ q os',(((w.alloc o1).alloc o2).alloc o3).drew=grow (w.drewN q) os':=by refine⟨1,#[o1,o2,o3],?_⟩;simp only [ZM,grow,World.drewN,World.drew];congr 1
theorem Lt2 (x y:Int × Int) (w:ZB):ZE prog 58 #[.agg (gK x).toArray,.agg (gK y).toArray] w (fun e w'=>e=.returned (.int .i64 (l9 x y))/\∃ q os',w'=grow (w.drewN q) os'):=by
 obtain⟨x1,x2⟩:=x;obtain⟨y1,y2⟩:=y;obtain⟨r,hr⟩:∃ r,l9 (x1,x2) (y1,y2)=r:=⟨_,rfl⟩
 unfold l9 at hr;dsimp only at hr;have hC1:=fun W=>T9 x1 y1 W;have hC2:=fun W=>T9 x2 y2 W;rw [show l9 (x1,x2) (y1,y2)=r from hr];generalize nX x1 y1=c1 at *;generalize nX x2 y2=c2 at *;have hO:=fun (g:Nat) (W:ZB) h0 h1=>I32 c1 c2 g W h0 h1;rw [hr] at hO;have hC1:=Aa hC1;have hC2:=Aa hC2;have hO:=Aa hO;have hG:=Aa (Fne w);clear hr;simp only [gK];go_enter func58,ntmps58;go_wp2_with fail;obtain⟨W0,hW0⟩:∃ W0,(w.alloc (.cells #[↑x1,↑x2] 93)).alloc (.cells #[↑y1,↑y2] 93)=W0:=⟨_,rfl⟩
 have hp:=Fn8 w (.cells #[↑x1,↑x2] 93) (.cells #[↑y1,↑y2] 93);have hq:=Fn1 w (.cells #[↑x1,↑x2] 93) (.cells #[↑y1,↑y2] 93);have hGW:∀ o,∃ q os',(W0.alloc o).drew=grow (w.drewN q) os':=fun o=>by rw [<- hW0];exact hG.out _ _ o
 rw [hW0] at hp hq ⊢;have hGW:=Aa hGW;clear hG hW0;have hpl:=(aZ hp)
 have hql:=(aZ hq)
 have SS:∀ W',Below W0 W0 W'->W'.cell? ⟨w,0,none⟩=some ↑x1/\W'.cell? ⟨w,1,none⟩=some ↑x2/\W'.cell? ⟨w+1,0,none⟩=some ↑y1/\W'.cell? ⟨w+1,1,none⟩=some ↑y2:=fun W' hb =>⟨Ab ((hb.block _ hpl).trans hp) 0,Ab ((hb.block _ hpl).trans hp) 1,Ab ((hb.block _ hql).trans hq) 0,Ab ((hb.block _ hql).trans hq) 1⟩
 have hBd:Below W0 W0 W0.drew:=(Ac _ W0).drew;have SS:=Aa SS;clear hp hq hpl hql;go_region_held3 (fun W'=>W'.cell? ⟨w,0,none⟩=some ↑x1/\W'.cell? ⟨w,1,none⟩=some ↑x2/\W'.cell? ⟨w+1,0,none⟩=some ↑y1/\W'.cell? ⟨w+1,1,none⟩=some ↑y2) (first|exact SS.out _ hBd|exact SS.out _ (hBd.alloc hBd.size _)) (first |(go_at_call 55;with_reducible refine (hC1.out _).mono ?_;rintro e w' ⟨rfl,rfl⟩) |(go_at_call 55;with_reducible refine (hC2.out _).mono ?_;rintro e w' ⟨rfl,rfl⟩) |(go_at_call 59;refine (hO.out _ _ (Ab (Au _ _) 0) (Ab (Au _ _) 1)).mono ?_;rintro e w' ⟨rfl,rfl⟩))
 go_wp2;go_ret;exact⟨rfl,hGW.out _⟩
def Lk2:Ren:=⟨fun|20=>233|n=>n,fun|22=>117|24=>93|25=>123|n=>n,fun n=>n⟩
theorem I49:SlLaysF0.n20 prog Lk2:={
 mixed:=kR
 f20:=⟨Tryz.f233.name,dC,func233.trans (congrArg some kR)⟩
 t0:=underlying0
 a0:=isAgg0
 z0:=sizeOf0
 v0:=zeroValue0
 t3:=underlying3
 a3:=isAgg3
 z3:=sizeOf3
 v3:=zeroValue3
 t4:=underlying4
 a4:=isAgg4
 z4:=sizeOf4
 v4:=zeroValue4
 t22:=underlying117
 a22:=isAgg117
 z22:=sizeOf117
 v22:=zeroValue117
 t25:=underlying123
 a25:=isAgg123
 z25:=sizeOf123
 v25:=zeroValue123 }
theorem Lnb (g cap:Nat) (d:Array (Int × Int)) (w:ZB) (hH:HoldsK gK 2 w g 0 d) (hblk:g<w.heap.size) (hn:d.size<=12) : ZE prog 233 #[.slice (some ⟨g,0,none⟩) d.size cap,.int .i64 0,.int .i64 (d.size:Nat),.func (.func 58) #[] #[]] w fun e w' => e=.returned (.tuple #[])/\∃ n os,w'=sortWorldK gK 2 w g 0 n (Sort.insertionSort (ltOf l9) d 0 d.size) os := AnyQ.insertionSortCmpFunc (α:=Int × Int) I49 2 isAgg93 sizeOf93 gK (fun _=>rfl) E6b l9 58 #[] g 0 cap 0 d.size d w (fun args W=>by kernel_rfl) (fun m os dk _ x y=>Lt2 x y _) hH hblk (Bd _) nR oM
theorem Kpy (g cap:Nat) (d:Array (Int × Int)) (lim:Int) (w:ZB) (hH:HoldsK gK 2 w g 0 d) (hblk:g<w.heap.size) (hn:d.size<=12) : ZE prog 175 #[.slice (some ⟨g,0,none⟩) d.size cap,.int .i64 0,.int .i64 (d.size:Nat),↑lim,.func (.func 58) #[] #[]] w fun e w' => e=.returned (.tuple #[])/\∃ n os,w'=sortWorldK gK 2 w g 0 n (Sort.insertionSort (ltOf l9) d 0 d.size) os:=by
 have I:=Aa (Lnb g cap d w hH hblk hn);obtain⟨Q,hQ⟩:∃ Q:ZB->Prop,(fun w'=>∃ n os,w'=sortWorldK gK 2 w g 0 n (Sort.insertionSort (ltOf l9) d 0 d.size) os)=Q:=⟨_,rfl⟩
 have I:Hid (ZE prog 233 #[.slice (some ⟨g,0,none⟩) d.size cap,.int .i64 0,.int .i64 (d.size:Nat),.func (.func 58) #[] #[]] w fun e w'=>e=.returned (.tuple #[])/\Q w'):=Aa (by rw [<- hQ];exact I.out);have hG:ZE prog 175 #[.slice (some ⟨g,0,none⟩) d.size cap,.int .i64 0,.int .i64 (d.size:Nat),↑lim,.func (.func 58) #[] #[]] w fun e w'=>e=.returned (.tuple #[])/\Q w':=by
  clear hQ hH hblk;generalize d.size=N at *;have q:ZH ((N:Int)<=12)=true:=by simp;omega
  go_enter func175,ntmps175;go_wp2_with fail;go_loopw [1,2] (fun a b wr=>a=.int .i64 0/\b=↑N/\w=wr) (fun _ _ _=>0);case atStart=>exact⟨rfl,rfl,rfl⟩
  case round =>obtain⟨rfl,rfl,rfl⟩:=hrel;go_wp2_with fail;refine I.out.mono ?_;rintro e w1 ⟨rfl,hq⟩;clear I;go_wp2;refine Ah (Nq rfl _ _ _) rfl ?_;exact⟨rfl,hq⟩
 rw [<- hQ] at hG;exact hG
theorem I25 (g cap:Nat) (d:Array (Int × Int)) (w:ZB) (hH:HoldsK gK 2 w g 0 d) (hblk:g<w.heap.size) (hn:d.size<=12) : ZE prog 110 #[.slice (some ⟨g,0,none⟩) d.size cap,.func (.func 58) #[] #[]] w fun e w' => e=.returned (.tuple #[])/\∃ n os,w'=sortWorldK gK 2 w g 0 n (Sort.insertionSort (ltOf l9) d 0 d.size) os:=by
 have I:=fun lim=>Kpy g cap d lim w hH hblk hn;obtain⟨Q,hQ⟩:∃ Q:ZB->Prop,(fun w'=>∃ n os,w'=sortWorldK gK 2 w g 0 n (Sort.insertionSort (ltOf l9) d 0 d.size) os)=Q:=⟨_,rfl⟩
 have I:Hid (∀ lim:Int,ZE prog 175 #[.slice (some ⟨g,0,none⟩) d.size cap,.int .i64 0,.int .i64 (d.size:Nat),↑lim,.func (.func 58) #[] #[]] w fun e w'=>e=.returned (.tuple #[])/\Q w'):=Aa (by rw [<- hQ];exact I);have hG:ZE prog 110 #[.slice (some ⟨g,0,none⟩) d.size cap,.func (.func 58) #[] #[]] w fun e w'=>e=.returned (.tuple #[])/\Q w':=by
  clear hQ hH hblk;generalize d.size=N at *;have hu:IntKind.u64.wrap (N:Int)=(N:Int):=by rw [Iy];omega
  go_enter func110,ntmps110;go_wp2_with fail;refine (Tryz.bits_Len (N:Int) _ oM oM).mono ?_;rintro e w1 ⟨rfl,rfl⟩;go_wp2_with fail;refine (I.out _).mono ?_;rintro e w2 ⟨rfl,hq⟩;clear I;go_wp2;go_end0;exact⟨rfl,hq⟩
 rw [<- hQ] at hG;exact hG
theorem Etf (w:ZB):ZE prog 233 #[.slice none 0 0,.int .i64 0,.int .i64 0,.func (.func 58) #[] #[]] w fun e w'=>e=.returned (.tuple #[])/\w=w':=by go_enter func233,ntmps233;exact FD71
theorem Dcy (lim:Int) (w:ZB):ZE prog 175 #[.slice none 0 0,.int .i64 0,.int .i64 0,↑lim,.func (.func 58) #[] #[]] w fun e w'=>e=.returned (.tuple #[])/\w=w':=by
 go_enter func175,ntmps175;go_wp2_with fail;go_loopw [1,2] (fun a b wr=>a=.int .i64 0/\b=.int .i64 0/\w=wr) (fun _ _ _=>0);case atStart=>exact⟨rfl,rfl,rfl⟩
 case round =>obtain⟨rfl,rfl,rfl⟩:=hrel;go_wp2_with fail;refine (Etf w).mono ?_;rintro e w1 ⟨rfl,rfl⟩;go_wp2;refine Ah (Nq rfl _ _ _) rfl ?_;exact⟨rfl,rfl⟩
theorem At0 (w:ZB):ZE prog 110 #[.slice none 0 0,.func (.func 58) #[] #[]] w fun e w'=>e=.returned (.tuple #[])/\w=w':=by
 have hu:IntKind.u64.wrap (0:Int)=(0:Int):=by rw [Iy];omega
 go_enter func110,ntmps110;go_wp2_with fail;refine (Tryz.bits_Len 0 _ oM oM).mono ?_;rintro e w1 ⟨rfl,rfl⟩;go_wp2_with fail;refine (Dcy _ _).mono ?_;rintro e w2 ⟨rfl,rfl⟩;go_wp2;go_end0;exact⟨rfl,rfl⟩
def Vc (B:Nat) (w:ZB) (v:ZC) (ls:List (Int × Int)):Prop := ∃ a cap,v=.slice a ls.length cap/\ls.length<=cap/\cap<=9223372036854775807 /\ (ls≠[]->∃ b off,a=some ⟨b,off,none⟩/\b<B/\∀ j p,ls[j]?=some p->w.cell? ⟨b,off+j*2,none⟩=some (aJ p.1)/\w.cell? ⟨b,off+j*2+1,none⟩=some (aJ p.2))
theorem Vc.below {B B':Nat} {w w':ZB} {v:ZC} {ls:List (Int × Int)} (h:Vc B w v ls) (hb:Below B' w w') (hB:B<=B'):Vc B w' v ls:=by obtain⟨a,cap,h1,h2,h3,h4⟩:=h;refine⟨a,cap,h1,h2,h3,fun hne=>?_⟩;obtain⟨b,off,e,hlt,hx⟩:=h4 hne;refine⟨b,off,e,hlt,fun j p hj=>⟨(hb.cell (p:=⟨b,off+j*2,none⟩) (Ai hlt hB)).trans (hx j p hj).1,(hb.cell (p:=⟨b,off+j*2+1,none⟩) (Ai hlt hB)).trans (hx j p hj).2⟩⟩
theorem wH:∀ (l:List (Int × Int)) (t:Nat),t<l.length*2->(l.flatMap gK)[t]?=some ((gK l.toArray[t / 2]!)[t % 2]!)
 |[],t,h=>by simp at h
 |x::l,t,h=>by
  rw [Ej]
  by_cases h8:t<2
  ·rw [Gh h8]
   have e1:t / 2=0:=Ll h8
   have e2:t % 2=t:=Lj h8
   rw [e1,e2]
   have:t<(gK x).length:=h8
   simp [this]
  ·rw [Fj (by show 2<=t;omega)]
   show (l.flatMap gK)[t - 2]?=_
   rw [wH l (t - 2) (by rw [Az] at h;omega)]
   have e1:t / 2=(t - 2) / 2+1:=oM
   have e2:t % 2=(t - 2) % 2:=oM
   rw [e1,e2]
   simp
theorem Uc {C g n:Nat} {w:ZB} {d:Array (Int × Int)} {os:Array Obj} (hC:C<=g) (hw:C<=w.heap.size):Below C w (sortWorldK gK 2 w g 0 n d os):=by refine⟨rfl,rfl,rfl,size_sortWorldK_c gK 2 w g 0 n d os,fun k hk=>?_⟩;show ((w.heap.modify g (onCells (putCells id 0 (flatK gK 2 d))))++os)[k]?=w.heap[k]?;rw [Array.getElem?_append_left (by simp;omega),Fb,Af oM]
theorem Ckt {base g cap:Nat} {w:ZB} {ps:List (Int × Int)} (hO:w.ownsRow base 93 2 (.slice (some ⟨g,0,none⟩) ps.length cap) ps.length (ps.flatMap gK)) (hbw:base<=w.heap.size) : HoldsK gK 2 w g 0 ps.toArray/\g<w.heap.size/\∀ w',(∃ n os,w'=sortWorldK gK 2 w g 0 n (Sort.insertionSort (ltOf l9) ps.toArray 0 ps.toArray.size) os) -> ∃ ls:List (Int × Int),ls.length=ps.length/\(∀ p∈ls,p∈ps)/\Vc w' w' (.slice (some ⟨g,0,none⟩) ps.length cap) ls/\Below base w w':=by
 have h2':=hO;obtain⟨hlen,⟨e,h0⟩|⟨g',cap',cur,e,hb,hg,hn,hc,hsz,htk⟩⟩:=hO;·cases e
 simp only [Value.slice.injEq,Ep,Addr.mk.injEq,and_true,true_and] at e;obtain⟨rfl,rfl⟩:=e;have mP:g<w.heap.size:=(aZ hg)
 have hH:HoldsK gK 2 w g 0 ps.toArray:=by
  intro t ht;rw [size_flatK] at ht;have ht':t<ps.length*2:=by simpa using ht
  rw [get_flatK _ _ _ _ ht];refine⟨?_,Bi hg _⟩;rw [Bh,G8 h2' t ht'];exact wH ps t ht'
 refine⟨hH,mP,?_⟩;rintro w' ⟨n,os,rfl⟩;have hinv:=fV (lt:=ltOf l9) (I:=fun L=>L.length=ps.length/\∀ y∈L,y∈ps) (fun l m x y _ h=>⟨by simpa using h.1,fun z hz=>h.2 z (by
  simp only [Di,A8] at hz ⊢;rcases hz with h|h|h|h;·exact .inl h
  ·exact .inr (.inr (.inl h))
  ·exact .inr (.inl h)
  ·exact .inr (.inr (.inr h)))⟩) ps ⟨rfl,fun _ h=>h⟩
 rw [show ps.length=ps.toArray.size from by simp] at hinv;obtain⟨d',hd'⟩:∃ d',Sort.insertionSort (ltOf l9) ps.toArray 0 ps.toArray.size=d':=⟨_,rfl⟩
 rw [hd'] at hinv ⊢;have hs':d'.size=ps.toArray.size:=by have:=hinv.1;simpa using this
 have hH':=holdsK_sortWorldK_c gK 2 w g 0 ps.toArray d' n os hH mP hs';have hBb:Below base w (sortWorldK gK 2 w g 0 n d' os):=Uc hb hbw;have hgs:w.heap.size<=(sortWorldK gK 2 w g 0 n d' os).heap.size:=hBb.size;have hsl:d'.toList.length=ps.length:=by simp [hs']
 refine⟨d'.toList,hsl,hinv.2,⟨_,cap,by rw [hsl],by rw [hsl];exact hn,by unfold maxLen at hc;omega,fun _=>⟨g,0,rfl,Nat.lt_of_lt_of_le mP hgs,fun j p hj=>?_⟩⟩,hBb⟩;have hjl:j<d'.size:=by have:=(lS hj);simpa using this
 have hat:d'[j]! =p:=by rw [Jk] at hj;rw [getElem!_def,hj]
 have k0:=(HoldsK.cell hH' hjl (show 0<2 by omega)).1;have k1:=(HoldsK.cell hH' hjl (show 1<2 by omega)).1;rw [hat] at k0 k1;exact⟨k0,k1⟩
def Kc8 (w:ZB) (kvs:List ((Int × Int) × ZC)) (e:Ending) (w':ZB):Prop := ∃ a c ls,e=.returned (.slice a kvs.length c)/\ls.length=kvs.length/\(∀ p∈ls,p∈kvs.map (·.1))/\Vc w' w' (.slice a kvs.length c) ls/\Below w w w'
theorem U4 (Bm r:Nat) (kvs:List ((Int × Int) × ZC)) (w:ZB) (hBm:Bm<w.heap.size) (hm:w.cell? ⟨Bm,0,none⟩=some (.map (some r))) (hmap:Cp Bk r w kvs) (hk:(kvs.map (·.1)).Nodup) (hN:kvs.length<=12) : ZE prog 56 #[.func (.func 111) #[] #[.pointer (some ⟨Bm,0,none⟩)],.func (.func 58) #[] #[]] w (Kc8 w kvs):=by
 have A:=Aa (B7d Bm r kvs w hBm hm hmap hk oM);clear hm hmap;have hk:=Aa hk;have hN:=Aa hN;go_enter func56,ntmps56;go_wp2_with fail;refine A.out.mono ?_;rintro e w1 ⟨a,n,c,ps,rfl,hK,hown,hn,hb⟩;have hpl:ps.length=kvs.length:=by have h1:=Wf ps (kvs.map (·.1)) hK.1 (fun p hp=>(hK.2 p).1 hp);have h2:=Wf (kvs.map (·.1)) ps hk.out (fun p hp=>(hK.2 p).2 hp);rw [Cm] at h1 h2;omega
 have hN:=hN.out;obtain⟨M,hM⟩:∃ M,Hid (kvs.length=M):=⟨_,Aa rfl⟩
 rw [hM.out] at hpl hN;subst hn;clear A;have hown':=hown;obtain⟨hlen,⟨e0,h0⟩|⟨g,cap,cur,e0,_,_,_⟩⟩:=hown;·simp only [Value.slice.injEq] at e0;obtain⟨rfl,_,rfl⟩:=e0;have hM0:M=0:=oM;subst hM0;rw [h0];clear hlen hown' hpl;go_wp2_with fail;refine (At0 w1).mono ?_;rintro e w2 ⟨rfl,rfl⟩;go_wp2;go_ret;exact⟨none,0,[],by rw [hM.out];rfl,by rw [hM.out];rfl,(fun p hp=>by cases hp),⟨none,0,by rw [hM.out];rfl,Bo _,oM,fun h=>absurd rfl h⟩,hb⟩
 ·simp only [Value.slice.injEq] at e0;obtain⟨rfl,_,rfl⟩:=e0;obtain⟨hH,mP,hpost⟩:=Ckt hown' hb.size;have S:=I25 g c ps.toArray w1 hH mP (by simp;omega);obtain⟨Q,hQ⟩:∃ Q:ZB->Prop,(fun w'=>∃ n os,w'=sortWorldK gK 2 w1 g 0 n (Sort.insertionSort (ltOf l9) ps.toArray 0 ps.toArray.size) os)=Q:=⟨_,rfl⟩
  have hpost:Hid (∀ w',Q w'->_):=Aa (by rw [<- hQ];exact hpost);have S:Hid (ZE prog 110 #[.slice (some ⟨g,0,none⟩) ps.length c,.func (.func 58) #[] #[]] w1 fun e w'=>e=.returned (.tuple #[])/\Q w'):=Aa (by rw [<- hQ];simpa using S);have hK:=Aa hK;clear hQ hH hown' hlen;rw [hpl] at S hpost ⊢;go_wp2_with fail;refine S.out.mono ?_;rintro e w2 ⟨rfl,hq⟩;have hp:=Aa (hpost.out w2 hq);clear hq S hpost;go_wp2;go_ret;obtain⟨ls,h1,h2,h3,h4⟩:=hp.out;exact⟨_,c,ls,by rw [hM.out];rfl,by rw [hM.out];exact h1,fun p hp=>(hK.out.2 p).1 (h2 p hp),by rw [hM.out];exact h3,hb.trans h4⟩
theorem iU.keys {B:Nat} {w:ZB}:∀ {l:List ((Int × Int) × ZC)} {m:CH.Forks},iU B w l m->l.map (·.1)=m.map (·.1)
 |[],[],_=>rfl
 |(_,_)::l,(_,_)::m,h=>by
  obtain⟨⟨rfl,_⟩,h4⟩:=h
  simp [iU.keys h4]
 |[],_::_,h=>h.elim
 |_::_,[],h=>h.elim
theorem iU.length {B:Nat} {w:ZB} {l:List ((Int × Int) × ZC)} {m:CH.Forks} (h:iU B w l m):l.length=m.length:=by have:=congrArg List.length h.keys;simpa using this
theorem Qx {β:Type} {p:Int × Int}:∀ {l:List ((Int × Int) × β)},p∈l.map (·.1)->∃ f,bH p l=some f/\(p,f)∈l
 |[],h=>by simp at h
 |(q,x)::l,h=>by
  rw [bH]
  by_cases e:p=q
  ·subst e
   exact⟨x,sM,sM⟩
  ·obtain⟨f,h1,h2⟩:=Qx (l:=l) (p:=p) (by simpa [e] using h)
   exact⟨f,by rw [Af (by simpa using e)];exact h1,by simp [h2]⟩
def Wc (x:(CH.Version × CH.Version) × (dA × dA)):List ZC:=Al x.1.1 x.2.1++Al x.1.2 x.2.2
theorem Ze {B:Nat} {w:ZB} {x:(CH.Version × CH.Version) × (dA × dA)} (h1:aP B w x.1.1 x.2.1) (h2:aP B w x.1.2 x.2.2):∀ u∈Wc x,u.oneCell'=true:=by
 intro u hu;rcases Di.1 hu with h|h;·exact Hv h1 u h
 ·exact Hv h2 u h
theorem K10:(prog.info? 84).map (fun i=>(i.zero,i.size,i.bytes))=some (some (.agg #[.int .i64 0,.int .i64 0,.int .i64 0,.string ⟨#[]⟩,.slice none 0 0,.int .i64 0,.slice none 0 0,.slice none 0 0,.int .i64 0,.int .i64 0,.int .i64 0,.string ⟨#[]⟩,.slice none 0 0,.int .i64 0,.slice none 0 0,.slice none 0 0]),16,240):=kR
def Kf (base B:Nat) (w:ZB) (v:ZC) (forks:CH.Forks) (n:Nat):Prop := ∃ xs:List ((CH.Version × CH.Version) × (dA × dA)),xs.length=n/\w.ownsRow base 84 16 v n (xs.flatMap Wc)/\(∀ x∈xs,aP B w x.1.1 x.2.1/\aP B w x.1.2 x.2.2/\∃ p,(p,x.1)∈forks)/\B<=base/\base<=w.heap.size
theorem Kf.nil {base B:Nat} {w:ZB} {forks:CH.Forks} (hB:B<=base) (hb:base<=w.heap.size):Kf base B w (.slice none 0 0) forks 0:=⟨[],rfl,Jo w base _ _,(fun _ h=>by cases h),hB,hb⟩
theorem Kf.below {base B:Nat} {w w':ZB} {v:ZC} {forks:CH.Forks} {n:Nat} (h:Kf base B w v forks n) (hb:Below w w w'):Kf base B w' v forks n:=by obtain⟨xs,h1,h2,h3,h4,h5⟩:=h;exact⟨xs,h1,Hc h2 hb,fun x hx=>⟨(h3 x hx).1.below hb (Ag h4 h5),(h3 x hx).2.1.below hb (Ag h4 h5),(h3 x hx).2.2⟩,h4,Ag h5 hb.size⟩
theorem Kf.form {base B:Nat} {w:ZB} {v:ZC} {forks:CH.Forks} {n:Nat} (h:Kf base B w v forks n):∃ a c,v=.slice a n c/\n<=c:=by
 obtain⟨xs,h1,⟨hlen,⟨rfl,h0⟩|⟨g,cap,cur,rfl,_,_,hn,_⟩⟩,_⟩:=h;·exact⟨none,0,by rw [h0],oM⟩
 ·exact⟨_,cap,rfl,hn⟩
def F20 (w:ZB) (forks:CH.Forks) (e:Ending) (w':ZB):Prop:=∃ v base,e=.returned v/\w.heap.size<=base/\Kf base w w' v forks forks.length/\Below w w w'
theorem Zf (r:Nat) (w:ZB):ZE prog 57 #[.map (some r)] w fun e w' => e=.returned (.func (.func 111) #[] #[.pointer (some ⟨w,0,none⟩)])/\w.alloc (.cells #[.map (some r)] 79)=w':=by go_enter func57,ntmps57;exact FD38
theorem Yk {w:ZB} {o:Oper} {a:Act} {K:Act->ZB->Prop} {Q:Exit->Act->ZB->Prop} (s x:Operand) (ho:o.op=.call { callee:=.builtin .append,args:=#[s,x],argTypes:=#[35,35] }) (base:Nat) (v:ZC) (n:Nat) (xs:List ZC) (hs:a.eval s=v) (hown:w.ownsRow base 84 16 v n xs) (g c:Nat) (news:List ZC) (hx:a.eval x=.slice (some ⟨g,0,none⟩) 1 c) (hcell:w.rangeAt g 0 news) (hl:news.length=16) (h1:∀ u∈news,u.oneCell'=true) (hlen:n<=1000000) (hbase:base<=w.heap.size) (h:∀ v' w',w'.ownsRow base 84 16 v' (n+1) (xs++news)->w.grownBy w' v.ownBlock->K (a.put o.dst v') w'):o.wp prog a w K Q:=by
 obtain⟨i,hi,hz0,hz1,hz2⟩:=Js K10;refine wp_append_own w s x 35 ho base 84 i _ 16 240 underlying35 hi hz0 hz1 hz2 rfl dC v n _ hs hown ⟨g,0,none⟩ 1 c news hx (by rw [hl]) ?_ h1 ?_ ?_ hbase ?_;·intro j u hj;have:=hcell j u hj;rw [Bh] at this;rw [show (⟨g,0,none⟩:Addr).add j=⟨g,j,none⟩ from by simp [Addr.add];omega];exact this
 ·unfold maxLen;omega
 ·omega
 ·intro v' w' h1 h2 _;exact h v' w' h1 h2
theorem Tf (c o r:Nat) (kvs:List ((Int × Int) × ZC)) (forks:CH.Forks) (w:ZB) (hc:w.cell? ⟨c,o,none⟩=some (.map (some r))) (hm:Cp Bk r w kvs) (hkv:iU w w kvs forks) (hnd:(forks.map (·.1)).Nodup) (hN:forks.length<=12) : ZE prog 25 #[.pointer (some ⟨c,o,none⟩)] w (F20 w forks):=by
 have iw:=Ef w _ hc;have hk:(kvs.map (·.1)).Nodup:=by rw [hkv.keys];exact hnd
 have hle:=hkv.length;have hkeys:=hkv.keys;have hm:=Aa hm;have hkv:=Aa hkv;have hk:=Aa hk;obtain⟨N,hNN⟩:∃ N,Hid (forks.length=N):=⟨_,Aa rfl⟩
 rw [hNN.out] at hN hle;go_enter func25,ntmps25;go_wp2_with fail;refine (Zf r w).mono ?_;rintro e W1 ⟨rfl,hW1⟩;have hb1:Below w w W1:=by rw [<- hW1];exact (Ac _ w).alloc nR _
 have hc1:W1.cell? ⟨w,0,none⟩=some (.map (some r)):=by rw [<- hW1];exact Ab (Au w _) 0
 have hs1:w.heap.size<W1.heap.size:=by rw [<- hW1];simp
 have SF:=Aa (U4 w r kvs W1 hs1 hc1 (hm.out.below hb1) hk.out oM);clear hW1 hc1 hs1;go_wp2_with fail;refine SF.out.mono ?_;rintro e w2 ⟨a,cc,ls,rfl,hl,hsub,hP,hb2⟩;obtain⟨a',cap',hv',hcap1,hcap2,hpc⟩:=hP;have hB2:=Aa (hb1.trans (hb2.mono hb1.size));rw [hle] at hl hv' ⊢;rw [hl] at hv' hcap1;simp only [Value.slice.injEq,true_and] at hv';obtain⟨rfl,rfl⟩:=hv';have hpc:=Aa hpc;have hsub:=Aa hsub;have hl:=Aa hl;have hkeys:=Aa hkeys;clear SF hb1 hb2;go_wp2_with fail;go_loopw [3,13] (fun ov i wr=>∃ k:Nat,k<=N/\i=↑k/\Hid (Kf w2 w wr ov forks k)/\Hid (Below w2 w2 wr)) (fun _ i _=>N - (ZG i).toNat);case atStart=>exact⟨0,Bd _,rfl,Aa (Kf.nil hB2.out.size nR),Aa (Ac _ _)⟩
 case round =>
  obtain⟨k,hkN,rfl,hO,hBr⟩:=hrel;by_cases hlt:k<N
  ·obtain⟨b,off,rfl,hbl,hx⟩:=hpc.out (by intro h;have:=hl.out;simp [h] at this;omega);obtain⟨⟨p1,p2⟩,hxk⟩:∃ p,ls[k]?=some p:=⟨_,Ad (by rw [hl.out];exact hlt)⟩
   obtain⟨e1,e2⟩:=hx k _ hxk;have d1:wr.cell? ⟨b,off+k*2,none⟩=some ↑p1:=(hBr.out.cell (p:=⟨b,off+k*2,none⟩) hbl).trans e1;have d2:wr.cell? ⟨b,off+k*2+1,none⟩=some ↑p2:=(hBr.out.cell (p:=⟨b,off+k*2+1,none⟩) hbl).trans e2;have hmem:=hsub.out _ (Aw hxk);rw [hkeys.out] at hmem;obtain⟨⟨f1,f2⟩,hlk,hmf⟩:=Qx hmem;obtain⟨j,x,hf,s,s',hxx,hv1,hv2⟩:=hkv.out.some 0 hlk;obtain⟨ax1,nx1,cx1,ax2,nx2,cx2,ax3,nx3,cx3,rfl⟩:=hv1.sl;obtain⟨ay1,ny1,cy1,ay2,ny2,cy2,ay3,ny3,cy3,rfl⟩:=hv2.sl;have hBw:Below w w wr:=hB2.out.trans (hBr.out.mono hB2.out.size);have L:=fun (W:ZB) (hb:Below w w W)=>Zd underlying79 _ Xd (hm.out.below hb) (p1,p2);rw [hf,hxx] at L;simp only [Gv,Le] at L;dsimp only [Bk,Al,List.cons_append,List.nil_append] at L;have hone:=Aa (Ze (x:=((f1,f2),(⟨.slice ax1 nx1 cx1,.slice ax2 nx2 cx2,.slice ax3 nx3 cx3⟩,⟨.slice ay1 ny1 cy1,.slice ay2 ny2 cy2,.slice ay3 ny3 cy3⟩))) hv1 hv2);have hv1:=Aa hv1;have hv2:=Aa hv2;have hmf:=Aa hmf;obtain⟨av,cv,rfl,hcv⟩:=hO.out.form;have SS:=Aa fun (W':ZB) (hb:Below w w W') (hq:W'.heap[wr.heap.size]?=some (.cells #[↑p1,↑p2] 93 (0,0))) =>(⟨(hb.cell (p:=⟨c,o,none⟩) iw).trans hc,Ab hq 0,Ab hq 1,L W' hb⟩:W'.cell? ⟨c,o,none⟩=some (.map (some r))/\W'.cell? ⟨wr,0,none⟩=some ↑p1/\W'.cell? ⟨wr,1,none⟩=some ↑p2/\(Instr.lookup 79 (.map (some r)) (.agg #[↑p1,↑p2]) false).run prog W'=.ok (.agg #[↑f1.authority,↑f1.number,↑f1.pos,↑f1.prev,.slice ax1 nx1 cx1,↑f1.sel.index,.slice ax2 nx2 cx2,.slice ax3 nx3 cx3,↑f2.authority,↑f2.number,↑f2.pos,↑f2.prev,.slice ay1 ny1 cy1,↑f2.sel.index,.slice ay2 ny2 cy2,.slice ay3 ny3 cy3]) W')
   clear L hx hxx hf hlk hmem hxk e1 e2;go_wp2_with fail;obtain⟨W4,hW4⟩:∃ W4,wr.alloc (.cells #[↑p1,↑p2] 93)=W4:=⟨_,rfl⟩
   have hb4:Below wr wr W4:=by rw [<- hW4];exact (Ac _ wr).alloc nR _
   have hq4:W4.heap[wr.heap.size]?=some (.cells #[↑p1,↑p2] 93 (0,0)):=by rw [<- hW4];exact Au wr _
   rw [hW4];clear hW4 d1 d2;have hql:wr.heap.size<W4.heap.size:=(aZ hq4)
   have hBd:Below wr wr W4.drew:=hb4.drew;have hBa:∀ ob,Below wr wr (W4.drew.alloc ob):=fun ob=>hBd.alloc hBd.size ob;have hqa:∀ ob,(W4.drew.alloc ob).heap[wr.heap.size]?=some (.cells #[↑p1,↑p2] 93 (0,0)):=fun ob=>(J5 W4.drew ob _ hql).trans hq4;have xX:∀ {W':ZB},Below wr wr W'->Below w w W':=fun h=>hBw.trans (h.mono hBw.size);have hBw:=Aa hBw;obtain⟨xs,hx1,hx2,hx3,hx4,hx5⟩:=hO.out;have hx3:=Aa hx3;have hrow:∀ ob,(W4.drew.alloc ob).ownsRow w2.heap.size 84 16 (.slice av k cv) k (xs.flatMap Wc):=fun ob=>Hc hx2 (hBa ob);have hgb:∀ g,(Value.slice av k cv).ownBlock=some g->w2.heap.size<=g/\g<wr.heap.size:=fun g e=>by
    rcases hx2.2 with⟨e0,_⟩|⟨g',cap,cur,e0,h1,h2,_⟩;·rw [e0] at e;cases e
    ·rw [e0] at e;simp only [Value.ownBlock,Ep] at e;subst e;exact⟨h1,(aZ h2)⟩
   have hgb:=Aa hgb;clear hx2 hO;have hx1:=Aa hx1;refine wp_region_noPanic ?_;refine F8 (S:=fun W'=>W'.cell? ⟨c,o,none⟩=some (.map (some r))/\W'.cell? ⟨wr,0,none⟩=some ↑p1/\W'.cell? ⟨wr,1,none⟩=some ↑p2/\(Instr.lookup 79 (.map (some r)) (.agg #[↑p1,↑p2]) false).run prog W'=.ok (.agg #[↑f1.authority,↑f1.number,↑f1.pos,↑f1.prev,.slice ax1 nx1 cx1,↑f1.sel.index,.slice ax2 nx2 cx2,.slice ax3 nx3 cx3,↑f2.authority,↑f2.number,↑f2.pos,↑f2.prev,.slice ay1 ny1 cy1,↑f2.sel.index,.slice ay2 ny2 cy2,.slice ay3 ny3 cy3]) W') kR (SS.out _ (xX hBd) hq4) (fun hHeld=>?_);refine tk 0 (v:=.slice av k cv) rfl rF hHeld ?_ ?_;·exact FD11
   (try simp only [ZF,pA,pB,pC]);refine tk 1 (v:=.pointer (some ⟨c,o,none⟩)) rfl rF hHeld ?_ ?_;·exact FD11
   (try simp only [ZF,pA,pB,pC]);refine tk 2 (v:=.pointer (some ⟨c,o,none⟩)) rfl rF hHeld ?_ ?_;·exact FD11
   (try simp only [ZF,pA,pB,pC]);refine tk 3 (v:=.pointer (some ⟨c,o,none⟩)) rfl rF hHeld ?_ ?_;·exact FD11
   (try simp only [ZF,pA,pB,pC]);refine tk 4 (v:=.map (some r)) rfl rF hHeld ?_ ?_;·exact FD11
   (try simp only [ZF,pA,pB,pC]);refine tk 5 (v:=.agg #[↑p1,↑p2]) rfl rF hHeld ?_ ?_;·exact FD11
   (try simp only [ZF,pA,pB,pC]);refine tk 6 (v:=.agg #[↑f1.authority,↑f1.number,↑f1.pos,↑f1.prev,.slice ax1 nx1 cx1,↑f1.sel.index,.slice ax2 nx2 cx2,.slice ax3 nx3 cx3,↑f2.authority,↑f2.number,↑f2.pos,↑f2.prev,.slice ay1 ny1 cy1,↑f2.sel.index,.slice ay2 ny2 cy2,.slice ay3 ny3 cy3]) rfl rF hHeld ?_ ?_;·exact FD11
   (try simp only [ZF,pA,pB,pC]);refine rk 7 rfl (fun K hK=>?_);go_simp;refine hK.out _ _ (SS.out _ (xX (hBa _)) (hqa _)) (fun hHeld=>?_);clear hK K;(try simp only [ZF,pA,pB,pC]);refine rk 8 rfl (fun K hK=>?_);rw [Ap rF];refine Yk _ _ rfl w2 (.slice av k cv) k (xs.flatMap Wc) rfl (hrow _) W4.heap.size 1 [↑f1.authority,↑f1.number,↑f1.pos,↑f1.prev,.slice ax1 nx1 cx1,↑f1.sel.index,.slice ax2 nx2 cx2,.slice ax3 nx3 cx3,↑f2.authority,↑f2.number,↑f2.pos,↑f2.prev,.slice ay1 ny1 cy1,↑f2.sel.index,.slice ay2 ny2 cy2,.slice ay3 ny3 cy3] rfl (B7 W4.drew _ _) rfl hone.out oM (by have:=hBr.out.size;have:=hb4.size;simp;omega) ?_;intro v5 w5 hO5 hg5;have hB5:Below w2 wr w5:=((hBa _).mono hBr.out.size).grown hg5 (by have:=hBr.out.size;have:=hb4.size;simp;omega) (fun g e=>(hgb.out g e).1);have hq5:w5.heap[wr.heap.size]?=some (.cells #[↑p1,↑p2] 93 (0,0)):=(hg5.block _ (by simp;omega) (fun e=>by have:=(hgb.out _ e.symm).2;omega)).trans (hqa _);have vT:Below w w w5:=hBw.out.trans (hB5.mono hB2.out.size);have hOn:Kf w2 w w5 v5 forks (k+1):=by
    refine⟨xs++[((f1,f2),(⟨.slice ax1 nx1 cx1,.slice ax2 nx2 cx2,.slice ax3 nx3 cx3⟩,⟨.slice ay1 ny1 cy1,.slice ay2 ny2 cy2,.slice ay3 ny3 cy3⟩))],by rw [Aj,hx1.out];rfl,?_,fun y hy=>?_,hx4,Ag hBr.out.size hB5.size⟩;·rw [Ig];exact hO5
    ·have hBx:Below w wr w5:=hB5.mono hB2.out.size;rcases Di.1 hy with h|h;·obtain⟨a1,a2,a3⟩:=hx3.out y h;exact⟨a1.below hBx nR,a2.below hBx nR,a3⟩
     ·rw [Bv] at h;subst h;exact⟨hv1.out.below vT nR,hv2.out.below vT nR,_,hmf.out⟩
   have hOn:=Aa hOn;obtain⟨a5,c5,rfl,hc5⟩:=hOn.out.form;refine hK.out _ _ (SS.out _ vT hq5) (fun hHeld=>?_);clear hK K;(try simp only [ZF,pA,pB,pC]);refine tk 9 (v:=.slice a5 (k+1) c5) rfl rF hHeld ?_ ?_;·exact FD11
   (try simp only [ZF,pA,pB,pC]);refine Eb kR (NoPanic.normal ?_) _;have FU:=Aa (hBr.out.trans hB5);clear hHeld SS hrow hqa hBa xX hB5 vT hO5 hg5 hq5;go_wp2;go_roundw;case rel=>exact⟨k+1,oM,by go_num,hOn,FU⟩
   case measure=>simp [ZG];omega
  ·obtain rfl:k=N:=oM;obtain⟨av,cv,rfl,hcv⟩:=hO.out.form;go_wp2;go_ret;exact⟨_,w2.heap.size,rfl,hB2.out.size,by rw [hNN.out];exact hO.out,hB2.out.trans (hBr.out.mono hB2.out.size)⟩
theorem Amp (c r1 r2:Nat) (keys:List (List UInt8)) (known:CH.Known) (forks:CH.Forks) (w:ZB) (hC:De w c r1 r2 keys known forks) (hnd:(forks.map (·.1)).Nodup) (hN:forks.length<=12) : ZE prog 9 #[.pointer (some ⟨c,0,none⟩)] w (F20 w forks):=by
 obtain⟨vk,hb0,_⟩:=hC.ex;obtain⟨kvs,hm,hkv⟩:=hC.forks;have S:=Aa (Tf c 2 r2 kvs forks w (Ab hb0 2) hm hkv hnd hN);obtain⟨N,hNN⟩:∃ N,Hid (forks.length=N):=⟨_,Aa rfl⟩
 clear hb0 hm hkv hC;go_enter func9,ntmps9;go_wp2_with fail;refine S.out.mono ?_;rintro e w1 ⟨v,base,rfl,hbb,hO,hb⟩;obtain⟨a,cc,rfl,hcv⟩:=hO.form;rw [hNN.out] at hO ⊢;have hO:=Aa hO;clear S;go_wp2;go_ret;exact⟨_,base,rfl,hbb,by rw [hNN.out];exact hO.out,hb⟩
theorem Hl2 (c r1 r2:Nat) (key:List UInt8) (known:CH.Known) (forks:CH.Forks) (m n:Nat) (w:ZB) (hG:Gc w) (hC:De w c r1 r2 [key] known forks) (hn:∀ p v,(p,v)∈known->p.2<=200) (hm:(fol CH.msg known 0).1.length=m) : ZE prog 16 #[.pointer (some ⟨c,0,none⟩),↑n] w (Ret w (.bool ((m:Int)==(n:Int)))):=by
 have V:=O7 c r1 r2 [key] known forks w hG hC hn sM;have hc:CH.counts CH.msg known [key].length=[(m:Int)]:=by show CH.counts CH.msg known 1=_;unfold CH.counts;rw [<- hm];rfl
 rw [hc] at V;have V:=Aa V;clear hc hm hn hC hG;obtain⟨R,hR⟩:∃ R,Hid (((m:Int)==(n:Int))=R):=⟨_,Aa rfl⟩
 rw [hR.out];go_enter func16,ntmps16;go_wp2_with fail;refine V.out.mono ?_;rintro e w1 ⟨v,rfl,hI,hb⟩;clear V;obtain⟨a,cap,rfl,_,_,hx⟩:=hI;obtain⟨b,off,rfl,hlt,hcell⟩:=hx sM;have k0:w1.cell? ⟨b,off,none⟩=some ↑m:=by have:=hcell 0 _ rfl;rwa [Hu] at this
 simp only [Dw];clear hcell hx;have hR:=hR.out;go_wp2;go_ret;exact⟨by rw [<- hR];rfl,hb⟩
end
section
open CH
theorem Yp (secret m:List UInt8) (h i:Nat) (hh:h<=8) (hi:i<2 ^ h):S4 (CH.pub secret h) m (i:Int) (CH.sig secret i m) (CH.path (CH.keys secret h) i)=true:=by
 have hs:=lM secret i m;have hp:=kV (CH.keys secret h) i;have ht:=nK (CH.keys secret h) i (jO secret i) (vC secret h i hi);rw [CH.length_keys] at ht;unfold S4;rw [qF,lC,mY];have q1:((CH.sig secret i m).any fun l=>!aC l)=false:=by rw [Jq];intro x hx;rw [hs x hx];decide
 have q2:((CH.path (CH.keys secret h) i).any fun l=>!aC l)=false:=by rw [Jq];intro x hx;rw [hp x hx];decide
 have q3:ZH ((i:Int)<2 ^ h)=true:=by rw [Bl];have:=Int.ofNat_lt.2 hi;rwa [Int.natCast_pow] at this
 rw [q1,q2,q3,Int.toNat_natCast];rw [show ZH (h<=8)=true from Ak hh,show ZH ((0:Int)<=(i:Int))=true from Ak oM];unfold CH.pub;rw [ht];simp
theorem M11 {v:CH.Version} {key t:List UInt8} (ht:dD v=.ok t):eU v key=(v.sel.index==v.number - 1&&S4 key (CH.msg v) v.sel.index v.sel.sig v.sel.path):=by unfold eU;rw [ht]
theorem Sn {i:Nat} {v:CH.Version} {m:List UInt8} (hi:i<2) (hv:v.sel=⟨0,[],[]⟩) (hn:v.number=(i:Int)+1) (hm:CH.message v=.ok m) (ht:∃ t,dD (CH.sealed i v m)=.ok t):eU (CH.sealed i v m) jD=true:=by
 obtain⟨t,ht⟩:=ht;have hmm:CH.msg (CH.sealed i v m)=m:=by unfold CH.msg;rw [je i v m hv,hm]
 have e1:(CH.sealed i v m).sel.index=(i:Int):=by simp only [CH.sealed]
 have e2:(CH.sealed i v m).number=v.number:=rfl;have e3:(CH.sealed i v m).sel.sig=CH.sig sS i m:=by simp only [CH.sealed]
 have e4:(CH.sealed i v m).sel.path=CH.path (CH.keys sS 1) i:=by simp only [CH.sealed]
 rw [M11 ht,hmm,e1,e2,e3,e4,hn];have:=Yp sS m 1 i dC hi;unfold jD;rw [this,Ik,Dz];omega
theorem Cal:eU jA jD=true:=Sn (i:=0) (v:=rD) (m:=CH.m1) dC rfl rfl pG kJ
theorem Lt4:eU oJ jD=true:=Sn (i:=1) (v:=yu) (m:=CH.m2) dC rfl rfl ug nH
theorem Fix:eU gY jD=true:=Sn (i:=0) (v:=mV) (m:=CH.m3) dC rfl rfl nO kH
theorem Lzv:eU mQ jD=true:=Sn (i:=1) (v:=rE) (m:=CH.m4) dC rfl rfl qy mG
theorem Xl {i:Nat} {v:CH.Version} {m:List UInt8} (hv:v.sel=⟨0,[],[]⟩) (hm:CH.message v=.ok m):CH.msg (CH.sealed i v m)=m:=by unfold CH.msg;rw [je i v m hv,hm]
theorem zl:CH.msg jA=CH.m1:=Xl (i:=0) (v:=rD) (m:=CH.m1) rfl pG
theorem Pbd:CH.msg gY=CH.m3:=Xl (i:=0) (v:=mV) (m:=CH.m3) rfl nO
def hK:List (List UInt8):=[jD]
def kC1:CH.Known:=[((0,2),oJ)]
def kC2:CH.Known:=[((0,2),oJ),((0,1),jA)]
def kD1:CH.Known:=[((0,1),gY)]
def kD2:CH.Known:=[((0,1),gY),((0,2),oJ)]
def fC:CH.Forks:=[((0,1),(jA,gY))]
def fD:CH.Forks:=[((0,1),(gY,jA))]
def kX1:CH.Known:=[((0,1),jA)]
def kX2:CH.Known:=[((0,1),jA),((0,2),mQ)]
theorem Wo {known:CH.Known} {forks:CH.Forks} {v:CH.Version} (ha:v.authority=0) (ht:∃ t,dD v=.ok t) (hc:eU v jD=true) (hl:bH (v.authority,v.number) known=none) : gU eU hK known forks v=(0,known++[((v.authority,v.number),v)],forks):=by exact FD70
theorem Ca8 {known:CH.Known} {forks:CH.Forks} {v old:CH.Version} (ha:v.authority=0) (ht:∃ t,dD v=.ok t) (hc:eU v jD=true) (hl:bH (v.authority,v.number) known=some old) : gU eU hK known forks v=if (CH.bare old).getD []==(CH.bare v).getD [] then (0,known,forks) else (17,known,kM (v.authority,v.number) (old,v) forks):=by exact FD70
theorem Job:((CH.bare jA).getD []==(CH.bare gY).getD [])=false:=by
 have h:((CH.bare rD).getD []==(CH.bare mV).getD [])=false:=by decide +kernel
 exact h
theorem rC:((CH.bare gY).getD []==(CH.bare jA).getD [])=false:=by
 have h:((CH.bare mV).getD []==(CH.bare rD).getD [])=false:=by decide +kernel
 exact h
theorem BQ:gU eU hK [] [] oJ=(0,kC1,[]):=Wo rfl nH Lt4 rfl
theorem BP:gU eU hK kC1 [] jA=(0,kC2,[]):=Wo rfl kJ Cal rfl
theorem BN:gU eU hK kC2 [] jA=(0,kC2,[]):=by rw [Ca8 (old:=jA) rfl kJ Cal rfl,Ap sM]
theorem BM:gU eU hK kC2 [] gY=(17,kC2,fC):=by rw [Ca8 (old:=jA) rfl kH Fix rfl,Job];rfl
theorem BL:gU eU hK [] [] gY=(0,kD1,[]):=Wo rfl kH Fix rfl
theorem BK:gU eU hK kD1 [] jA=(17,kD1,fD):=by rw [Ca8 (old:=gY) rfl kJ Cal rfl,rC];rfl
theorem BJ:gU eU hK kD1 fD oJ=(0,kD2,fD):=Wo rfl nH Lt4 rfl
theorem BI:gU eU hK [] [] jA=(0,kX1,[]):=Wo rfl kJ Cal rfl
theorem BH:gU eU hK kX1 [] mQ=(0,kX2,[]):=Wo rfl mG Lzv rfl
theorem Ur (msg:CH.Version->List UInt8) (known:CH.Known) (a:Int) (f:Nat) (out:List CH.Version) (hd:List UInt8) (last:Int) (h:bH (a,(out.length:Int)+1) known=none):CH.follow msg known a (f+1) out hd last=(out,hd):=by rw [CH.follow,h]
theorem X7 (msg:CH.Version->List UInt8) (known:CH.Known) (a:Int) (f:Nat) (out:List CH.Version) (hd:List UInt8) (last:Int) (v:CH.Version) (h:bH (a,(out.length:Int)+1) known=some v) (hc:(v.prev != hd||ZH (v.pos<last))=true):CH.follow msg known a (f+1) out hd last=(out,hd):=by rw [CH.follow,h];dsimp only;rw [Ap hc]
theorem Wm (msg:CH.Version->List UInt8) (known:CH.Known) (a:Int) (f:Nat) (out:List CH.Version) (hd:List UInt8) (last:Int) (v:CH.Version) (h:bH (a,(out.length:Int)+1) known=some v) (hc:(v.prev != hd||ZH (v.pos<last))=false):CH.follow msg known a (f+1) out hd last=CH.follow msg known a f (out++[v]) (msg v) v.pos:=by rw [CH.follow,h];dsimp only;rw [Af (by rw [hc];decide)]
theorem BD:(fol CH.msg kC1 0).1.length=0:=by unfold fol;rw [Ur _ _ _ 200 _ _ _ rfl];rfl
theorem BA:(fol CH.msg kC2 0).1.length=2:=by unfold fol;rw [Wm _ _ _ 200 _ _ _ jA rfl rfl,Wm _ _ _ 199 _ _ _ oJ rfl (by rw [zl];decide +kernel),Ur _ _ _ 198 _ _ _ rfl];rfl
theorem AZ:(fol CH.msg kD2 0).1.length=1:=by unfold fol;rw [Wm _ _ _ 200 _ _ _ gY rfl rfl,X7 _ _ _ 199 _ _ _ oJ rfl (by rw [Pbd];decide +kernel)];rfl
theorem AY:(fol CH.msg kX2 0).1.length=1:=by unfold fol;rw [Wm _ _ _ 200 _ _ _ jA rfl rfl,X7 _ _ _ 199 _ _ _ mQ rfl (by rw [zl];decide +kernel)];rfl
theorem Lnr:aQ lQ=some ([104,111,108,100,105,110,103,32,104,49,32,112,49,32,112,48,32,45,32,45,32,54,48,32,53,49,32,48,32,45,59]:List UInt8):=by
 have h:(match aQ lQ with|none=>false|some t=>t==([104,111,108,100,105,110,103,32,104,49,32,112,49,32,112,48,32,45,32,45,32,54,48,32,53,49,32,48,32,45,59]:List UInt8))=true:=by decide +kernel
 split at h;·cases h
 ·rename_i t e;rw [e,Dz.1 h]
end
section
open Go.Lib Go.Proofs.Tryz Go.RowKit Go.Shelf Go.Sort CH
theorem Pq {l:List UInt8} (h:aC l=true):l.length=16:=by unfold aC at h;rw [Ar] at h;exact Dz.1 h.1
theorem Oy {ls:List (List UInt8)} (hl:ls.length<=18) (h:∀ x∈ls,aC x=true):Gk ls/\∀ l∈ls,l≠[] :=
 ⟨⟨oM,fun l hx=>by rw [Pq (h l hx)];omega⟩,fun l hx e=>by
  have:=Pq (h l hx)
  rw [e] at this
  cases this⟩
theorem V7 (B:Nat) (w:ZB):Strs B w (.slice none 0 0) []:=⟨none,0,rfl,Bo _,oM,fun h=>absurd rfl h⟩
theorem Bso (i:Nat) (hi:i<2) (number pos:Int) (prev:List UInt8) (acts:List CH.Act) (m:List UInt8) (hn:number=(i:Int)+1) (hpos:I64 pos) (hp:prev.length<=10000) (hm:CH.message (kF number pos prev acts)=.ok m) (ht:∃ t,dD (CH.sealed i (kF number pos prev acts) m)=.ok t):qK (CH.sealed i (kF number pos prev acts) m) number pos prev acts:=by
 intro w va hG hA;obtain⟨t,ht⟩:=ht;have d1:=Oy (by rw [lC];omega) (lM sS i m);have d2:=Oy (by rw [mY];omega) (kV (CH.keys sS 1) i);have h0:I64 0:=⟨dC,dC⟩
 have hnm:I64 number:=⟨oM,oM⟩
 have hsm:Gk []:=⟨sM,fun _ h=>by cases h⟩
 have C:=Lex (kF number pos prev acts) i 1 sS m t va w hG ⟨hA,V7 _ _,V7 _ _,⟨h0,hnm,hpos,hp,h0,hsm,hsm⟩⟩ rfl hn hm dC dC oM ht d1.1 d2.1 d1.2 d2.2;refine C.mono ?_;rintro e w' ⟨s,rfl,hv,hb⟩;obtain⟨a1,n1,c1,a2,n2,c2,a3,n3,c3,rfl⟩:=hv.sl;exact⟨_,_,_,_,_,_,_,_,_,rfl,hv,hb⟩
theorem Hvm (n:Int) (hn:I64 n):sD n [gZ n]:=by intro w;refine (Lot n hn w).mono ?_;rintro e w' ⟨v,rfl,hA,hb⟩;obtain⟨a,c,rfl,_,_⟩:=hA.form;exact⟨_,_,_,rfl,hA,hb⟩
theorem mg {V:CH.Version} {known:CH.Known} {forks:CH.Forks} {er:Int} {known':CH.Known} {nV:CH.Forks} (h:gU eU hK known forks V=(er,known',nV)):oO jD V known forks er known' nV:=by intro w0 w l c r1 r2 s h9 hS hC hv;have A:=M3a c r1 r2 hK known forks V s w hS.gc hC.1 hv;have e:tJ hK known forks V=(er,known',nV):=h;rw [e] at A;refine A.mono ?_;intro e w' hR;have hS':=hS.added hC.1 hC.2.1 hC.2.2 h9 hR;obtain⟨rfl,hC',_⟩:=hR;exact⟨rfl,hS',hC',hC.2⟩
theorem rG {known:CH.Known} {n:Nat} (hn:∀ p v,(p,v)∈known->p.2<=200) (hm:(fol CH.msg known 0).1.length=n):uU jD known n:=by intro w0 w l c r1 r2 forks hS hC;refine (Hl2 c r1 r2 jD known forks n n w hS.gc hC.1 hn hm).mono ?_;rintro e w' ⟨rfl,hb⟩;exact⟨sM,hS.go hb,hC.1.below hb,hC.2⟩
theorem Hrl (B:Nat) (w:ZB):fJ B w lQ qO:=by
 have s0:Strs B w pz []:=V7 B w;have hf:C5 (.mk 0 [] 0 0 []):=by unfold C5 Hk;exact⟨sM,trivial⟩
 have hc:(CH.Formula.mk 0 [] 0 0 []).count<=100000000:=by unfold CH.Formula.count aI;omega
 have hd:(CH.Formula.mk 0 [] 0 0 []).depth<=100000000:=by unfold CH.Formula.depth aX;omega
 have i0:I64 0:=⟨dC,dC⟩
 have z:(0:Nat)<=10000:=oM;have z1:(0:Nat)<=100000:=oM;have z2:(2:Nat)<=10000:=oM;have sh:Gk []:=⟨z1,fun l h=>by cases h⟩
 refine⟨⟨none,0,rfl,Bo _,oM,fun h=>absurd rfl h⟩,⟨?_,⟨i0,i0,i0,i0⟩,z,z,z,hf,hc,hd⟩,s0,s0,s0,⟨⟨z,⟨z,z1,fun _ h=>by cases h⟩⟩,i0,z,sh,sh,⟨z2,z2,z2,z,z,sh⟩,z,⟨by show (-9223372036854775808:Int)<=6;decide,by show (6:Int)<=9223372036854775807;decide⟩,i0⟩⟩;show A6 B w (.mk 0 [] 0 0 []) pz;unfold A6;exact FD81
theorem Xq:aC jD=true:=by unfold jD CH.pub;exact jy _
theorem Hnd:Sd [jD]=true:=by have h:=Xq;unfold Sd dY;simp [h]
theorem hf:HF jD CH.m1 jA oJ gY mQ [gZ 1] [gZ 2] [gZ 3] kC1 kC2 kD1 kD2 kX1 kX2 fC fD:={
 pub:=fun w hG=>Hdr sS 1 w hG dC dC
 new:=fun w v hG hv=>by
  refine (Msk v [jD] w hG hv (fun l hl=>?_) sM).mono ?_
  ·rw [Bv] at hl
   rw [hl,Pq Xq]
   omega
  ·rintro e w' ⟨hb,hif⟩
   rw [Ap Hnd] at hif
   obtain⟨c,r1,r2,rfl,hC,_,g2,g3⟩:=hif
   exact⟨c,r1,r2,rfl,hC,g2,g3,hb⟩
 e1:=Hvm 1 ⟨dC,dC⟩
 e2:=Hvm 2 ⟨dC,dC⟩
 e3:=Hvm 3 ⟨dC,dC⟩
 m1:=Bso 0 dC 1 100 [] [gZ 1] CH.m1 rfl ⟨dC,dC⟩ dC pG kJ
 m2:=Bso 1 dC 2 100 CH.m1 [gZ 2] CH.m2 rfl ⟨dC,dC⟩ dC ug nH
 m3:=Bso 0 dC 1 100 [] [gZ 3] CH.m3 rfl ⟨dC,dC⟩ dC nO kH
 m4:=Bso 1 dC 2 99 CH.m1 [] CH.m4 rfl ⟨dC,dC⟩ dC qy mG
 msg:=fun w s hG hv=>by
  have:=Pe jA s w hG hv
  have e:CH.message jA=.ok CH.m1:=(je 0 rD CH.m1 rfl).trans pG
  rw [e] at this
  exact this
 ac1:=mg BQ
 ac2:=mg BP
 ac3:=mg BN
 ac4:=mg BM
 ad1:=mg BL
 ad2:=mg BK
 ad3:=mg BJ
 ax1:=mg BI
 ax2:=mg BH
 vc1:=rG (n:=0) (by simp [kC1]) BD
 vc2:=rG (n:=2) (by
  rintro⟨a,b⟩ v h
  simp [kC2] at h
  show b<=200
  rcases h with h|h <;> omega) BA
 vd2:=rG (n:=1) (by
  rintro⟨a,b⟩ v h
  simp [kD2] at h
  show b<=200
  rcases h with h|h <;> omega) AZ
 vx2:=rG (n:=1) (by
  rintro⟨a,b⟩ v h
  simp [kX2] at h
  show b<=200
  rcases h with h|h <;> omega) AY
 forks:=fun w0 w l c r1 r2 hS hC=>by
  refine (Amp c r1 r2 [jD] kC2 fC w hC.1 (by simp [fC]) (by simp [fC])).mono ?_
  rintro e w' ⟨v,base,rfl,_,hO,hb⟩
  obtain⟨a,cap,rfl,_⟩:=hO.form
  exact⟨a,cap,rfl,hS.go hb⟩
 act:=fun w hG=>by
  have:=F10 lQ qO w hG (Hrl _ _)
  rw [Lnr] at this
  exact this }
theorem Tr (w:ZB) (hG:Gc w):ZE prog 4 #[] w (Ret w (.bool true)):=I51 hf w hG
abbrev fG (keys:List (List UInt8)) (l:List CH.Version):=dM eU keys l [] []
def Nm8 (B:Nat) (w:ZB) (keys:List (List UInt8)) (l:List CH.Version) (e:Ending) (w':ZB):Prop := Gc w'/\Below w w w'/\if Sd keys=true then ∃ c r1 r2,e=.returned (.pointer (some ⟨c,0,none⟩))/\ChainIn B w w' c r1 r2 keys (fG keys l).1 (fG keys l).2/\w.heap.size<=c/\w.heap.size<=r1/\w.heap.size<=r2 else e=.returned (.pointer none)
def Met (w:ZB) (keys:List (List UInt8)) (l:List CH.Version) (e:Ending) (w':ZB):Prop := Gc w'/\Below w w w'/\if Sd keys=true then ∃ c r1 r2,e=.returned (.pointer (some ⟨c,0,none⟩))/\De w' c r1 r2 keys (fG keys l).1 (fG keys l).2/\w.heap.size<=c/\w.heap.size<=r1/\w.heap.size<=r2 else e=.returned (.pointer none)
theorem U0 (B0:Nat) (vk vl:ZC) (keys:List (List UInt8)) (l:List CH.Version) (w:ZB) (hB0:B0<=w.heap.size) (hG:Gc w) (hk:Strs w w vk keys) (hl:Hj B0 w vl l) (hkl:∀ x∈keys,x.length<=9223372036854775807) (hlen:keys.length<=1000) : ZE prog 7 #[vk,vl] w (Nm8 B0 w keys l):=by
 have NW:=Aa (All vk keys w hG.gl hk hkl oM);have HA:=Aa fun (c r1 r2:Nat) (known:CH.Known) (forks:CH.Forks) (v:CH.Version) (s:dA) (W:ZB) (h1:Gc W) (h2:ChainIn B0 w W c r1 r2 keys known forks) (h3:aP B0 W v s)=>Asc B0 w c r1 r2 keys known forks v s W h1 h2 h3;have h9:9<=w.heap.size:=hG.gl.size;obtain⟨ak,ck,rfl,_,_⟩:=hk.form;obtain⟨al,cl,rfl,hlc,hcl,hcells⟩:=hl;have hcells:=Aa hcells;have hG:=Aa hG;have h9:=Aa h9;clear hk hkl hlen;generalize keys.length=nk at *;obtain⟨N,hN⟩:∃ N,Hid (l.length=N):=⟨_,Aa rfl⟩
 rw [hN.out] at hlc ⊢;go_enter func7,ntmps7;go_wp2_with fail;refine NW.out.mono ?_;rintro e w1 ⟨hb1,hif⟩;clear NW;have hG1:=hG.out.below hb1;have hi8:(prog.info? 31).map (·.size)=some 8:=kR;by_cases hok:Sd keys=true
 ·rw [Ap hok] at hif;obtain⟨c,r1,r2,rfl,hC,g1,g2,g3⟩:=hif;have hC:=Aa (hC.weak (Bd _) (Ag hB0 hb1.size) nR);have hG1:=Aa hG1;have hb1:=Aa hb1;have hok:=Aa hok;have g1:=Aa g1;have g2:=Aa g2;have g3:=Aa g3;go_wp2_with fail;go_loopw [7] (fun i wr=>∃ k:Nat,k<=N/\i=↑k/\Hid (ChainIn B0 w wr c r1 r2 keys (fG keys (l.take k)).1 (fG keys (l.take k)).2)/\Hid (Gc wr)/\Hid (Below w w wr)) (fun i _=>N - (ZG i).toNat);case atStart=>exact⟨0,Bd _,rfl,hC,hG1,hb1⟩
  case round =>
   obtain⟨k,hkN,rfl,hCr,hGr,hBr⟩:=hrel;by_cases hlt:k<N
   ·obtain⟨b,off,rfl,hbl,hx⟩:=hcells.out (by intro h;have:=hN.out;simp [h] at this;omega);obtain⟨x,hxk⟩:∃ x,l[k]?=some x:=⟨_,Ad (by rw [hN.out];exact hlt)⟩
    obtain⟨s,hc,hat⟩:=hx k x hxk;have hrg:wr.rangeAt b (off+k*8) (Al x s):=fun j u hj=>(hBr.out.cell (p:=⟨b,off+k*8+j,none⟩) (Ai hbl hB0)).trans (hc j u hj);have A:=HA.out c r1 r2 _ _ x s wr hGr.out hCr.out (hat.below hBr.out hB0);have hsn:fG keys (l.take (k+1))=(gU eU keys (fG keys (l.take k)).1 (fG keys (l.take k)).2 x).2:=by rw [aK _ _ _ hxk];exact ni eU keys (l.take k) x [] []
    have KP:=Aa fun (e:Ending) (w':ZB) (hR:ou B0 w wr c r1 r2 keys (tJ keys (fG keys (l.take k)).1 (fG keys (l.take k)).2 x) e w')=>U1 hGr.out hCr.out.at g2.out g3.out h9.out hBr.out ⟨hR.1,hR.2.1.at,hR.2.2⟩;have hrg:=Aa hrg;have hsn:=Aa hsn;have A:=Aa A;have nD:(prog.info? 31).map (·.size)=some (Al x s).length:=hi8;clear hx hc hat hxk hCr hGr;obtain⟨LL,hLL⟩:∃ LL,Al x s=LL:=⟨_,rfl⟩
    rw [hLL] at hrg A nD;clear hLL;go_wp2_with (refine Bf rfl 31 _ rfl b (off+k*8) rfl LL _ hrg.out underlying31 rfl nD ?_)
    refine A.out.mono ?_;intro e w2 hR;obtain⟨q1,q2,_⟩:=KP.out e w2 hR;obtain⟨rfl,hC2,_⟩:=hR;have hC2:Hid (ChainIn B0 w w2 c r1 r2 keys (fG keys (l.take (k+1))).1 (fG keys (l.take (k+1))).2):=Aa (by rw [hsn.out];exact hC2);have q1:=Aa q1;have q2:=Aa q2;clear KP A hsn hrg;generalize (tJ keys (fG keys (l.take k)).1 (fG keys (l.take k)).2 x).1=er at *;go_wp2;go_roundw;case rel=>exact⟨k+1,oM,by go_num,hC2,q1,q2⟩
    case measure=>simp [ZG];omega
   ·obtain rfl:k=N:=oM;have hfin:=hCr.out;rw [Cc (by rw [hN.out];exact Bo _)] at hfin;have hfin:=Aa hfin;clear hCr;go_wp2;go_ret;refine⟨hGr.out,hBr.out,?_⟩;rw [Ap hok.out];exact⟨c,r1,r2,rfl,hfin.out,g1.out,g2.out,g3.out⟩
 ·rw [Af hok] at hif;subst hif;have hG1:=Aa hG1;have hb1:=Aa hb1;have hok:=Aa hok;go_wp2_with fail;go_loopw [7] (fun i wr=>∃ k:Nat,k<=N/\i=↑k/\Hid (Gc wr)/\Hid (Below w w wr)) (fun i _=>N - (ZG i).toNat);case atStart=>exact⟨0,Bd _,rfl,hG1,hb1⟩
  case round =>
   obtain⟨k,hkN,rfl,hGr,hBr⟩:=hrel;by_cases hlt:k<N
   ·obtain⟨b,off,rfl,hbl,hx⟩:=hcells.out (by intro h;have:=hN.out;simp [h] at this;omega);obtain⟨x,hxk⟩:∃ x,l[k]?=some x:=⟨_,Ad (by rw [hN.out];exact hlt)⟩
    obtain⟨s,hc,hat⟩:=hx k x hxk;have hrg:wr.rangeAt b (off+k*8) (Al x s):=fun j u hj=>(hBr.out.cell (p:=⟨b,off+k*8+j,none⟩) (Ai hbl hB0)).trans (hc j u hj);have A:=Hym x s wr hGr.out ((hat.below hBr.out hB0).mono (Ag hB0 hBr.out.size));have hrg:=Aa hrg;have A:=Aa A;have nD:(prog.info? 31).map (·.size)=some (Al x s).length:=hi8;clear hx hc hat hxk;obtain⟨LL,hLL⟩:∃ LL,Al x s=LL:=⟨_,rfl⟩
    rw [hLL] at hrg A nD;clear hLL;go_wp2_with (refine Bf rfl 31 _ rfl b (off+k*8) rfl LL _ hrg.out underlying31 rfl nD ?_)
    refine A.out.mono ?_;rintro e w2 ⟨rfl,hb2⟩;have q1:Hid (Gc w2):=Aa (hGr.out.below hb2);have q2:Hid (Below w w w2):=Aa (hBr.out.trans (hb2.mono hBr.out.size));clear A hrg hb2;go_wp2;go_roundw;case rel=>exact⟨k+1,oM,by go_num,q1,q2⟩
    case measure=>simp [ZG];omega
   ·obtain rfl:k=N:=oM;go_wp2;go_ret;refine⟨hGr.out,hBr.out,?_⟩;rw [Af hok.out];rfl
theorem Jun (vk vl:ZC) (keys:List (List UInt8)) (l:List CH.Version) (w:ZB) (hG:Gc w) (hk:Strs w w vk keys) (hl:Hj w w vl l) (hkl:∀ x∈keys,x.length<=9223372036854775807) (hlen:keys.length<=1000) : ZE prog 7 #[vk,vl] w (Met w keys l):=by refine (U0 _ vk vl keys l w nR hG hk hl hkl hlen).mono ?_;rintro e w1 ⟨hG1,hb,hif⟩;refine⟨hG1,hb,?_⟩;exact FD93
theorem Mk.below {B B':Nat} {w w':ZB} {v:ZC} {ls:List CH.Version} (h:Mk B w v ls) (hb:Below B' w w') (hB:B<=B'):Mk B w' v ls:=by exact FD43
theorem Mk.mono {B B':Nat} {w:ZB} {v:ZC} {ls:List CH.Version} (h:Mk B w v ls) (hB:B<=B'):Mk B' w v ls:=by exact FD24
theorem Gen {B:Nat} {w:ZB} {v:ZC} {l:List CH.Version} (h:Mk B w v l) (hn:∀ a∈l,kN a) (hf:∀ a∈l,jK a=true):Hj B w v l:=by obtain⟨a,cap,h1,h2,h3,h4⟩:=h;refine⟨a,cap,h1,h2,h3,fun hne=>?_⟩;obtain⟨b,off,e,hlt,hx⟩:=h4 hne;refine⟨b,off,e,hlt,fun j x hj=>?_⟩;obtain⟨s,c1,c2⟩:=hx j x hj;exact⟨s,c1,I06 c2 (hn x (Aw hj)) (hf x (Aw hj))⟩
theorem Ast {α:Type} [DecidableEq α] (a b:List α) (k:Nat) (x y:α) (ha:a[k]?=some x) (hb:b[k]?=some y) (h:a.take k=b.take k):a.take (k+1)=b.take (k+1)↔x=y:=by rw [D6,D6,ha,hb,h];simp
theorem Lg8 (va vb:ZC) (a b:List Int) (w:ZB) (ha:Zz w w va a) (hb:Zz w w vb b) : ZE prog 23 #[va,vb] w (Ret w (.bool (a==b))):=by
 obtain⟨aa,ca,rfl,hla,hca,hna⟩:=ha;obtain⟨ab,cb,rfl,hlb,hcb,hnb⟩:=hb;obtain⟨R,hR⟩:∃ R,Hid ((a==b)=R):=⟨_,Aa rfl⟩
 rw [hR.out];obtain⟨N,hN⟩:∃ N,a.length=N:=⟨_,rfl⟩
 obtain⟨M,hM⟩:∃ M,b.length=M:=⟨_,rfl⟩
 rw [hN] at hla;rw [hM] at hlb;rw [hN,hM];have hna:=Aa hna;have hnb:=Aa hnb;have hN:=Aa hN;have hM:=Aa hM;by_cases hNM:N=M
 ·subst hNM;go_enter func23,ntmps23;go_wp2_with fail;go_loopw [5] (fun i wr=>∃ k:Nat,k<=N/\i=↑k/\Hid (Below w w wr)/\Hid (a.take k=b.take k)) (fun i _=>N - (ZG i).toNat);case atStart=>exact⟨0,Bd _,rfl,Aa (Ac _ _),Aa rfl⟩
  case round =>
   obtain⟨k,hk,rfl,hBr,hI⟩:=hrel;by_cases hlt:k<N
   ·obtain⟨b1,o1,rfl,hb1,hc1⟩:=hna.out (by intro h;have:=hN.out;simp [h] at this;omega);obtain⟨b2,o2,rfl,hb2,hc2⟩:=hnb.out (by intro h;have:=hM.out;simp [h] at this;omega);obtain⟨x,hx⟩:∃ x,a[k]?=some x:=⟨_,Ad (by rw [hN.out];exact hlt)⟩
    obtain⟨y,hy⟩:∃ y,b[k]?=some y:=⟨_,Ad (by rw [hM.out];exact hlt)⟩
    have e1:wr.cell? ⟨b1,o1+k,none⟩=some ↑x:=(hBr.out.cell (p:=⟨b1,o1+k,none⟩) hb1).trans (hc1 k x hx);have e2:wr.cell? ⟨b2,o2+k,none⟩=some ↑y:=(hBr.out.cell (p:=⟨b2,o2+k,none⟩) hb2).trans (hc2 k y hy);have htk:=Aa (Ast a b k x y hx hy hI.out);have hx:=Aa hx;have hy:=Aa hy;clear hc1 hc2;have z0:(0:Int)<=(k:Int):=oM;have l1:b1<wr.heap.size:=Ai hb1 hBr.out.size;have l2:b2<wr.heap.size:=Ai hb2 hBr.out.size;have zk:((k:Int)).toNat=k:=oM;have hk':(k:Int)<(N:Int):=oM;have g1:∀ (d:Nat) (os:Array Obj),(grow (ZI wr d) os).cell? ⟨b1,o1+k,none⟩=some ↑x:=Ae e1;have g2:∀ (d:Nat) (os:Array Obj),(grow (ZI wr d) os).cell? ⟨b2,o2+k,none⟩=some ↑y:=Ae e2;go_wp2_with fail;refine Ba kR kR ?_;repeat (quiet_step (fail))
    refine Cj ?_;intro wq hbq;replace hbq:=As hbq;clear g1 g2;have hB2:Hid (Below w w wq):=Aa (hBr.out.trans (hbq.mono hBr.out.size));clear hbq e1 e2;by_cases hxy:x=y
    ·have q:(x != y)=false:=by simp [hxy]
     have hI':Hid (a.take (k+1)=b.take (k+1)):=Aa (htk.out.2 hxy);have hxy:=Aa hxy;go_wp2;go_roundw;case rel=>exact⟨k+1,oM,by go_num,hB2,hI'⟩
     case measure=>simp [ZG];omega
    ·have q:(x != y)=true:=by simp [hxy]
     have hRf:R=false:=by rw [<- hR.out,Bq];intro e;subst e;rw [hx.out] at hy;have:=hy.out;simp at this;exact hxy this
     have hxy:=Aa hxy;go_wp2;go_ret;exact⟨by rw [hRf];rfl,hB2.out⟩
   ·obtain rfl:k=N:=oM;have hRt:R=true:=by have h1:=hI.out;rw [Cc (by rw [hN.out];exact Bo _),Cc (by rw [hM.out];exact Bo _)] at h1;rw [<- hR.out,h1];simp
    go_wp2;go_ret;exact⟨by rw [hRt];rfl,hBr.out⟩
 ·have hRf:R=false:=by rw [<- hR.out,Bq];intro e;rw [e,hM.out] at hN;exact hNM hN.out.symm
  have hNM:=Aa hNM;have q:((N:Int) != (M:Int))=true:=by have:=hNM.out;simp;omega
  go_enter func23,ntmps23;go_wp2;go_ret;exact⟨by rw [hRf];rfl,Ac _ _⟩
theorem S6 {P:Program} {W:ZB} {name:String} {k:IntKind} {zs:List Int} {g:Nat} {t e:TypeId} {n:Nat} (hg:P.globalNamed name=some g) (hty:(P.globals[g]?).map (·.type)=some t) (ht:P.underlying t=some (.array n e)) (he:P.underlying e=some (.int k)) (hce:P.cellsOf e=1) (hct:P.cellsOf t=n) (h:VarReads P W name (tabData k zs)):TabIs P W name k zs:=by obtain⟨g',t',cs,fuel,p,hg',ht',hvar,hd⟩:=h;obtain rfl:=H6 (hg.symm.trans hg');obtain rfl:=H6 (hty.symm.trans ht');unfold TabIs;rw [hvar,<- cells_of_tab ht he hce hct hd]
def BF:List Int:=[0,1,56,2,57,49,28,3,61,58,42,50,38,29,17,4,62,47,59,36,45,43,51,22,53,39,33,30,24,18,12,5,63,55,48,27,60,41,37,16,46,35,44,21,52,32,23,11,54,26,40,15,34,20,31,10,25,14,19,9,13,8,7,6]
def M12:Ren:=⟨Tryz.lays274_ren.f,Tryz.lays274_ren.t,fun|13=>8|n=>n⟩
theorem L3b:Lays.n274 prog M12:={ lays274 with }
theorem Htd {W:ZB} (h:laidMetH prog Rows.chainOrderRow.laid W):Gc W:=by
 rw [MakeChecks.laidMetH_plain _ _ _ kR] at h;have r1:VarReads prog W "math/bits.deBruijn64tab" (tabData .u8 BF):=Lib.laidMet.reads h (.tail _ (.head _));have r2:VarReads prog W "internal/strconv.uint64pow10" (tabData .u64 Lib.pow10Tab):=Lib.laidMet.reads h (.tail _ (.tail _ (.head _)));have r3:VarReads prog W "unicode/utf8.acceptRanges" acceptData:=Lib.laidMet.reads h (.tail _ (.tail _ (.tail _ (.head _))));have ec:Go.Pinned.caseRanges=caseData:=kR;have ef:Go.Pinned.utf8First=firstData:=kR;have r6:VarReads prog W "unicode.CaseRanges" caseData:=ec ▸ Lib.laidMet.reads h (.tail _ (.tail _ (.tail _ (.tail _ (.tail _ (.tail _ (.head _)))))));have r7:VarReads prog W "unicode/utf8.first" firstData:=ef ▸ Lib.laidMet.reads h (.tail _ (.tail _ (.tail _ (.tail _ (.tail _ (.tail _ (.tail _ (.head _))))))));have t1:TabIs prog W "math/bits.deBruijn64tab" .u8 BF:=S6 (g:=5) kR rfl rfl rfl kR kR r1;have t2:TabIs prog W "internal/strconv.uint64pow10" .u64 Lib.pow10Tab:=S6 (g:=0) kR rfl rfl rfl kR kR r2;have u8:Lib.Utf8Tabs 2 3 W:=utf8Tabs_of_reads { lays260 with } ⟨kR,kR,kR,kR,kR,kR,kR⟩ r7 r3;have cv:Lib.CaseVar 8 Lib.caseA W:=caseVar_of_reads L3b underlying359 ⟨kR,kR,kR,kR,kR,kR⟩ r6;have h9:9<=W.heap.size:=by obtain⟨R,oR,cap,h1,_⟩:=cv;have:=Ef W _ h1;exact this
 exact⟨⟨h9,t1.cell kR 15 dC,t2,u8⟩,cv⟩
end
end Go.Proofs.YtpkjhpenpfcpfaaGreatDoor
