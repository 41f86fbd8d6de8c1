/- Part 19. -/
import Derived.Test.YtajmjabodcmonaaGreatDoorP14
set_option linter.all false
set_option maxHeartbeats 40000000
set_option maxRecDepth 100000
open Go renaming World -> ZB, Value -> ZC, Calls -> ZE
open Go.RowKit renaming intOf -> ZG
open Decidable renaming decide -> ZH
open Go.Lib renaming itoa -> ZK, byteCells -> ZL
namespace Go.Proofs.Y
section
open Go.Lib Go.Proofs.Tryz Go.RowKit Go.Shelf Go.Sort CH
theorem Gb {P:Program} {fn:Func} {p u:Tmp} {ty:TypeId} (h:fn.results=#[.cell p ty,.tmp u]) (tmps:Array ZC) (w:ZB) (a:Addr) (x:ZC) (hp:tmps.getD p undef=.pointer (some a)) (hl:(loadVar ty a).run P w=.ok x w):(results fn tmps).run P w=.ok (.tuple #[x,tmps.getD u undef]) w:=by
 simp only [results,h];have hp':tmps[p]?.getD undef=.pointer (some a):=by simpa using hp
 simp [asAddr];rw [hp'];simp [Result.andThen,hl]
theorem I34 (w:ZB) (o1 o2:Obj):((w.alloc o1).alloc o2).heap[w.heap.size+1]?=some o2:=by have:=Aw (w.alloc o1) o2;rwa [Dt] at this
theorem I35 (w:ZB) (o1 o2:Obj):((w.alloc o1).alloc o2).heap[w.heap.size]?=some o1 := (((Ac _ (w.alloc o1)).alloc nR o2).block w.heap.size sM).trans (Aw w o1)
theorem Mi {B:Nat} {w:ZB} {v:ZC} {ls:List Q00} (h:Strs B w v ls) (b o:Nat) (cs:List ZC) (hx:∀ l∈ls,∀ j,j<cs.length->w.cell? ⟨b,o+j,none⟩≠some (aA l)):Strs B (w.setCells b o cs) v ls:=by
 obtain⟨a,cap,h1,h2,h3,h4⟩:=h;refine⟨a,cap,h1,h2,h3,fun hne=>?_⟩;obtain⟨b',off,e,hlt,hc⟩:=h4 hne;refine⟨b',off,e,hlt,fun j l hj=>?_⟩;have h5:=hc j l hj;rw [World.cell?_setCells_out b cs o w ⟨b',off+j,none⟩ ?_];·exact h5
 ·intro hb _;by_cases hr:off+j<o\/o+cs.length<=off+j;·exact hr
  ·exfalso;have hb:b'=b:=hb;subst hb;refine hx l (Ap hj) (off+j - o) oM ?_;rw [show o+(off+j - o)=off+j from by omega];exact h5
theorem Ct {w w1:ZB} {B b:Nat} (h:Below B w w1) (hb:B<=b):∀ (cs:List ZC) (o:Nat),Below B w (w1.setCells b o cs):=by
 intro cs;induction cs generalizing w1 with
 |nil=>intro o;exact h
 |cons v r ih =>
  intro o;have h':Below B w (w1.setCell ⟨b,o,none⟩ v):=by
   refine⟨h.os,h.tape,h.output,?_,fun k hk=>?_⟩
   ·have:(w1.setCell ⟨b,o,none⟩ v).heap.size=w1.heap.size:=by simp [World.setCell]
    rw [this];exact h.size
   ·simp only [World.setCell];rw [Fh,Ai (by show ¬ b=k;omega)];exact h.block k hk
  rw [World.setCells];exact ih h' (o+1)
theorem Z2 (w:ZB) (b:Nat):∀ (cs:List ZC) (o:Nat),(w.setCells b o cs).heap.size=w.heap.size:=by
 intro cs;induction cs generalizing w with
 |nil=>intro o;rfl
 |cons v r ih=>intro o;rw [World.setCells,ih];simp [World.setCell]
def Rev (w:ZB) (v:Q01) (e:Ending) (w':ZB):Prop := ∃ s:aS,e=.returned (.tuple #[.agg (Al v s).toArray,.int .i64 0])/\aG w' w' v s/\Below w w w'
def Od:List ZC:=[.int .i64 0,.int .i64 0,.int .i64 0,.string ⟨#[]⟩,.slice none 0 0,.int .i64 0,.slice none 0 0,.slice none 0 0]
theorem Mb8:(Od.toArray).all (·.oneCell')=true:=Gh (cs:=Od) (by
  intro u hu
  simp only [Od,Bl,Ci,Et] at hu
  rcases hu with rfl|rfl|rfl|rfl|rfl|rfl|rfl|rfl <;> rfl)
def Put (w:ZB) (v:Q01) (r:Except Int Q00) (e:Ending) (w':ZB):Prop := Below w.heap.size w w'/\((∃ s:aS,e=.returned (.tuple #[.agg (Al v s).toArray,.int .i64 0])/\aG w'.heap.size w' v s/\∃ t,r=.ok t)\/∃ er,e=.returned (.tuple #[.agg Od.toArray,.int .i64 er])/\r=.error er)
theorem Mx9 (v:Q01) (i h:Nat) (ky m:Q00) (r:Except Int Q00) (va:ZC) (w:ZB) (hG:Gc w) (hA:aG w w v ⟨va,.slice none 0 0,.slice none 0 0⟩) (hv:v.sel=⟨0,[],[]⟩) (hn:v.number=(i:Int)+1) (hm:CH.message v=.ok m) (hs:ky.length<=1000000) (hh:h<=8) (hi:i<2 ^ h) (ht:bY { v with sel:=⟨i,CH.sig ky i m,CH.path (CH.keys ky h) i⟩ }=r) (hr0:∀ er,r=.error er->er≠0) (h1:Fx (CH.sig ky i m)) (h2:Fx (CH.path (CH.keys ky h) i)) (h3:∀ l∈CH.sig ky i m,l≠[]) (h4:∀ l∈CH.path (CH.keys ky h) i,l≠[]) : ZE prog 22 #[↑v.authority,↑v.number,↑v.pos,↑v.prev,va,↑ky,↑h] w (Put w { v with sel:=⟨i,CH.sig ky i m,CH.path (CH.keys ky h) i⟩ } r):=by
 have hB0:=fun o=>(Ac _ w).alloc nR o;have EW:=fun o o'=>((Ac _ w).alloc nR o).alloc sM o';have HV:=Aa fun (W:ZB) (hb:Below w w W)=>(hA.below hb nR).mono hb.size;have M:=fun (W:ZB) (hb:Below w w W)=>Pa v _ W (hG.below hb) (HV.out W hb);rw [hm] at M;have S:=Aa fun (W:ZB) (hb:Below w w W)=>Mpt ky m h i W (hG.below hb).gl hs (by rw [Ux hm];decide) hh hi;generalize CH.sig ky i m=sg at *;generalize CH.path (CH.keys ky h) i=pt at *;have ML:i<256:=Ae hi (by have:2 ^ h<=2 ^ 8:=Kr dC hh;omega);have T:=Aa fun (W:ZB) (hb:Below w w W) (v1 v2:ZC) (q1:Strs W W v1 sg) (q2:Strs W W v2 pt)=>Mb { v with sel:=⟨i,sg,pt⟩ } ⟨va,v1,v2⟩ W (hG.below hb) ⟨(HV.out W hb).acts,q1,q2,⟨hA.small.authority,hA.small.number,hA.small.pos,hA.small.prev,⟨by show (-9223372036854775808:Int)<=(i:Int);omega,by show (i:Int)<=9223372036854775807;omega⟩,h1,h2⟩⟩;have HS:=Aa hA.small;obtain⟨aa,ca,e,_,_⟩:=hA.acts.form;change va=_ at e;subst e;clear hA;generalize v.acts.length=N at *;have hsub:(v.number - 1:Int)=(i:Int):=oM;dsimp only [Al,Hk] at M;rw [hv] at M;dsimp only at M;replace M:=Aa M;have hnb:-9223372036854775808<=v.number/\v.number<=9223372036854775807:=HS.out.number;have hng:1<=v.number/\v.number<=300:=oM;clear hn hnb;go_enter func22,ntmps22;go_wp2_with fail;refine CmZ (M.out _ (EW _ _)) fun w1 hb1=>?_;clear M;have hB1:Below w w w1:=(EW _ _).trans (hb1.mono (by simp;omega));have hblk:=(hb1.block (w+1) sM).trans (I34 _ _ _);have uD:=(hb1.block w (by simp;omega)).trans (I35 _ _ _);have hlt:w.heap.size+1<w1.heap.size:=(aZ hblk)
 go_wp2_with fail;refine (S.out _ hB1).mono ?_;rintro e w2 ⟨v1,v2,rfl,q1,q2,hb2⟩;clear S;have hB2:Below w w w2:=hB1.trans (hb2.mono hB1.size);have hblk2:=(hb2.block (w+1) hlt).trans hblk;have tu:=(hb2.block w oM).trans uD;have T2:=fun (W:ZB) (hb:Below w w W) (r1:Strs W W v1 sg) (r2:Strs W W v2 pt)=>T.out W hb v1 v2 r1 r2;rw [ht] at T2;dsimp only [Al] at T2;have hq1:=Aa q1;have hq2:=Aa q2;obtain⟨a1,c1,rfl,_,_⟩:=q1.form;obtain⟨a2,c2,rfl,_,_⟩:=q2.form;clear q1 q2 T hblk uD hb1;generalize sg.length=n1 at *;generalize pt.length=n2 at *;replace T2:=Aa T2;have hlt2:w.heap.size+1<w2.heap.size:=Ae hlt hb2.size;have hr2:w2.rangeAt (w.heap.size+1) 0 ([.int .i64 v.authority,.int .i64 v.number,.int .i64 v.pos,.string ⟨v.prev.toArray⟩,.slice aa N ca]++[.int .i64 0,.slice none 0 0,.slice none 0 0]):=fun j u hj=>by rw [Bf,Ab hblk2 j];simpa using hj
 have rl:=G1 hr2;have rr:=Cx hr2 5 rfl;have sW:w2.there (w+1) 5 3:=fun j hj=>⟨by
  obtain⟨u,hu⟩:∃ u,([.int .i64 0,.slice none 0 0,.slice none 0 0]:List ZC)[j]?=some u:=⟨_,Ad hj⟩
  rw [rr j u hu];rfl,Bb hblk2 _⟩
 have hrX:(w2.setCells (w+1) 5 [↑i,.slice a1 n1 c1,.slice a2 n2 c2]).rangeAt (w.heap.size+1) 0 [↑v.authority,↑v.number,↑v.pos,↑v.prev,.slice aa N ca,↑i,.slice a1 n1 c1,.slice a2 n2 c2]:=fun j u hj=>by
  rcases H9 j 5 with h5|h5;·exact World.rangeAt_setCells_apart rl (w+1) 5 [↑i,.slice a1 n1 c1,.slice a2 n2 c2] (.inr (.inl sM)) j u (by rw [<- hj];rcases (oM:j=0\/j=1\/j=2\/j=3\/j=4) with rfl|rfl|rfl|rfl|rfl <;> rfl)
  ·have:=En w2 (w+1) 5 [↑i,.slice a1 n1 c1,.slice a2 n2 c2] sW (j - 5) u (by
    rw [<- hj];have hj8:j<8:=by have:=(lS hj);simpa using this
    rcases (oM:j=5\/j=6\/j=7) with rfl|rfl|rfl <;> rfl)
   rw [show 0+j=5+(j - 5) from by omega];exact this
 have hno:∀ (l:Q00) (j:Nat),j<3->w2.cell? ⟨w+1,5+j,none⟩≠some (aA l):=fun l j hj e=>by
  rcases (oM:j=0\/j=1\/j=2) with rfl|rfl|rfl;·rw [rr 0 _ rfl] at e;cases e
  ·rw [rr 1 _ rfl] at e;cases e
  ·rw [rr 2 _ rfl] at e;cases e
 have hX1:=Mi hq1.out (w+1) 5 [↑i,.slice a1 n1 c1,.slice a2 n2 c2] (fun l _ j hj=>hno l j hj);have hX2:=Mi hq2.out (w+1) 5 [↑i,.slice a1 n1 c1,.slice a2 n2 c2] (fun l _ j hj=>hno l j hj);have hBX:=Ct hB2 (Hq _) [↑i,.slice a1 n1 c1,.slice a2 n2 c2] 5;have hsX:=Z2 w2 (w+1) [↑i,.slice a1 n1 c1,.slice a2 n2 c2] 5;have h0X:(w2.setCells (w+1) 5 [↑i,.slice a1 n1 c1,.slice a2 n2 c2]).rangeAt w.heap.size 0 [.int .i64 0,.int .i64 0,.int .i64 0,.string ⟨#[]⟩,.slice none 0 0,.int .i64 0,.slice none 0 0,.slice none 0 0]:=World.rangeAt_setCells_apart (fun j u hj=>by rw [Bf,Ab tu j];simpa using hj) _ _ _ (.inl oM);have h0f:∀ j,(w2.setCells (w+1) 5 [↑i,.slice a1 n1 c1,.slice a2 n2 c2]).frozen? ⟨w,j,none⟩=false:=fun j=>by rw [World.frozen?_setCells];exact Bb tu j
 have hi8:(prog.info? 38).map (·.size)=some 8:=kR;have hi3:(prog.info? 36).map (·.size)=some 3:=kR;have hall:(#[↑i,.slice a1 n1 c1,.slice a2 n2 c2]:Array ZC).all (·.oneCell')=true:=Gh (cs:=[↑i,.slice a1 n1 c1,.slice a2 n2 c2]) (by intro u hu;simp only [Bl,Ci,Et] at hu;rcases hu with rfl|rfl|rfl <;> rfl);replace hall:=Aa hall;have W1:=Aa sW;have W2:=Aa hrX;clear sW hrX rl rr hr2 hno hblk2 tu;replace hX1:=hX1.mono (N9 hsX.symm);replace hX2:=hX2.mono (N9 hsX.symm);have T3:=Aa (T2.out _ hBX hX1 hX2);replace hX1:=Aa hX1;replace hX2:=Aa hX2;replace hBX:=Aa hBX;replace hsX:=Aa hsX;replace h0X:=Aa h0X;replace h0f:=Aa h0f;clear T2 hb2 hq1 hq2 hB2;go_wp2_with (first|refine Ih rfl 36 _ _ rfl (w+1) 5 #[↑i,.slice a1 n1 c1,.slice a2 n2 c2] rfl rfl W1.out hi3 hall.out ?_|refine Bd rfl 38 _ rfl (w+1) 0 rfl [↑v.authority,↑v.number,↑v.pos,↑v.prev,.slice aa N ca,↑i,.slice a1 n1 c1,.slice a2 n2 c2] _ W2.out underlying38 rfl hi8 ?_)
 refine CmZ T3.out fun w3 hb3=>?_;have wV:=hBX.out;have xO:=hsX.out;have hx1:=hX1.out;have hx2:=hX2.out;have hr3:w3.rangeAt (w+1) 0 [↑v.authority,↑v.number,↑v.pos,↑v.prev,.slice aa N ca,↑i,.slice a1 n1 c1,.slice a2 n2 c2]:=A6 W2.out hb3 (by rw [xO];omega);have h03:=A6 h0X.out hb3 (by rw [xO];omega);have hf3:∀ j,w3.frozen? ⟨w,j,none⟩=false:=fun j=>(hb3.frozen (p:=⟨w,j,none⟩) (by rw [xO];show w.heap.size<_;omega)).trans (h0f.out j);clear T3 W1 W2 h0X h0f hall hi3;generalize w2.setCells (w+1) 5 [↑i,.slice a1 n1 c1,.slice a2 n2 c2]=X at *;have hB3:Below w w w3:=wV.trans (hb3.mono wV.size);have hy1:=(hx1.below hb3 nR).mono hb3.size;have hy2:=(hx2.below hb3 nR).mono hb3.size;have hth:w3.there w 0 8:=fun j hj=>⟨by
  obtain⟨u,hu⟩:∃ u,([.int .i64 0,.int .i64 0,.int .i64 0,.string ⟨#[]⟩,.slice none 0 0,.int .i64 0,.slice none 0 0,.slice none 0 0]:List ZC)[j]?=some u:=⟨_,Ad hj⟩
  rw [h03 j u hu];rfl,hf3 _⟩
 have hno:∀ (l:Q00),l≠[]->∀ (j:Nat),j<8->w3.cell? ⟨w,0+j,none⟩≠some (aA l):=fun l hl j hj e=>by
  rcases (oM:j=0\/j=1\/j=2\/j=3\/j=4\/j=5\/j=6\/j=7) with rfl|rfl|rfl|rfl|rfl|rfl|rfl|rfl;·rw [h03 0 _ rfl] at e;cases e
  ·rw [h03 1 _ rfl] at e;cases e
  ·rw [h03 2 _ rfl] at e;cases e
  ·rw [h03 3 _ rfl] at e;simp only [Fe,Value.string.injEq,ByteArray.mk.injEq] at e;exact hl (by simpa using e.symm)
  ·rw [h03 4 _ rfl] at e;cases e
  ·rw [h03 5 _ rfl] at e;cases e
  ·rw [h03 6 _ rfl] at e;cases e
  ·rw [h03 7 _ rfl] at e;cases e
 have hz1:=Aa (Mi hy1 w 0 [↑v.authority,↑v.number,↑v.pos,↑v.prev,.slice aa N ca,↑i,.slice a1 n1 c1,.slice a2 n2 c2] (fun l hl j hj=>hno l (h3 l hl) j hj));have hz2:=Aa (Mi hy2 w 0 [↑v.authority,↑v.number,↑v.pos,↑v.prev,.slice aa N ca,↑i,.slice a1 n1 c1,.slice a2 n2 c2] (fun l hl j hj=>hno l (h4 l hl) j hj));have hall:(#[↑v.authority,↑v.number,↑v.pos,↑v.prev,.slice aa N ca,↑i,.slice a1 n1 c1,.slice a2 n2 c2]:Array ZC).all (·.oneCell')=true:=Gh (cs:=[↑v.authority,↑v.number,↑v.pos,↑v.prev,.slice aa N ca,↑i,.slice a1 n1 c1,.slice a2 n2 c2]) (by intro u hu;simp only [Bl,Ci,Et] at hu;rcases hu with rfl|rfl|rfl|rfl|rfl|rfl|rfl|rfl <;> rfl);have hrF:=Aa (En w3 w 0 [↑v.authority,↑v.number,↑v.pos,↑v.prev,.slice aa N ca,↑i,.slice a1 n1 c1,.slice a2 n2 c2] hth);have hBF:=Aa (Ct hB3 nR [↑v.authority,↑v.number,↑v.pos,↑v.prev,.slice aa N ca,↑i,.slice a1 n1 c1,.slice a2 n2 c2] 0);have hsF:=Aa (Z2 w3 w.heap.size [↑v.authority,↑v.number,↑v.pos,↑v.prev,.slice aa N ca,↑i,.slice a1 n1 c1,.slice a2 n2 c2] 0);have hrZ:=Aa (En w3 w 0 Od hth);have hBZ:=Aa (Ct hB3 nR Od 0);replace hth:=Aa hth;replace hall:=Aa hall;replace hr3:=Aa hr3;clear hno h03 hf3 hy1 hy2 hx1 hx2 hX1 hX2 hBX hsX wV xO hb3 hB3;cases r with
 |error er =>
  have q1:(er==0)=false:=by simpa using hr0 er rfl
  have q2:(er != 0)=true:=by simpa using hr0 er rfl
  dsimp only [Hk];clear hrF hBF hsF hz1 hz2;go_wp2_with (first|refine Ih rfl 38 _ _ rfl w 0 Od.toArray rfl rfl hth.out hi8 Mb8 ?_)
  refine Aj (Gb rfl _ _ ⟨w,0,none⟩ _ rfl (H7 _ w 0 38 Od _ hrZ.out underlying38 rfl hi8)) rfl ?_;exact⟨hBZ.out,.inr ⟨er,rfl,rfl⟩⟩
 |ok t =>
  dsimp only [Hk];clear hrZ hBZ;go_wp2_with (first|refine Ih rfl 38 _ _ rfl w 0 #[↑v.authority,↑v.number,↑v.pos,↑v.prev,.slice aa N ca,↑i,.slice a1 n1 c1,.slice a2 n2 c2] rfl rfl hth.out hi8 hall.out ?_|refine Bd rfl 38 _ rfl (w+1) 0 rfl [↑v.authority,↑v.number,↑v.pos,↑v.prev,.slice aa N ca,↑i,.slice a1 n1 c1,.slice a2 n2 c2] _ hr3.out underlying38 rfl hi8 ?_)
  refine Aj (Gb rfl _ _ ⟨w,0,none⟩ _ rfl (H7 _ w 0 38 [↑v.authority,↑v.number,↑v.pos,↑v.prev,.slice aa N ca,↑i,.slice a1 n1 c1,.slice a2 n2 c2] _ hrF.out underlying38 rfl hi8)) rfl ?_;refine⟨hBF.out,.inl ⟨⟨.slice aa N ca,.slice a1 n1 c1,.slice a2 n2 c2⟩,rfl,⟨((HV.out _ hBF.out).acts),?_,?_,⟨HS.out.authority,HS.out.number,HS.out.pos,HS.out.prev,⟨by show (-9223372036854775808:Int)<=(i:Int);omega,by show (i:Int)<=9223372036854775807;omega⟩,h1,h2⟩⟩,⟨t,rfl⟩⟩⟩;·exact hz1.out.mono (N9 hsF.out.symm)
  ·exact hz2.out.mono (N9 hsF.out.symm)
theorem Mzr (v:Q01) (i h:Nat) (ky m t:Q00) (va:ZC) (w:ZB) (hG:Gc w) (hA:aG w w v ⟨va,.slice none 0 0,.slice none 0 0⟩) (hv:v.sel=⟨0,[],[]⟩) (hn:v.number=(i:Int)+1) (hm:CH.message v=.ok m) (hs:ky.length<=1000000) (hh:h<=8) (hi:i<2 ^ h) (ht:bY { v with sel:=⟨i,CH.sig ky i m,CH.path (CH.keys ky h) i⟩ }=.ok t) (h1:Fx (CH.sig ky i m)) (h2:Fx (CH.path (CH.keys ky h) i)) (h3:∀ l∈CH.sig ky i m,l≠[]) (h4:∀ l∈CH.path (CH.keys ky h) i,l≠[]) : ZE prog 22 #[↑v.authority,↑v.number,↑v.pos,↑v.prev,va,↑ky,↑h] w (Rev w { v with sel:=⟨i,CH.sig ky i m,CH.path (CH.keys ky h) i⟩ }) :=
 (Mx9 v i h ky m _ va w hG hA hv hn hm hs hh hi ht (fun _ h=>by cases h) h1 h2 h3 h4).mono fun e w' hR=>by
  obtain⟨hb,⟨s,e1,e2,_⟩|⟨er,_,e2⟩⟩:=hR
  ·exact⟨s,e1,e2,hb⟩
  ·cases e2
def dI (v:Q01) (key:Q00):Bool:=match bY v with
 |.error _=>false
 |.ok _=>v.sel.index==v.number - 1&&Mf key (CH.msg v) v.sel.index v.sel.sig v.sel.path
theorem L3c (v:Q01) (s:aS) (key:Q00) (w:ZB) (hG:Gc w) (h:aG w w v s) : ZE prog 33 #[.agg (Al v s).toArray,↑key] w (Ret w (.bool (dI v key))):=by
 obtain⟨R,hR⟩:∃ R,Hid (dI v key=R):=⟨_,Aa rfl⟩
 rw [hR.out];have hR1:=hR.out;unfold dI at hR1;have hB0:=fun o=>(Ac _ w).alloc nR o;have HV:=Aa fun (W:ZB) (hb:Below w w W)=>(h.below hb nR).mono hb.size;have T:=fun (W:ZB) (hb:Below w w W)=>Mb v s W (hG.below hb) (HV.out W hb);have M:=fun (W:ZB) (hb:Below w w W)=>Pa v s W (hG.below hb) (HV.out W hb);obtain⟨x,hx⟩:∃ x,bY v=x:=⟨_,rfl⟩
 have herr:∀ e,x=.error e->e≠0:=fun e he=>by exact FD122
 have hnum:∀ y,x=.ok y->1<=v.number/\v.number<=200:=fun y hy=>by obtain⟨u,hu⟩:=R6 (hx.trans hy);have:=I60 hu;omega
 simp only [Th] at M;have hml:=I50 v;generalize Uh (CH.message v)=me at M;generalize CH.msg v=mm at M hR1 hml;rw [hx] at hR1 T;have HS:=Aa h.small;have V:=fun (W:ZB) (hb:Below w w W)=>Heq key mm v.sel.index s.v1 s.v2 v.sel.sig v.sel.path W (hG.below hb).gl (Af hml dC) (HV.out W hb).sig (HV.out W hb).path (fun l hl=>Af (HS.out.sig.2 l hl) dC) (fun l hl=>Af (HS.out.path.2 l hl) dC) HS.out.index;obtain⟨va,v1,v2⟩:=s;clear h hx hR;dsimp only [Al] at T M V ⊢;have T:=Aa T;have M:=Aa M;have V:=Aa V;go_enter func33,ntmps33;go_wp2_with fail;refine CmZ (T.out _ (hB0 _)) fun w1 hb1=>?_;have hB1:Below w w w1:=(hB0 _).trans (hb1.mono sM);have hblk:=(hb1.block w sM).trans (Aw w _);have hlt1:w.heap.size<w1.heap.size:=(aZ hblk)
 have k0:w1.cell? ⟨w,0,none⟩=some ↑v.authority:=Ab hblk 0;have k1:w1.cell? ⟨w,1,none⟩=some ↑v.number:=Ab hblk 1;have k2:w1.cell? ⟨w,2,none⟩=some ↑v.pos:=Ab hblk 2;have k3:w1.cell? ⟨w,3,none⟩=some ↑v.prev:=Ab hblk 3;have k4:w1.cell? ⟨w,4,none⟩=some va:=Ab hblk 4;have k5:w1.cell? ⟨w,5,none⟩=some ↑v.sel.index:=Ab hblk 5;have k6:w1.cell? ⟨w,6,none⟩=some v1:=Ab hblk 6;have k7:w1.cell? ⟨w,7,none⟩=some v2:=Ab hblk 7;clear T hb1;cases x with
 |error e =>
  dsimp only [Hk];dsimp only at hR1;have q:(e==0)=false:=by simpa using herr e rfl
  replace hR1:=Aa hR1;clear herr hnum hblk M V;go_wp2;go_ret;exact⟨by rw [<- hR1.out];rfl,hB1⟩
 |ok y =>
  have hn:=hnum y rfl;dsimp only [Hk];dsimp only at hR1;replace hR1:=Aa hR1;clear herr hnum;by_cases hi:v.sel.index=v.number - 1
  ·have q1:(v.sel.index==v.number - 1)=true:=by simpa using hi
   have hR2:Hid (Mf key mm v.sel.index v.sel.sig v.sel.path=R):=Aa (by rw [<- hR1.out,q1];rfl);clear hR1 hi;go_wp2_with fail;refine CmZ (M.out _ hB1) fun w2 hb2=>?_;have hB2:Below w w w2:=hB1.trans (hb2.mono hB1.size);have hblk2:=(hb2.block w hlt1).trans hblk;have m5:w2.cell? ⟨w,5,none⟩=some ↑v.sel.index:=Ab hblk2 5;have m6:w2.cell? ⟨w,6,none⟩=some v1:=Ab hblk2 6;have m7:w2.cell? ⟨w,7,none⟩=some v2:=Ab hblk2 7;clear M k0 k1 k2 k3 k4 k5 k6 k7 hblk hblk2;exact FD91
  ·have q1:(v.sel.index==v.number - 1)=false:=by simpa using hi
   have hR2:Hid (false=R):=Aa (by rw [<- hR1.out,q1];rfl);clear hR1 M V hblk;go_wp2;go_ret;exact⟨by rw [<- hR2.out];rfl,hB1⟩
end
end Go.Proofs.Y
namespace CH
section
def BL:Act:=⟨0,⟨0,[],⟨[],[]⟩,0⟩,⟨[],[],0,[],.mk 0 [] 0 0 [],0,0,0⟩,⟨[],[],[],0,0,0,0⟩,⟨[],[],[],[],[],[],0,0,0,0⟩,[],0⟩
def iD (n:Int):Act:={ BL with kind:=7,id:=[104,49],n:=n }
def ni:Act:={ BL with kind:=6,holding:=⟨[104,49],[112,49],[112,48],[],[],[],60,51,0,-1⟩ }
def sS:Str:=[115]
def kV (number pos:Int) (prev:Str) (acts:List Act):Version:=⟨0,number,pos,prev,acts,⟨0,[],[]⟩⟩
def sealed (i:Nat) (v:Version) (m:Str):Version:={ v with sel:=⟨i,sig sS i m,path (keys sS 1) i⟩ }
def jP:Str:=pub sS 1
def m1:Str:=[49,53,51,102,50,53,51,99,54,48,57,98,102,50,57,97]
def m2:Str:=[48,51,57,50,98,52,53,97,52,98,98,54,50,56,51,51]
def m3:Str:=[51,56,98,97,54,56,53,102,97,98,52,55,57,57,56,102]
def m4:Str:=[97,97,56,50,51,52,51,48,99,102,51,49,98,55,54,53]
def tZ:Version:=kV 1 100 [] [iD 1]
def BI:Version:=kV 2 100 m1 [iD 2]
def oq:Version:=kV 1 100 [] [iD 3]
def ug:Version:=kV 2 99 m1 []
def jI:Version:=sealed 0 tZ m1
def qj:Version:=sealed 1 BI m2
def iC:Version:=sealed 0 oq m3
def og:Version:=sealed 1 ug m4
theorem uo {v:Version} {m:Str} (h:(match message v with|.error _=>false|.ok x=>x==m)=true):message v=.ok m:=by
 split at h;·cases h
 ·rename_i x e;rw [e,Eb.1 h]
theorem qH:message tZ=.ok m1:=uo (by decide +kernel)
theorem vV:message BI=.ok m2:=uo (by decide +kernel)
theorem oV:message oq=.ok m3:=uo (by decide +kernel)
theorem rM:message ug=.ok m4:=uo (by decide +kernel)
theorem jm (i:Nat) (v:Version) (m:Str) (h:v.sel=⟨0,[],[]⟩):message (sealed i v m)=message v:=by obtain⟨_,_,_,_,_,_⟩:=v;dsimp only at h;subst h;rfl
theorem Aaf {v:Version} (h:(match bY v with|.error _=>false|.ok _=>true)=true):∃ t,bY v=.ok t:=by
 split at h;·cases h
 ·rename_i x e;exact⟨x,e⟩
theorem kY:∃ t,bY jI=.ok t:=Aaf (by decide +kernel)
theorem oL:∃ t,bY qj=.ok t:=Aaf (by decide +kernel)
theorem kX:∃ t,bY iC=.ok t:=Aaf (by decide +kernel)
theorem nS:∃ t,bY og=.ok t:=Aaf (by decide +kernel)
end
end CH
namespace Go.Proofs.Y
section
open CH
variable {v:Q01}
theorem Zg (ky m:Q00) (h i:Nat) (hh:h<=8) (hi:i<2 ^ h):Mf (CH.pub ky h) m (i:Int) (CH.sig ky i m) (CH.path (CH.keys ky h) i)=true:=by
 have hs:=mZ ky i m;have hp:=lQ (CH.keys ky h) i;have ht:=oP (CH.keys ky h) i (jZ ky i) (xK ky h i hi);rw [CH.length_keys] at ht;unfold Mf;rw [rX,l9,oG];have q1:((CH.sig ky i m).any fun l=>!ay l)=false:=by rw [I8];intro x hx;rw [hs x hx];decide
 have q2:((CH.path (CH.keys ky h) i).any fun l=>!ay l)=false:=by rw [I8];intro x hx;rw [hp x hx];decide
 have q3:ZH ((i:Int)<2 ^ h)=true:=by rw [Bq];have:=Int.ofNat_lt.2 hi;rwa [Int.natCast_pow] at this
 rw [q1,q2,q3,Int.toNat_natCast];rw [show ZH (h<=8)=true from Am hh,show ZH ((0:Int)<=(i:Int))=true from Am oM];unfold CH.pub;rw [ht];simp
theorem Psn {key t:Q00} (ht:bY v=.ok t):dI v key=(v.sel.index==v.number - 1&&Mf key (CH.msg v) v.sel.index v.sel.sig v.sel.path):=by unfold dI;rw [ht]
theorem Su {i:Nat} {m:Q00} (hi:i<2) (hv:v.sel=⟨0,[],[]⟩) (hn:v.number=(i:Int)+1) (hm:CH.message v=.ok m) (ht:∃ t,bY (CH.sealed i v m)=.ok t):dI (CH.sealed i v m) jP=true:=by
 obtain⟨t,ht⟩:=ht;have hmm:CH.msg (CH.sealed i v m)=m:=by unfold CH.msg;rw [jm i v m hv,hm]
 have e1:(CH.sealed i v m).sel.index=(i:Int):=by simp only [CH.sealed]
 have e2:(CH.sealed i v m).number=v.number:=rfl;have e3:(CH.sealed i v m).sel.sig=CH.sig sS i m:=by simp only [CH.sealed]
 have e4:(CH.sealed i v m).sel.path=CH.path (CH.keys sS 1) i:=by simp only [CH.sealed]
 rw [Psn ht,hmm,e1,e2,e3,e4,hn];have:=Zg sS m 1 i dC hi;unfold jP;rw [this,Jd,Eb];omega
theorem Den:dI jI jP=true:=Su (i:=0) (v:=tZ) (m:=CH.m1) dC rfl rfl qH kY
theorem Nov:dI qj jP=true:=Su (i:=1) (v:=BI) (m:=CH.m2) dC rfl rfl vV oL
theorem G2b:dI iC jP=true:=Su (i:=0) (v:=oq) (m:=CH.m3) dC rfl rfl oV kX
theorem Now:dI og jP=true:=Su (i:=1) (v:=ug) (m:=CH.m4) dC rfl rfl rM nS
theorem Ya {i:Nat} {m:Q00} (hv:v.sel=⟨0,[],[]⟩) (hm:CH.message v=.ok m):CH.msg (CH.sealed i v m)=m:=by unfold CH.msg;rw [jm i v m hv,hm]
theorem CV:CH.msg jI=CH.m1:=Ya (i:=0) (v:=tZ) (m:=CH.m1) rfl qH
theorem Rec:CH.msg iC=CH.m3:=Ya (i:=0) (v:=oq) (m:=CH.m3) rfl oV
def hK:List Q00:=[jP]
def kC1:Q04:=[((0,2),qj)]
def kC2:Q04:=[((0,2),qj),((0,1),jI)]
def kD1:Q04:=[((0,1),iC)]
def kD2:Q04:=[((0,1),iC),((0,2),qj)]
def fC:Q03:=[((0,1),(jI,iC))]
def fD:Q03:=[((0,1),(iC,jI))]
def kX1:Q04:=[((0,1),jI)]
def kX2:Q04:=[((0,1),jI),((0,2),og)]
theorem W7 {known:Q04} {forks:Q03} (ha:v.authority=0) (ht:∃ t,bY v=.ok t) (hc:dI v jP=true) (hl:bH (v.authority,v.number) known=none) : dV dI hK known forks v=(0,known++[((v.authority,v.number),v)],forks):=by exact FD75
theorem Doc {known:Q04} {forks:Q03} {old:Q01} (ha:v.authority=0) (ht:∃ t,bY v=.ok t) (hc:dI v jP=true) (hl:bH (v.authority,v.number) known=some old) : dV dI hK known forks v=if (CH.bare old).getD []==(CH.bare v).getD [] then (0,known,forks) else (17,known,iL (v.authority,v.number) (old,v) forks):=by exact FD75
theorem Mab:((CH.bare jI).getD []==(CH.bare iC).getD [])=false:=by
 have h:((CH.bare tZ).getD []==(CH.bare oq).getD [])=false:=by decide +kernel
 exact h
theorem tY:((CH.bare iC).getD []==(CH.bare jI).getD [])=false:=by
 have h:((CH.bare oq).getD []==(CH.bare tZ).getD [])=false:=by decide +kernel
 exact h
theorem FZ:dV dI hK [] [] qj=(0,kC1,[]):=W7 rfl oL Nov rfl
theorem FY:dV dI hK kC1 [] jI=(0,kC2,[]):=W7 rfl kY Den rfl
theorem FX:dV dI hK kC2 [] jI=(0,kC2,[]):=by rw [Doc (old:=jI) rfl kY Den rfl,Au sM]
theorem FV:dV dI hK kC2 [] iC=(17,kC2,fC):=by rw [Doc (old:=jI) rfl kX G2b rfl,Mab];rfl
theorem FU:dV dI hK [] [] iC=(0,kD1,[]):=W7 rfl kX G2b rfl
theorem FQ:dV dI hK kD1 [] jI=(17,kD1,fD):=by rw [Doc (old:=iC) rfl kY Den rfl,tY];rfl
theorem FP:dV dI hK kD1 fD qj=(0,kD2,fD):=W7 rfl oL Nov rfl
theorem FN:dV dI hK [] [] jI=(0,kX1,[]):=W7 rfl kY Den rfl
theorem FM:dV dI hK kX1 [] og=(0,kX2,[]):=W7 rfl nS Now rfl
theorem U3 (msg:Q01->Q00) (known:Q04) (a:Int) (f:Nat) (out:List Q01) (hd:Q00) (last:Int) (h:bH (a,(out.length:Int)+1) known=none):CH.follow msg known a (f+1) out hd last=(out,hd):=by rw [CH.follow,h]
theorem Yn (msg:Q01->Q00) (known:Q04) (a:Int) (f:Nat) (out:List Q01) (hd:Q00) (last:Int) (v:Q01) (h:bH (a,(out.length:Int)+1) known=some v) (hc:(v.prev != hd||ZH (v.pos<last))=true):CH.follow msg known a (f+1) out hd last=(out,hd):=by rw [CH.follow,h];dsimp only;rw [Au hc]
theorem W6 (msg:Q01->Q00) (known:Q04) (a:Int) (f:Nat) (out:List Q01) (hd:Q00) (last:Int) (v:Q01) (h:bH (a,(out.length:Int)+1) known=some v) (hc:(v.prev != hd||ZH (v.pos<last))=false):CH.follow msg known a (f+1) out hd last=CH.follow msg known a f (out++[v]) (msg v) v.pos:=by rw [CH.follow,h];dsimp only;rw [Ai (by rw [hc];decide)]
theorem FD:(fol CH.msg kC1 0).1.length=0:=by unfold fol;rw [U3 _ _ _ 200 _ _ _ rfl];rfl
theorem FC:(fol CH.msg kC2 0).1.length=2:=by unfold fol;rw [W6 _ _ _ 200 _ _ _ jI rfl rfl,W6 _ _ _ 199 _ _ _ qj rfl (by rw [CV];decide +kernel),U3 _ _ _ 198 _ _ _ rfl];rfl
theorem FB:(fol CH.msg kD2 0).1.length=1:=by unfold fol;rw [W6 _ _ _ 200 _ _ _ iC rfl rfl,Yn _ _ _ 199 _ _ _ qj rfl (by rw [Rec];decide +kernel)];rfl
theorem EZ:(fol CH.msg kX2 0).1.length=1:=by unfold fol;rw [W6 _ _ _ 200 _ _ _ jI rfl rfl,Yn _ _ _ 199 _ _ _ og rfl (by rw [CV];decide +kernel)];rfl
theorem M3a:aP ni=some ([104,111,108,100,105,110,103,32,104,49,32,112,49,32,112,48,32,45,32,45,32,54,48,32,53,49,32,48,32,45,59]:Q00):=by
 have h:(match aP ni with|none=>false|some t=>t==([104,111,108,100,105,110,103,32,104,49,32,112,49,32,112,48,32,45,32,45,32,54,48,32,53,49,32,48,32,45,59]:Q00))=true:=by decide +kernel
 split at h;·cases h
 ·rename_i t e;rw [e,Eb.1 h]
end
section
open Go.Lib Go.Proofs.Tryz Go.RowKit Go.Shelf Go.Sort CH
attribute [local irreducible] wpQuiet
variable {w:ZB} {ops:Array Oper} {rest:List Oper} {Q:Exit->Act->ZB->Prop}
def yU (x:Nat):Nat:=CH.mix3 (CH.mix2 ((x*2862933555777941757) % 18446744073709551616))
theorem Gcd (s n:Nat):yU (s ^^^ n)=CH.mix s n:=rfl
theorem Hvr (x:Nat) (w:ZB) (hx:x<18446744073709551616) : ZE prog 137 #[.int .u64 x] w (Ret w (.int .u64 (yU x))):=by
 go_enter func137,ntmps137;go_wp2;go_ret;have hm:=Gb9 x 0 hx dC;have e:=bits_xor_u64_nat x 0 hx dC;rw [Nat.xor_zero] at e;rw [e] at hm;refine⟨?_,Ac _ _⟩;have h0:yU x=CH.mix x 0:=by have:=Gcd x 0;rwa [Nat.xor_zero] at this
 rw [h0,<- hm];rfl
def bK:Nat->Q00->Nat
 |0,_=>0
 |k+1,l=>bK k l*256+(l.getD k 0).toNat
theorem Off (l:Q00):bK 8 l=be8 l:=by simp [bK,be8]
theorem yN (k:Nat) (l:Q00) (h:k<=7):bK k l<72057594037927936:=by
 have:bK k l<256 ^ k:=by
  clear h;induction k with
  |zero=>simp [bK]
  |succ k ih=>have:=u8_lt (l.getD k 0);rw [bK,Jb];omega
 exact Ae this (Af (Kr dC h) dC)
theorem Ptw (k c:Nat) (l:Q00) (h:k<=7) (hc:(l.getD k 0).toNat=c):IntKind.u64.wrap (IntKind.u64.wrap ((bK k l:Nat)*256:Int)+IntKind.u64.wrap (c:Int))=((bK (k+1) l:Nat):Int):=by have h1:=yN k l h;have h2:=u8_lt (l.getD k 0);simp only [Iw,bK];omega
theorem Pt8 (k:Nat) (l:Q00) (h:k<=7) (hc:(l.getD k 0).toNat=0):IntKind.u64.wrap ((bK k l:Nat)*256:Int)=((bK (k+1) l:Nat):Int):=by have h1:=yN k l h;simp only [Iw,bK];omega
theorem I26 (q:Nat) (h:q<16):((ByteArray.mk #[48,49,50,51,52,53,54,55,56,57,97,98,99,100,101,102]).extract q (q+1))=⟨#[CH.hexDigit q]⟩:=by rcases q with _|_|_|_|_|_|_|_|_|_|_|_|_|_|_|_|q;all_goals first|rfl|omega
theorem R8 (l:Q00) (w:ZB) (hlen:l.length<=140737488355328) : ZE prog 75 #[↑l] w (Ret w (.string ⟨(CH.sum l).toArray⟩)):=by
 have hx:bits BinOp.xor IntKind.u64 2611923443488327891 (l.length:Int)=((2611923443488327891 ^^^ l.length:Nat):Int):=by exact bits_xor_u64_nat 2611923443488327891 _ dC oM
 have hs:2611923443488327891 ^^^ l.length<18446744073709551616:=mM dC oM;have HF:Hid (gy 16 (fP (l.length / 8+1) (2611923443488327891 ^^^ l.length) l)=CH.sum l):=Aa rfl;generalize 2611923443488327891 ^^^ l.length=s at hx hs HF;go_enter func75,ntmps75;go_wp2;clear hx;go_loopw [3,4] (fun st i wr=>∃ k a:Nat,Hid (a=8*k)/\i=↑a/\a<=l.length+8/\st=.int .u64 (fP k s l:Nat)/\Below w w wr) (fun _ i _=>l.length+8 - (ZG i).toNat);case atStart=>exact⟨0,0,Aa rfl,rfl,oM,rfl,Ac _ _⟩
 case round =>
  obtain⟨k,a,hak,rfl,hk,rfl,hb⟩:=hrel;by_cases hlt:a<=l.length
  ·have ha:=lF k s l hs;have hb8:=xg (l.drop a);have hn:=jX k s l;rw [<- hak.out] at hn;have hxl:=mM ha hb8;rw [<- Gcd] at hn;rw [<- Off] at hn hxl hb8;replace hn:=Aa hn;have hy:=ha;clear ha;generalize fP k s l=y at *;go_wp2;go_loopw [5,6] (fun bv jv wq=>∃ j m:Nat,j<=8/\(a+j<=m/\m<=a+j)/\jv=↑m/\bv=.int .u64 (bK j (l.drop a):Nat)/\wq=wr) (fun _ jv _=>a+8 - (ZG jv).toNat);case atStart=>exact⟨0,a,oM,oM,rfl,rfl,rfl⟩
   case round =>
    obtain⟨j,m,hj,⟨hm,hm'⟩,rfl,rfl,rfl⟩:=hrel;by_cases hj8:j<8
    ·have hst:=Ptw j (l.getD m 0).toNat (l.drop a) oM (by rw [show m=a+j from by omega];simp);have hso:=Pt8 j (l.drop a) oM;by_cases hin:m<l.length
     ·obtain⟨c,hc⟩:∃ c,l[m]?=some c:=⟨_,Ad hin⟩
      have hgk:=Hj l m hin c hc;have e:l.getD m 0=c:=by simp [hc]
      rw [e] at hst;clear hc e hso hb8 hxl;exact FD139
     ·have hst:=hso (by rw [List.getD_eq_getElem?_getD,Gu,F8 oM];rfl);clear hso hb8 hxl;exact FD139
    ·obtain rfl:j=8:=oM;have hma:a+8<=m:=oM;clear hj8 hj;have hxx:=bits_xor_u64_nat y (bK 8 (l.drop a)) hy hb8;generalize bK 8 (l.drop a)=z at *;generalize y ^^^ z=x at *;go_wp2_with fail;refine CmZ (Hvr x wr hxl) fun w1 hb1=>?_;have hb2:=hb.trans (hb1.mono hb.size);go_wp2;go_roundw;case rel=>exact⟨k+1,a+8,Aa (by have:=hak.out;omega),by go_num,oM,by rw [hn.out],hb2⟩
     case measure=>simp [ZG];omega
  ·have e:l.length / 8+1=k:=by have:=hak.out;omega
   rw [e] at HF;have ha:=lF k s l hs;generalize fP k s l=n at *;clear e hs;go_wp2;clear hlt hk hak;go_loopw [3,7,8] (fun st tv iv wq=>∃ j x:Nat,j<=16/\iv=↑j/\st=.int .u64 x/\x=n / 16 ^ j/\tv=.string ⟨(gy j n).toArray⟩/\wq=wr) (fun _ _ iv _=>16 - (ZG iv).toNat);case atStart=>exact⟨0,n,oM,rfl,rfl,sM,rfl,rfl⟩
   case round =>
    obtain⟨j,x,hj,rfl,rfl,hx,rfl,rfl⟩:=hrel;by_cases hlt:j<16
    ·have hk:=nY j n;rw [<- hx] at hk;have hd:x / 16=n / 16 ^ (j+1):=by rw [hx,Nat.div_div_eq_div_mul,Jb]
     have hm:x<18446744073709551616:=by rw [hx];exact J4 (Nat.div_le_self _ _) ha
     have hdg:=I26 (x % 16) (J3 _ dC);have hll:=jA j n;replace hk:=Aa hk;replace hd:=Aa hd;generalize gy j n=t at *;have hx16:x % 16<16:=J3 _ dC;clear hx;go_wp2_with fail;go_roundw;case rel=>exact⟨j+1,x / 16,oM,by go_num,by go_num,hd.out,by rw [hk.out,ByteArray.mk_append_mk];rfl,by trivial⟩
     case measure=>simp [ZG];omega
    ·obtain rfl:j=16:=oM;rw [HF.out];clear HF hx;generalize CH.sum l=R at *;exact FD130
theorem Cli (l:Q00) (n:Nat) (w:ZB) (hn:n<=1000) (hl:l.length<=1000000) : ZE prog 128 #[↑l,↑n] w (Ret w (.string ⟨(CH.chain n l).toArray⟩)):=by
 go_enter func128,ntmps128;go_wp2_with fail;go_loopw [0,5] (fun s i wr=>∃ (k:Nat) (t:Q00),k<=n/\i=↑k/\s=↑t/\t.length<=1000000/\Hid (t=CH.chain k l)/\Below w w wr) (fun _ i _=>n - (ZG i).toNat);case atStart=>exact⟨0,l,Az _,rfl,rfl,hl,rfl,Ac _ _⟩
 case round =>
  obtain⟨k,t,hk,rfl,rfl,ht,hH,hb⟩:=hrel;by_cases hlt:k<n;·go_wp2_with fail;refine (R8 t _ oM).mono ?_;exact FD68
  ·have e:k=n:=oM;have HF:Hid (t=CH.chain n l):=by rw [<- e];exact hH
   clear e hH;go_wp2;go_ret;exact⟨by rw [<- HF.out];rfl,hb⟩
theorem Y4:(prog.info? 5).map (fun i=>(i.zero,i.size,i.bytes))=some (some (.int .u8 0),1,1):=kR
def Zd (base:Nat) (w:ZB) (v:ZC) (l:Q00):Prop:=w.ownsRow base 5 1 v l.length (ZL l)
theorem Va {w0:ZB} {o:Oper} {a:Act} (hgd:o.guard=none) (s x:Operand) (ho:o.op=.call { callee:=.builtin .append,args:=#[s,x],argTypes:=#[125,9] }) (base:Nat) (v:ZC) (l m:Q00) (hs:a.eval s=v) (hown:Zd base w v l) (hx:a.eval x=↑m) (hb:Below base w0 w) (hbase:base<=w.heap.size) (hlen:l.length+m.length<=140737488355328) (h:∀ v' w',Zd base w' v' (l++m)->Below base w0 w'->base<=w'.heap.size->wpList prog ops Q rest (a.put o.dst v') w') : wpList prog ops Q (o::rest) a w:=by
 obtain⟨i,hi,hz0,hz1,hz2⟩:=H8 Y4;refine Lib.wpList_append_own_string w hgd s x 125 9 ho base 5 i underlying125 underlying9 hi hz0 hz1 hz2 v l.length _ hs hown ⟨m.toArray⟩ hx (by unfold maxLen;simp [ByteArray.size];omega) (by simp [ByteArray.size];omega) hbase ?_;intro v' w' h1 h2 _;refine h v' w' ?_ (hb.grown h2 hbase (fun j hj=>(Dw hown j hj).1)) (Af hbase h2.size);unfold Zd;have e:ZL (l++m)=ZL l++Lib.strCells ⟨m.toArray⟩:=by simp [ZL,Lib.strCells]
 rw [e];simpa [ByteArray.size] using h1
theorem I31 {w0:ZB} {o:Oper} {a:Act} (hgd:o.guard=none) (s x:Operand) (ho:o.op=.call { callee:=.builtin .append,args:=#[s,x],argTypes:=#[125,125] }) (base:Nat) (v:ZC) (l:Q00) (c:UInt8) (g cp:Nat) (hs:a.eval s=v) (hown:Zd base w v l) (hx:a.eval x=.slice (some ⟨g,0,none⟩) 1 cp) (hcell:w.cell? ⟨g,0,none⟩=some (.int .u8 (c.toNat:Int))) (hb:Below base w0 w) (hbase:base<=w.heap.size) (hlen:l.length<=1099511627776) (h:∀ v' w',Zd base w' v' (l++[c])->Below base w0 w'->base<=w'.heap.size->wpList prog ops Q rest (a.put o.dst v') w') : wpList prog ops Q (o::rest) a w:=by
 obtain⟨i,hi,hz0,hz1,hz2⟩:=H8 Y4;refine wpList_append_own_at w hgd s x 125 ho base 5 i _ 1 1 underlying125 hi hz0 hz1 hz2 rfl dC v l.length _ hs hown ⟨g,0,none⟩ 1 cp [.int .u8 (c.toNat:Int)] hx rfl ?_ ?_ ?_ ?_ hbase ?_;·exact FD46
 ·exact FD167
 ·exact FD145
 ·omega
 ·intro v' w' h1 h2 _ _;refine h v' w' ?_ (hb.grown h2 hbase (fun j hj=>(Dw hown j hj).1)) (Af hbase h2.size);unfold Zd;have e:ZL (l++[c])=ZL l++[.int .u8 (c.toNat:Int)]:=by simp [ZL]
  rw [e];simpa using h1
theorem Zd.text {base:Nat} {v:ZC} {l:Q00} (h:Zd base w v l) (hl:l≠[]):∃ g cap,v=.slice (some ⟨g,0,none⟩) l.length cap/\(convert 125 9 (.slice (some ⟨g,0,none⟩) l.length cap)).run prog w=.ok ↑l w:=by
 have h0:=h;obtain⟨hlen,⟨rfl,e⟩|⟨g,cap,cur,rfl,rest⟩⟩:=h;·exact absurd (Bo.1 e) hl
 ·refine⟨g,cap,rfl,run_convert_bytes_back w _ _ 5 ⟨g,0,none⟩ cap l underlying125 underlying5 underlying9 fun j hj=>?_⟩;rw [show (⟨g,0,none⟩:Addr).add j=⟨g,j,none⟩ from by cases j <;> simp [Addr.add],Fq h0 j (by simpa using hj)];simp [ZL,hj]
theorem Pnu (f:Int->Q00) {ls:List Q00} (h:ls≠[]):CH.pack f ls≠[]:=by
 cases ls with
 |nil=>exact absurd rfl h
 |cons x r=>intro e;have:=congrArg List.length e;simp [CH.pack] at this
theorem Z8 (v:ZC) (ls:List Q00) (w:ZB) (hv:Strs w w v ls) (hn0:ls≠[]) (hn:ls.length<=1000) (hl:∀ l∈ls,l.length<=1000000) : ZE prog 202 #[v] w (Ret w (.string ⟨(CH.pack ZK ls).toArray⟩)):=by
 have hpl:=O2 ls 1000000 hl dC;have hpm:ls.length*(1000000+22)<=1000*1000022:=Dh _ hn;have hpn:=Pnu ZK hn0;obtain⟨a,cap,rfl,hlc,hcap,hne⟩:=hv;obtain⟨b,off,rfl,hbl,kj⟩:=hne hn0;have HL:=Aa hl;have HC:=Aa kj;obtain⟨i0,hi,hz0,hz1,hz2⟩:=H8 Y4;clear hne kj hl hn0;go_enter func202,ntmps202;go_wp2_with fail;go_loopw [3,4] (fun nv iv wr=>∃ k m:Nat,k<=ls.length/\iv=↑k/\nv=↑m/\m<=k*1000021/\w=wr) (fun _ iv _=>ls.length - (ZG iv).toNat);case atStart=>exact⟨0,0,Az _,rfl,rfl,oM,rfl⟩
 case round =>
  obtain⟨k,m,hk,rfl,rfl,hm,rfl⟩:=hrel;by_cases hlt:k<ls.length
  ·obtain⟨l,hl'⟩:∃ l,ls[k]?=some l:=⟨_,Ad hlt⟩
   have hcell:=HC.out k l hl';have hll:=HL.out l (Ap hl');clear hl';go_wp2;go_roundw;case rel=>exact⟨k+1,m+l.length+21,oM,by go_num,by go_num,oM,by trivial⟩
   case measure=>simp [ZG];omega
  ·have e:k=ls.length:=oM;clear hlt;go_wp2_with (at_make;refine wpList_make_own _ rfl _ _ 125 rfl w 5 i0 _ 1 underlying125 hi hz0 hz1 .i64 .i64 _ m rfl rfl rfl ?b2 ?b3 nR ?_)
   case b2=>rw [hz2];omega
   case b3=>unfold maxLen;omega
   intro w1 hown hg1;have hO1:Zd w w1 (.slice (some ⟨w,0,none⟩) 0 m) []:=hown;have hb1:Below w w w1:=(Ac _ w).grown hg1 nR (fun k e=>by cases e);have hs1:=hg1.size;clear hown hg1 hi hz0 hz1 hz2 e hm hk;go_wp2_with fail;go_loopw [5,6] (fun ov iv wq=>∃ k:Nat,k<=ls.length/\iv=↑k/\Zd w wq ov (CH.pack ZK (ls.take k))/\Below w w wq/\w.heap.size<=wq.heap.size) (fun _ iv _=>ls.length - (ZG iv).toNat);case atStart=>exact⟨0,Az _,rfl,by simpa [CH.pack] using hO1,hb1,hs1⟩
   case round =>
    obtain⟨k,hk,rfl,hO,hb,hs⟩:=hrel;by_cases hlt:k<ls.length
    ·obtain⟨l,hl'⟩:∃ l,ls[k]?=some l:=⟨_,Ad hlt⟩
     have hc0:=HC.out k l hl';have hll:=HL.out l (Ap hl');have hcell:∀ W,Below w w W->W.cell? ⟨b,off+k,none⟩=some ↑l:=fun W hW=>(hW.cell (p:=⟨b,off+k,none⟩) hbl).trans hc0;have hcq:=hcell _ hb;have hts:=aI ls k l hl';have hle:=mQ ZK ls (k+1);rw [hts,lC] at hle;have HP:Hid (CH.pack ZK (ls.take (k+1))=CH.pack ZK (ls.take k)++ZK l.length++[58]++l):=Aa (by rw [hts,lC];simp);simp only [Ah,Di] at hle;have HCE:=Aa hcell;clear hts hl' hc0 hcell;generalize CH.pack ZK (ls.take k)=Pk at HP hle hO;go_wp2_with fail;refine CmZ (De _ _ oM oM) fun w2 hb2=>?_;have hO2:Zd w w2 _ Pk:=Cu hO hb2;have hbB:=hb.trans (hb2.mono hs);have hs2:=Af hs hb2.size;clear hO hb hb2 hs hcq;go_wp2_with (at_builtin;refine Va rfl _ _ rfl w _ Pk (ZK l.length) rfl hO2 rfl hbB hs2 oM ?_)
     intro v3 w3 hO3 hb3 hs3;have hl2:(Pk++ZK l.length).length=Pk.length+(ZK l.length).length:=Ah;clear hO2 hbB hs2;generalize Pk++ZK l.length=P2 at *;have hO4:=Ik hO3 (.cells #[.int .u8 58] 5);have hb4:=hb3.alloc hs3 (.cells #[.int .u8 58] 5);go_wp2_with (at_builtin;refine I31 rfl _ _ rfl w _ P2 58 w3.heap.size 1 rfl hO4 rfl (by rw [Cj _ _ _ _ rfl];rfl) hb4 (by simp;omega) oM ?_)
     intro v5 w5 hO5 hb5 hs5;have hl3:(P2++[58]).length=P2.length+1:=Ah;clear hO3 hO4 hb3 hb4 hs3;generalize P2++[58]=P3 at *;have hcq:=HCE.out _ hb5;go_wp2_with (at_builtin;refine Va rfl _ _ rfl w _ P3 l rfl hO5 rfl hb5 hs5 oM ?_)
     intro v6 w6 hO6 hb6 hs6;rw [<- HP.out] at hO6;clear hO5 hb5 hs5 hcq;go_wp2;go_roundw;case rel=>exact⟨k+1,oM,by go_num,hO6,hb6,hs6⟩
     case measure=>simp [ZG];omega
    ·have e:ls.take k=ls:=Bz oM;rw [e] at hO;obtain⟨g,cp,rfl,hcv⟩:=hO.text hpn;clear e hO;generalize CH.pack ZK ls=P at *;exact FD130
theorem Uu (v:ZC) (ls:List Q00) (w:ZB) (hv:Strs w w v ls) (hn0:ls≠[]) (hn:ls.length<=1000) (hl:∀ l∈ls,l.length<=1000000) : ZE prog 130 #[v] w (Ret w (.string ⟨(CH.dl ls).toArray⟩)):=by have hpl:=O2 ls 1000000 hl dC;have hpm:ls.length*(1000000+22)<=1000*1000022:=Dh _ hn;have HC:=Aa (Z8 v ls w hv hn0 hn hl);have HF:Hid (CH.sum (CH.pack ZK ls)=CH.dl ls):=Aa rfl;clear hv hn0 hl;generalize CH.pack ZK ls=P at *;go_enter func130,ntmps130;go_wp2_with fail;refine CmZ HC.out fun w1 hb=>?_;go_wp2_with fail;refine CmZ (R8 P w1 oM) fun w2 hb2=>?_;go_wp2;go_ret;exact⟨by rw [<- HF.out];rfl,hb.trans (hb2.mono hb.size)⟩
theorem Xn (cs:List Q00) (w:ZB) (h0:cs≠[]) (h1:cs.length<=100) (h2:∀ l∈cs,l.length<=1000000) : ZE prog 130 #[.slice (some ⟨w,0,none⟩) cs.length cs.length] (w.alloc (.cells (cs.map fun l=>Value.string ⟨l.toArray⟩).toArray 9)) (Ret w (.string ⟨(CH.dl cs).toArray⟩)):=by refine CmZ (Uu _ cs _ (by rw [Dt];exact Ra w cs 9 oM) h0 oM h2) fun w' hb1=>?_;exact FD137
theorem E3a (s:Q00) (w:ZB) (hs:s.length<=1000000) : ZE prog 201 #[↑s] w (Ret w (.string ⟨(CH.dl [iV,s]).toArray⟩)):=by go_enter func201,ntmps201;go_wp2_with fail;refine CmZ (Xn [iV,s] w sM sM (by intro l hl;simp at hl;rcases hl with rfl|rfl;decide;exact hs)) fun w' hb1=>?_;exact FD39
theorem Ut (a b:Q00) (w:ZB) (ha:a.length<=1000000) (hb:b.length<=1000000) : ZE prog 260 #[↑a,↑b] w (Ret w (.string ⟨(CH.node a b).toArray⟩)):=by go_enter func260,ntmps260;go_wp2_with fail;refine CmZ (Xn [rG,a,b] w sM sM (by intro l hl;simp at hl;rcases hl with rfl|rfl|rfl;decide;exact ha;exact hb)) fun w' hb1=>?_;exact FD39
theorem Uw (n:Nat) (w:ZB) (hn:n<=2305843009213693952):ZE prog 259 #[↑n] w fun e w'=>e=.returned (.int .i64 (CH.half n))/\w=w':=by go_enter func259,ntmps259;exact FD21
theorem J0 {l:Q00} (h:ay l=true):l.length=16:=by unfold ay at h;rw [Ba,Eb] at h;exact h.1
theorem Uc (v:ZC) (ls:List Q00) (w:ZB) (hv:Strs w w v ls) (hl:∀ l∈ls,ay l=true) : ZE prog 199 #[v] w (Ret w (.bool true)):=by
 obtain⟨a,cap,rfl,hlc,hcap,hne⟩:=hv;have HL:=Aa hl;clear hl;go_enter func199,ntmps199;go_wp2_with fail;go_loopw [3] (fun iv wr=>∃ k:Nat,k<=ls.length/\iv=↑k/\Below w w wr) (fun iv _=>ls.length - (ZG iv).toNat);case atStart=>exact⟨0,Az _,rfl,Ac _ _⟩
 case round =>
  obtain⟨k,hk,rfl,hb⟩:=hrel;by_cases hlt:k<ls.length
  ·obtain⟨b,off,rfl,hbl,kj⟩:=hne (by intro h;simp [h] at hlt);obtain⟨l,hl'⟩:∃ l,ls[k]?=some l:=⟨_,Ad hlt⟩
   have hcell:wr.cell? ⟨b,off+k,none⟩=some ↑l:=(hb.cell (p:=⟨b,off+k,none⟩) hbl).trans (kj k l hl');have hd:=HL.out l (Ap hl');have D:=Mm l wr (by have:=J0 hd;omega);rw [hd] at D;replace D:=Aa D;clear kj hl' hd;go_wp2_with fail;refine CmZ D.out fun w1 hb1=>?_;have hb2:=hb.trans (hb1.mono hb.size);go_wp2;go_roundw;case rel=>exact⟨k+1,oM,by go_num,hb2⟩
   case measure=>simp [ZG];omega
  ·exact FD130
def upR:Nat->Nat->Q00->List Q00->Q00
 |0,_,d,_=>d
 |h+1,i,d,p=>if i<2 ^ h then CH.node (upR h i d p.dropLast) (p.getLastD []) else CH.node (p.getLastD []) (upR h (i - 2 ^ h) d p.dropLast)
theorem I05 (h:Nat):∀ (i:Nat) (d:Q00) (p:List Q00),d.length=16->(upR h i d p).length=16:=by
 cases h with
 |zero=>intro i d p hd;exact hd
 |succ h=>intro i d p hd;unfold upR;split <;> exact jy _ _
theorem Ch2 (h:Nat):∀ (i:Nat) (w:ZB),h<=8->i<2 ^ h->ZE prog 198 #[.int .i64 ((2 ^ h:Nat):Int),↑i] w fun e w'=>e=.returned ↑h/\w=w':=by
 induction h with
 |zero =>intro i w _ _;go_enter func198,ntmps198;exact FD35
 |succ h ih =>
  intro i w hh hi;have hp:=Dd h oM;have hp2:=Dd (h+1) hh;have hs:2 ^ (h+1)<=2*2 ^ h/\2*2 ^ h<=2 ^ (h+1):=by rw [Nat.pow_succ'];omega
  have HH:=Aa (Uw (2 ^ (h+1)) w oM);rw [nK] at HH;have e1:(((2 ^ (h+1):Nat):Int)==1)=false:=by simp;omega
  by_cases hlt:i<2 ^ h;·have IH:=Aa (ih i w oM hlt);clear ih;generalize 2 ^ (h+1)=n at *;generalize 2 ^ h=k at *;exact FD73
  ·have IH:=Aa (ih (i - 2 ^ h) w oM oM);clear ih;generalize 2 ^ (h+1)=n at *;generalize 2 ^ h=k at *;have e2:(n:Int) - (k:Int)=(k:Int):=oM;have e3:(i:Int) - (k:Int)=((i - k:Nat):Int):=oM;exact FD73
theorem Pck (h:Nat):∀ (f i:Nat) (leaf:Q00) (p:List Q00) (b:Bool),2 ^ h<=f->p.length=h->(∀ l∈p,l.length=16) -> upF leaf f (2 ^ h) i (p,b)=(upR h i (CH.dl [iV,leaf]) p,([],b)):=by
 induction h with
 |zero =>
  intro f i leaf p b hf hp _;obtain rfl:=Bo.1 hp;obtain⟨f,rfl⟩:∃ g,f=g+1:=⟨f - 1,oM⟩
  rfl
 |succ h ih =>
  intro f i leaf p b hf hp hl;have hpos:1<=2 ^ h:=Nat.one_le_two_pow;have hs:2 ^ (h+1)=2 ^ h+2 ^ h:=by rw [Jb];omega
  obtain⟨f,rfl⟩:∃ g,f=g+1:=⟨f - 1,oM⟩
  obtain⟨q,d,rfl⟩:∃ q d,p=q++[d]:=⟨p.dropLast,p.getLast (by rintro rfl;simp at hp),(List.dropLast_concat_getLast _).symm⟩
  have hd:=hl d sM;have hq:q.length=h:=by simpa using hp
  have hql:∀ l∈q,l.length=16:=fun l hm=>hl l (by simp [hm]);have e2:2 ^ (h+1) - 2 ^ h=2 ^ h:=oM;rw [upF,Ai oM,l7 _ _ _ hd,nK,upR,List.dropLast_concat,e2];have eg:(q++[d]).getLastD []=d:=sM;rw [eg];dsimp only;rw [ih f i leaf q b oM hq hql,ih f (i - 2 ^ h) leaf q b oM hq hql];split <;> rfl
theorem Kna (h:Nat):∀ (v:ZC) (p:List Q00) (i:Nat) (d:Q00) (w:ZB),h<=8->i<2 ^ h->d.length=16->Strs w w v p->p.length=h->(∀ l∈p,l.length=16) -> ZE prog 200 #[.int .i64 ((2 ^ h:Nat):Int),↑i,↑d,v] w (Ret w (.string ⟨(upR h i d p).toArray⟩)):=by
 induction h with
 |zero =>intro v p i d w _ _ hd hv hp _;obtain⟨a,cap,rfl,_⟩:=hv;go_enter func200,ntmps200;exact FD30
 |succ h ih =>
  intro v p i d w hh hi hd hv hpl hl;have hp:=Dd h oM;have hp2:=Dd (h+1) hh;have hs:2 ^ (h+1)<=2*2 ^ h/\2*2 ^ h<=2 ^ (h+1):=by rw [Nat.pow_succ'];omega
  have HH:=Aa (Uw (2 ^ (h+1)) w oM);rw [nK] at HH;have e1:(((2 ^ (h+1):Nat):Int)==1)=false:=by simp;omega
  have hv0:=hv;obtain⟨a,cap,rfl,hlc,hcap,hne⟩:=hv;obtain⟨b,off,rfl,hb,hc⟩:=hne (by rintro rfl;simp at hpl);have hgl:p[h]?=some (p.getLastD []):=by rw [List.getLastD_eq_getLast?,List.getLast?_eq_getElem?,hpl];have:p[h]?=some p[h]:=Ad oM;simp [this]
  have hcell:=hc h _ hgl;have NV:=hl _ (Ap hgl);have hdl:p.take h=p.dropLast:=by rw [List.dropLast_eq_take,hpl];rfl
  have HS:=Aa (hv0.take h oM);rw [hdl] at HS;have hdm:∀ l∈p.dropLast,l.length=16:=fun l hm=>hl l ((List.dropLast_sublist p).subset hm);have hln:p.dropLast.length=h:=by simp;omega
  have hul:=I05 h;unfold upR;clear hne hc hgl hdl;rw [hpl] at hlc hv0 ⊢;generalize p.getLastD []=la at *;generalize p.dropLast=q at *;by_cases hlt:i<2 ^ h;·have IH:=Aa (ih _ q i d w oM hlt hd HS.out hln hdm);have hu:=hul i d q hd;rw [Au hlt];clear ih HS hv0;generalize 2 ^ (h+1)=n at *;generalize 2 ^ h=k at *;generalize upR h i d q=u at *;go_enter func200,ntmps200;go_wp2_with fail;refine HH.out.mono ?_;rintro e w' ⟨rfl,rfl⟩;go_wp2_with fail;refine CmZ IH.out fun w1 hb1=>?_;go_wp2_with fail;refine CmZ (Ut u la w1 oM oM) fun w2 hb2=>?_;exact FD92
  ·have IH:=Aa (ih _ q (i - 2 ^ h) d w oM oM hd HS.out hln hdm);have hu:=hul (i - 2 ^ h) d q hd;rw [Ai hlt];clear ih HS hv0;generalize 2 ^ (h+1)=n at *;generalize 2 ^ h=k at *;generalize upR h (i - k) d q=u at *;have e2:(n:Int) - (k:Int)=(k:Int):=oM;have e3:(i:Int) - (k:Int)=((i - k:Nat):Int):=oM;go_enter func200,ntmps200;go_wp2_with fail;refine HH.out.mono ?_;rintro e w' ⟨rfl,rfl⟩;go_wp2_with fail;refine CmZ IH.out fun w1 hb1=>?_;go_wp2_with fail;refine CmZ (Ut la u w1 oM oM) fun w2 hb2=>?_;exact FD92
theorem Zi (root leaf:Q00) (h i:Nat) (p:List Q00) (hp:p.length=h) (hl:∀ l∈p,ay l=true):dF root (2 ^ h) i leaf p=(upR h i (CH.dl [iV,leaf]) p==root):=by have h1:p.all ay=true:=Df.2 hl;unfold dF;rw [Pck h _ i leaf p false nR hp (fun l hm=>J0 (hl l hm)),h1];simp
theorem Xu (root leaf:Q00) (h i:Nat) (v:ZC) (p:List Q00) (w:ZB) (hh:h<=8) (hi:i<2 ^ h) (hlf:leaf.length<=1000000) (hv:Strs w w v p) (hp:p.length=h) (hl:∀ l∈p,ay l=true) : ZE prog 129 #[↑root,.int .i64 ((2 ^ h:Nat):Int),↑i,↑leaf,v] w (Ret w (.bool (dF root (2 ^ h) i leaf p))):=by rw [Zi root leaf h i p hp hl];have hp2:=Dd h hh;have LN:=Aa (Ch2 h i w hh hi);have DG:=Aa (Uc v p w hv hl);have LF:=Aa fun (W:ZB)=>E3a leaf W hlf;have UP:=Aa fun (W:ZB) (hb:Below w w W)=>Kna h v p i (CH.dl [iV,leaf]) W hh hi (gZ _) ((hv.below hb nR).mono hb.size) hp (fun l hm=>J0 (hl l hm));obtain⟨a,cap,rfl,hlc,_⟩:=hv;rw [hp] at *;have q1:ZH ((1000000:Int)<((2 ^ h:Nat):Int))=false:=Ak oM;have q2:ZH ((i:Int)<0)=false:=sM;have q3:ZH (2 ^ h<=i)=false:=Ak oM;have q4:((h:Int) != (h:Int))=false:=sM;clear hl;generalize 2 ^ h=n at *;generalize upR h i (CH.dl [iV,leaf]) p=u at *;generalize CH.dl [iV,leaf]=d at *;have eb:((⟨u.toArray⟩:ByteArray)==⟨root.toArray⟩)=(u==root):=Cr _ _;go_enter func129,ntmps129;go_wp2_with fail;refine LN.out.mono ?_;rintro e w' ⟨rfl,rfl⟩;go_wp2_with fail;refine CmZ DG.out fun w1 hb1=>?_;go_wp2_with fail;refine CmZ (LF.out w1) fun w2 hb2=>?_;have hB2:=hb1.trans (hb2.mono hb1.size);go_wp2_with fail;refine CmZ (UP.out w2 hB2) fun w3 hb3=>?_;have hB3:=hB2.trans (hb3.mono hB2.size);go_wp2;go_ret;exact⟨rfl,hB3⟩
abbrev xI (n:Nat):ZC:=.int .i64 (n:Int)
def sJ (base:Nat) (w:ZB) (v:ZC) (l:List Nat):Prop:=w.ownsRow base 3 1 v l.length (l.map xI)
theorem Vb {w0:ZB} {o:Oper} {a:Act} (hgd:o.guard=none) (s x:Operand) (ho:o.op=.call { callee:=.builtin .append,args:=#[s,x],argTypes:=#[40,40] }) (base:Nat) (v:ZC) (l m:List Nat) (g:Nat) (hs:a.eval s=v) (hown:sJ base w v l) (hx:a.eval x=.slice (some ⟨g,0,none⟩) m.length m.length) (hcell:w.heap[g]?=some (.cells (m.map xI).toArray 3 (0,0))) (hb:Below base w0 w) (hbase:base<=w.heap.size) (hlen:l.length<=1000) (hm:m.length<=1000) (h:∀ v' w',sJ base w' v' (l++m)->Below base w0 w'->base<=w'.heap.size->wpList prog ops Q rest (a.put o.dst v') w') : wpList prog ops Q (o::rest) a w:=by
 obtain⟨i,hi,hz0,hz1,hz2⟩:=H8 C10;refine wpList_append_own_at w hgd s x 40 ho base 3 i _ 1 8 underlying40 hi hz0 hz1 hz2 rfl dC v l.length _ hs hown ⟨g,0,none⟩ m.length m.length (m.map xI) hx sM ?_ ?_ ?_ ?_ hbase ?_;·intro j u hj;rw [show (⟨g,0,none⟩:Addr).add j=⟨g,j,none⟩ from by cases j <;> simp [Addr.add],Ab hcell j];simpa using hj
 ·intro u hu;obtain⟨n,_,rfl⟩:=Dz.1 hu;rfl
 ·exact FD145
 ·omega
 ·intro v' w' h1 h2 _ _;refine h v' w' ?_ (hb.grown h2 hbase (fun j hj=>(Dw hown j hj).1)) (Af hbase h2.size);unfold sJ;simpa using h1
theorem sJ.at {base:Nat} {v:ZC} {l:List Nat} (h:sJ base w v l) (h0:l≠[]):∃ g cap,v=.slice (some ⟨g,0,none⟩) l.length cap/\(base<=g/\g<w.heap.size/\l.length<=cap)/\∀ k d,l[k]?=some d->w.cell? ⟨g,k,none⟩=some (xI d):=by
 have h9:=h;obtain⟨hlen,⟨rfl,e⟩|⟨g,cap,cur,rfl,hb,hg,rest⟩⟩:=h;·exact absurd (Bo.1 e) h0
 ·refine⟨g,cap,rfl,⟨hb,(aZ hg),rest.1⟩,fun k d hk=>?_⟩;have hkl:k<l.length:=(lS hk)
  rw [Fq h9 k oM];simp [hk]
theorem Ch6 (m:Q00) (w:ZB) (hm:m.length<=140737488355328) : ZE prog 127 #[↑m] w fun e w'=>∃ v,e=.returned v/\sJ w w' v (CH.digits m)/\Below w w w':=by
 have SM:=Aa (R8 m w hm);have HX:=Aa fun (k:Nat) (hk:k<16)=>(show ∃ c d,(CH.sum m)[k]?=some c/\CH.isHex c=true/\CH.hexVal c=d/\d<=15/\(iO m)[k]?=some d from by
  have hl:=dL m;have hs:=jc m;refine⟨_,_,Ad oM,?_,rfl,?_,?_⟩;·unfold ay at hs;rw [Ba] at hs;exact Df.1 hs.2 _ (Jm _)
  ·exact rY m _ (Dz.2 ⟨_,Jm _,rfl⟩)
  ·unfold iO;rw [Dq,Ad oM];rfl)
 have hl:=dL m;have HD:=Aa (ji m);have h16:=Aa (dQ m);have LK:=Aa fun k d (h:(iO m)[k]?=some d)=>qA m k d h;have LE:=Aa (qN m);have L0:CH.lack m 0=0:=rfl;generalize CH.sum m=S at *;generalize iO m=D at *;generalize CH.lack m=lk at *;go_enter func127,ntmps127;go_wp2_with fail;refine CmZ SM.out fun w1 hb1=>?_;clear SM;have hs1:=hb1.size;go_wp2_with fail;go_loopw [4,5,6] (fun ov rv iv wr=>∃ k r:Nat,k<=16/\iv=↑k/\rv=↑r/\r<=240/\Hid (r=lk k)/\sJ w wr ov (D.take k)/\Below w w wr/\w.heap.size<=wr.heap.size) (fun _ _ iv _=>16 - (ZG iv).toNat);case atStart=>exact⟨0,0,oM,rfl,rfl,oM,Aa L0.symm,I5 _ _ _ _,hb1,hs1⟩
 case round =>
  obtain⟨k,r,hk,rfl,rfl,hr,hR,hO,hb,hs⟩:=hrel;by_cases hlt:k<16
  ·obtain⟨c,d,hc,hx,hv,hd,hD⟩:=HX.out k hlt;have hgk:=Hj S k oM c hc;have hr2:=Aa (LK.out k d hD);have hle:=LE.out (k+1);rw [hr2.out,<- hR.out] at hle;have hts:=Aa (aI D k d hD);have hol:(D.take k).length<=1000:=by rw [C9];omega
   have DG:=Aa (To c wr);clear hc hD;go_wp2_with fail;refine DG.out.mono ?_;rintro e w2 ⟨hb2,z,rfl,_,hz⟩;have hz:=hz hx;rw [hv] at hz;subst hz;have hO2:sJ w w2 _ (D.take k):=Cu hO hb2;have hO3:=Ik hO2 (.cells #[.int .i64 (d:Int)] 3);have hb3:=(hb.trans (hb2.mono hs)).alloc (Af hs hb2.size) (.cells #[.int .i64 (d:Int)] 3);have hs2:=Af hs hb2.size;have hg3:=Aw w2 (.cells #[.int .i64 (d:Int)] 3);generalize D.take k=pre at *;clear DG hb hb2 hO hO2 hx hgk hv;go_wp2_with (at_builtin;refine Vb rfl _ _ rfl w _ pre [d] w2.heap.size rfl hO3 rfl hg3 hb3 (by simp;omega) hol sM ?_)
   intro v4 w4 hO4 hb4 hs4;rw [<- hts.out] at hO4;clear hO3 hb3 hg3;go_wp2;go_roundw;case rel=>exact⟨k+1,r+15 - d,oM,by go_num,by go_num,oM,Aa (by have:=hR.out;have:=hr2.out;omega),hO4,hb4,hs4⟩
   case measure=>simp [ZG];omega
  ·obtain rfl:k=16:=oM;have e:D.take 16=D:=Bz (by have:=h16.out;omega);rw [e] at hO;have hO3:=Ik hO (.cells #[.int .i64 ((r / 16:Nat):Int),.int .i64 ((r % 16:Nat):Int)] 3);have hb3:=hb.alloc hs (.cells #[.int .i64 ((r / 16:Nat):Int),.int .i64 ((r % 16:Nat):Int)] 3);have hg3:=Aw wr (.cells #[.int .i64 ((r / 16:Nat):Int),.int .i64 ((r % 16:Nat):Int)] 3);have q1:Int.tdiv (r:Int) 16=((r / 16:Nat):Int):=by rw [Int.tdiv_eq_ediv_of_nonneg oM];omega
   have q2:Int.tmod (r:Int) 16=((r % 16:Nat):Int):=by rw [Int.tmod_eq_emod_of_nonneg oM];omega
   have OL:=h16.out;have HF:Hid (D++[r / 16,r % 16]=CH.digits m):=Aa (by rw [HD.out,hR.out]);clear e HX LK LE hR hO hb HD;go_wp2_with (at_builtin;refine Vb rfl _ _ rfl w _ D [r / 16,r % 16] wr.heap.size rfl hO3 rfl hg3 hb3 (by simp;omega) oM sM ?_)
   intro v4 w4 hO4 hb4 hs4;rw [HF.out] at hO4;go_wp2;go_ret;exact⟨_,rfl,hO4,hb4⟩
theorem Ch1 (n:Nat) (w:ZB) (hn:n<=8):ZE prog 126 #[↑n] w fun e w'=>e=.returned (.int .i64 ((2 ^ n:Nat):Int))/\w=w':=by
 go_enter func126,ntmps126;go_wp2;go_loopw [3,4] (fun xv iv wr=>∃ k x:Nat,k<=n/\iv=↑k/\xv=↑x/\x<=256/\Hid (x=2 ^ k)/\w=wr) (fun _ iv _=>n - (ZG iv).toNat);case atStart=>exact⟨0,1,oM,rfl,rfl,oM,Aa rfl,rfl⟩
 case round =>
  obtain⟨k,x,hk,rfl,rfl,hx,hX,rfl⟩:=hrel;by_cases hlt:k<n
  ·have h2:=Dd (k+1) oM;have h3:2*x=2 ^ (k+1):=by rw [hX.out,Nat.pow_succ']
   have h4:2*x<=256:=oM;replace h3:=Aa h3;clear h2;go_wp2;go_roundw;case rel=>exact⟨k+1,2*x,oM,by go_num,by go_num,h4,h3,by trivial⟩
   case measure=>simp [ZG];omega
  ·obtain rfl:k=n:=oM;go_wp2;go_ret;exact⟨O0 (by rw [hX.out]),rfl⟩
end
end Go.Proofs.Y
