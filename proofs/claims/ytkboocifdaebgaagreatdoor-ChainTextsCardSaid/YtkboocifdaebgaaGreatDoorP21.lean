/- ChainTexts, part 22 of 31. -/
import Derived.Test.YtkboocifdaebgaaGreatDoorP19
set_option linter.all false
set_option maxHeartbeats 40000000
set_option maxRecDepth 100000
open Go renaming World -> ZB, Value -> ZC
namespace Go.Proofs.Y
section
open Go.Lib Go.Proofs.Tryz Go.RowKit Go.Shelf Go.Sort CH
theorem Fx {P:Program} {fn:Func} {p u:Tmp} {ty:TypeId} (h:fn.results=#[.cell p ty,.tmp u]) (tmps:Array ZC) (w:ZB) (a:Addr) (x:ZC) (hp:tmps.getD p undef=.pointer (some a)) (hl:(loadVar ty a).run P w=.ok x w):(results fn tmps).run P w=.ok (.tuple #[x,tmps.getD u undef]) w:=by
 simp only [results,h];have hp':tmps[p]?.getD undef=.pointer (some a):=by simpa using hp
 simp [asAddr];rw [hp'];simp [Result.andThen,hl]
theorem Rb (w:ZB) (o1 o2:Obj):((w.alloc o1).alloc o2).heap[w.heap.size+1]?=some o2:=by have:=Ag (w.alloc o1) o2;rwa [Df] at this
theorem T9 (w:ZB) (o1 o2:Obj):((w.alloc o1).alloc o2).heap[w.heap.size]?=some o1 := (((Ac _ (w.alloc o1)).alloc nR o2).block w.heap.size sM).trans (Ag w o1)
theorem M3 {B:Nat} {w:ZB} {v:ZC} {ls:List Q00} (h:Strs B w v ls) (b o:Nat) (cs:List ZC) (hx:∀ l∈ls,∀ j,j<cs.length->w.cell? ⟨b,o+j,none⟩≠some (ay l)):Strs B (w.setCells b o cs) v ls:=by
 obtain⟨a,cap,h1,h2,h3,h4⟩:=h;refine⟨a,cap,h1,h2,h3,fun hne=>?_⟩;obtain⟨b',off,e,hlt,hc⟩:=h4 hne;refine⟨b',off,e,hlt,fun j l hj=>?_⟩;have h5:=hc j l hj;rw [World.cell?_setCells_out b cs o w ⟨b',off+j,none⟩ ?_];·exact h5
 ·intro hb _;by_cases hr:off+j<o\/o+cs.length<=off+j;·exact hr
  ·exfalso;have hb:b'=b:=hb;subst hb;refine hx l (Bg hj) (off+j - o) oM ?_;rw [show o+(off+j - o)=off+j from by omega];exact h5
theorem Cx {w w1:ZB} {B b:Nat} (h:Below B w w1) (hb:B<=b):∀ (cs:List ZC) (o:Nat),Below B w (w1.setCells b o cs):=by
 intro cs;induction cs generalizing w1 with
 |nil=>intro o;exact h
 |cons v r ih =>
  intro o;have h':Below B w (w1.setCell ⟨b,o,none⟩ v):=by
   refine⟨h.os,h.tape,h.output,?_,fun k hk=>?_⟩
   ·have:(w1.setCell ⟨b,o,none⟩ v).heap.size=w1.heap.size:=by simp [World.setCell]
    rw [this];exact h.size
   ·simp only [World.setCell];rw [Fp,Ai (by show ¬ b=k;omega)];exact h.block k hk
  rw [World.setCells];exact ih h' (o+1)
theorem Rh (w:ZB) (b:Nat):∀ (cs:List ZC) (o:Nat),(w.setCells b o cs).heap.size=w.heap.size:=by
 intro cs;induction cs generalizing w with
 |nil=>intro o;rfl
 |cons v r ih=>intro o;rw [World.setCells,ih];simp [World.setCell]
def Rco (w:ZB) (v:Q01) (e:Ending) (w':ZB):Prop := ∃ s:dA,e=.returned (.tuple #[.agg (At v s).toArray,.int .i64 0])/\aK w' w' v s/\Below w w w'
def Rd:List ZC:=[.int .i64 0,.int .i64 0,.int .i64 0,.string ⟨#[]⟩,.slice none 0 0,.int .i64 0,.slice none 0 0,.slice none 0 0]
theorem Lps:(Rd.toArray).all (·.oneCell')=true:=Fh (cs:=Rd) (by
  intro u hu
  simp only [Rd,Az,Bo,Ey] at hu
  rcases hu with rfl|rfl|rfl|rfl|rfl|rfl|rfl|rfl <;> rfl)
def Pnu (w:ZB) (v:Q01) (r:Except Int Q00) (e:Ending) (w':ZB):Prop := Below w.heap.size w w'/\((∃ s:dA,e=.returned (.tuple #[.agg (At v s).toArray,.int .i64 0])/\aK w'.heap.size w' v s/\∃ t,r=.ok t)\/∃ er,e=.returned (.tuple #[.agg Rd.toArray,.int .i64 er])/\r=.error er)
theorem Mrb (v:Q01) (i h:Nat) (kq m:Q00) (r:Except Int Q00) (va:ZC) (w:ZB) (hG:Gc w) (hA:aK w w v ⟨va,.slice none 0 0,.slice none 0 0⟩) (hv:v.sel=⟨0,[],[]⟩) (hn:v.number=(i:Int)+1) (hm:CH.message v=.ok m) (hs:kq.length<=1000000) (hh:h<=8) (hi:i<2 ^ h) (ht:bM { v with sel:=⟨i,CH.sig kq i m,CH.path (CH.keys kq h) i⟩ }=r) (hr0:∀ er,r=.error er->er≠0) (h1:Er (CH.sig kq i m)) (h2:Er (CH.path (CH.keys kq h) i)) (h3:∀ l∈CH.sig kq i m,l≠[]) (h4:∀ l∈CH.path (CH.keys kq h) i,l≠[]) : Calls prog 11 #[↑v.authority,↑v.number,↑v.pos,↑v.prev,va,↑kq,↑h] w (Pnu w { v with sel:=⟨i,CH.sig kq i m,CH.path (CH.keys kq h) i⟩ } r):=by
 have hB0:=fun o=>(Ac _ w).alloc nR o;have KZ:=fun o o'=>((Ac _ w).alloc nR o).alloc sM o';have HV:=Aa fun (W:ZB) (hb:Below w w W)=>(hA.below hb nR).mono hb.size;have M:=fun (W:ZB) (hb:Below w w W)=>Rs v _ W (hG.below hb) (HV.out W hb);rw [hm] at M;have S:=Aa fun (W:ZB) (hb:Below w w W)=>Mb8 kq m h i W (hG.below hb).gl hs (by rw [Xw hm];decide) hh hi;generalize CH.sig kq i m=sg at *;generalize CH.path (CH.keys kq h) i=pt at *;have SG:i<256:=Af hi (by have:2 ^ h<=2 ^ 8:=J4 dC hh;omega);have T:=Aa fun (W:ZB) (hb:Below w w W) (v1 v2:ZC) (q1:Strs W W v1 sg) (q2:Strs W W v2 pt)=>J2 { v with sel:=⟨i,sg,pt⟩ } ⟨va,v1,v2⟩ W (hG.below hb) ⟨(HV.out W hb).acts,q1,q2,⟨hA.small.authority,hA.small.number,hA.small.pos,hA.small.prev,⟨by show (-9223372036854775808:Int)<=(i:Int);omega,by show (i:Int)<=9223372036854775807;omega⟩,h1,h2⟩⟩;have HS:=Aa hA.small;obtain⟨aa,ca,e,_,_⟩:=hA.acts.form;change va=_ at e;subst e;clear hA;generalize v.acts.length=N at *;have hsub:(v.number - 1:Int)=(i:Int):=oM;dsimp only [At,P1] at M;rw [hv] at M;dsimp only at M;replace M:=Aa M;have hnb:-9223372036854775808<=v.number/\v.number<=9223372036854775807:=HS.out.number;have hng:1<=v.number/\v.number<=300:=oM;clear hn hnb;go_in;go_wp2_with fail;refine CmZ (M.out _ (KZ _ _)) fun w1 hb1=>?_;clear M;have hB1:Below w w w1:=(KZ _ _).trans (hb1.mono naf);have hblk:=(hb1.block (w+1) sM).trans (Rb _ _ _);have xG:=(hb1.block w naf).trans (T9 _ _ _);have hlt:w.heap.size+1<w1.heap.size:=(aZ hblk)
 go_wp2_with fail;refine (S.out _ hB1).mono ?_;rintro e w2 ⟨v1,v2,rfl,q1,q2,hb2⟩;clear S;have hB2:Below w w w2:=hB1.trans (hb2.mono hB1.size);have hblk2:=(hb2.block (w+1) hlt).trans hblk;have vZ:=(hb2.block w oM).trans xG;have T2:=fun (W:ZB) (hb:Below w w W) (r1:Strs W W v1 sg) (r2:Strs W W v2 pt)=>T.out W hb v1 v2 r1 r2;rw [ht] at T2;dsimp only [At] at T2;have hq1:=Aa q1;have hq2:=Aa q2;obtain⟨a1,c1,rfl,_,_⟩:=q1.form;obtain⟨a2,c2,rfl,_,_⟩:=q2.form;clear q1 q2 T hblk xG hb1;generalize sg.length=n1 at *;generalize pt.length=n2 at *;replace T2:=Aa T2;have hlt2:w.heap.size+1<w2.heap.size:=Af hlt hb2.size;have hr2:w2.rangeAt (w.heap.size+1) 0 ([.int .i64 v.authority,.int .i64 v.number,.int .i64 v.pos,.string ⟨v.prev.toArray⟩,.slice aa N ca]++[.int .i64 0,.slice none 0 0,.slice none 0 0]):=fun j u hj=>by rw [Ba,Ab hblk2 j];simpa using hj
 have rl:=Im hr2;have rr:=D4 hr2 5 rfl;have vY:w2.there (w+1) 5 3:=fun j hj=>⟨by
  obtain⟨u,hu⟩:∃ u,([.int .i64 0,.slice none 0 0,.slice none 0 0]:List ZC)[j]?=some u:=⟨_,Ae hj⟩
  rw [rr j u hu];rfl,Ao hblk2 _⟩
 have hrX:(w2.setCells (w+1) 5 [↑i,.slice a1 n1 c1,.slice a2 n2 c2]).rangeAt (w.heap.size+1) 0 [↑v.authority,↑v.number,↑v.pos,↑v.prev,.slice aa N ca,↑i,.slice a1 n1 c1,.slice a2 n2 c2]:=fun j u hj=>by
  rcases J8 j 5 with h5|h5;·exact World.rangeAt_setCells_apart rl (w+1) 5 [↑i,.slice a1 n1 c1,.slice a2 n2 c2] (.inr (.inl sM)) j u (by rw [<- hj];rcases (oM:j=0\/j=1\/j=2\/j=3\/j=4) with rfl|rfl|rfl|rfl|rfl <;> rfl)
  ·have:=Ef w2 (w+1) 5 [↑i,.slice a1 n1 c1,.slice a2 n2 c2] vY (j - 5) u (by
    rw [<- hj];have hj8:j<8:=by have:=(lS hj);simpa using this
    rcases (oM:j=5\/j=6\/j=7) with rfl|rfl|rfl <;> rfl)
   rw [show 0+j=5+(j - 5) from by omega];exact this
 have hno:∀ (l:Q00) (j:Nat),j<3->w2.cell? ⟨w+1,5+j,none⟩≠some (ay l):=fun l j hj e=>by
  rcases (oM:j=0\/j=1\/j=2) with rfl|rfl|rfl;·rw [rr 0 _ rfl] at e;cases e
  ·rw [rr 1 _ rfl] at e;cases e
  ·rw [rr 2 _ rfl] at e;cases e
 have hX1:=M3 hq1.out (w+1) 5 [↑i,.slice a1 n1 c1,.slice a2 n2 c2] (fun l _ j hj=>hno l j hj);have hX2:=M3 hq2.out (w+1) 5 [↑i,.slice a1 n1 c1,.slice a2 n2 c2] (fun l _ j hj=>hno l j hj);have hBX:=Cx hB2 (Iy _) [↑i,.slice a1 n1 c1,.slice a2 n2 c2] 5;have hsX:=Rh w2 (w+1) [↑i,.slice a1 n1 c1,.slice a2 n2 c2] 5;have h0X:(w2.setCells (w+1) 5 [↑i,.slice a1 n1 c1,.slice a2 n2 c2]).rangeAt w.heap.size 0 [.int .i64 0,.int .i64 0,.int .i64 0,.string ⟨#[]⟩,.slice none 0 0,.int .i64 0,.slice none 0 0,.slice none 0 0]:=World.rangeAt_setCells_apart (fun j u hj=>by rw [Ba,Ab vZ j];simpa using hj) _ _ _ (.inl oM);have h0f:∀ j,(w2.setCells (w+1) 5 [↑i,.slice a1 n1 c1,.slice a2 n2 c2]).frozen? ⟨w,j,none⟩=false:=fun j=>by rw [World.frozen?_setCells];exact Ao vZ j
 have hi8:(prog.info? 27).map (·.size)=some 8:=kR;have hi3:(prog.info? 25).map (·.size)=some 3:=kR;have hall:(#[↑i,.slice a1 n1 c1,.slice a2 n2 c2]:Array ZC).all (·.oneCell')=true:=Fh (cs:=[↑i,.slice a1 n1 c1,.slice a2 n2 c2]) (by intro u hu;simp only [Az,Bo,Ey] at hu;rcases hu with rfl|rfl|rfl <;> rfl);replace hall:=Aa hall;have W1:=Aa vY;have W2:=Aa hrX;clear vY hrX rl rr hr2 hno hblk2 vZ;replace hX1:=hX1.mono (Lj hsX.symm);replace hX2:=hX2.mono (Lj hsX.symm);have T3:=Aa (T2.out _ hBX hX1 hX2);replace hX1:=Aa hX1;replace hX2:=Aa hX2;replace hBX:=Aa hBX;replace hsX:=Aa hsX;replace h0X:=Aa h0X;replace h0f:=Aa h0f;clear T2 hb2 hq1 hq2 hB2;go_wp2_with (first|refine Ig rfl 25 _ _ rfl (w+1) 5 #[↑i,.slice a1 n1 c1,.slice a2 n2 c2] rfl rfl W1.out hi3 hall.out ?_|refine Dn rfl 27 _ rfl (w+1) 0 rfl [↑v.authority,↑v.number,↑v.pos,↑v.prev,.slice aa N ca,↑i,.slice a1 n1 c1,.slice a2 n2 c2] _ W2.out underlying27 rfl hi8 ?_)
 refine CmZ T3.out fun w3 hb3=>?_;have FH:=hBX.out;have zW:=hsX.out;have hx1:=hX1.out;have hx2:=hX2.out;have hr3:w3.rangeAt (w+1) 0 [↑v.authority,↑v.number,↑v.pos,↑v.prev,.slice aa N ca,↑i,.slice a1 n1 c1,.slice a2 n2 c2]:=Kb W2.out hb3 (by rw [zW];omega);have h03:=Kb h0X.out hb3 (by rw [zW];omega);have hf3:∀ j,w3.frozen? ⟨w,j,none⟩=false:=fun j=>(hb3.frozen (p:=⟨w,j,none⟩) (by rw [zW];show w.heap.size<_;omega)).trans (h0f.out j);clear T3 W1 W2 h0X h0f hall hi3;generalize w2.setCells (w+1) 5 [↑i,.slice a1 n1 c1,.slice a2 n2 c2]=X at *;have hB3:Below w w w3:=FH.trans (hb3.mono FH.size);have hy1:=(hx1.below hb3 nR).mono hb3.size;have hy2:=(hx2.below hb3 nR).mono hb3.size;have hth:w3.there w 0 8:=fun j hj=>⟨by
  obtain⟨u,hu⟩:∃ u,([.int .i64 0,.int .i64 0,.int .i64 0,.string ⟨#[]⟩,.slice none 0 0,.int .i64 0,.slice none 0 0,.slice none 0 0]:List ZC)[j]?=some u:=⟨_,Ae hj⟩
  rw [h03 j u hu];rfl,hf3 _⟩
 have hno:∀ (l:Q00),l≠[]->∀ (j:Nat),j<8->w3.cell? ⟨w,0+j,none⟩≠some (ay l):=fun l hl j hj e=>by
  rcases (oM:j=0\/j=1\/j=2\/j=3\/j=4\/j=5\/j=6\/j=7) with rfl|rfl|rfl|rfl|rfl|rfl|rfl|rfl;·rw [h03 0 _ rfl] at e;cases e
  ·rw [h03 1 _ rfl] at e;cases e
  ·rw [h03 2 _ rfl] at e;cases e
  ·rw [h03 3 _ rfl] at e;simp only [G6,Value.string.injEq,ByteArray.mk.injEq] at e;exact hl (by simpa using e.symm)
  ·rw [h03 4 _ rfl] at e;cases e
  ·rw [h03 5 _ rfl] at e;cases e
  ·rw [h03 6 _ rfl] at e;cases e
  ·rw [h03 7 _ rfl] at e;cases e
 have hz1:=Aa (M3 hy1 w 0 [↑v.authority,↑v.number,↑v.pos,↑v.prev,.slice aa N ca,↑i,.slice a1 n1 c1,.slice a2 n2 c2] (fun l hl j hj=>hno l (h3 l hl) j hj));have hz2:=Aa (M3 hy2 w 0 [↑v.authority,↑v.number,↑v.pos,↑v.prev,.slice aa N ca,↑i,.slice a1 n1 c1,.slice a2 n2 c2] (fun l hl j hj=>hno l (h4 l hl) j hj));have hall:(#[↑v.authority,↑v.number,↑v.pos,↑v.prev,.slice aa N ca,↑i,.slice a1 n1 c1,.slice a2 n2 c2]:Array ZC).all (·.oneCell')=true:=Fh (cs:=[↑v.authority,↑v.number,↑v.pos,↑v.prev,.slice aa N ca,↑i,.slice a1 n1 c1,.slice a2 n2 c2]) (by intro u hu;simp only [Az,Bo,Ey] at hu;rcases hu with rfl|rfl|rfl|rfl|rfl|rfl|rfl|rfl <;> rfl);have hrF:=Aa (Ef w3 w 0 [↑v.authority,↑v.number,↑v.pos,↑v.prev,.slice aa N ca,↑i,.slice a1 n1 c1,.slice a2 n2 c2] hth);have hBF:=Aa (Cx hB3 nR [↑v.authority,↑v.number,↑v.pos,↑v.prev,.slice aa N ca,↑i,.slice a1 n1 c1,.slice a2 n2 c2] 0);have hsF:=Aa (Rh w3 w.heap.size [↑v.authority,↑v.number,↑v.pos,↑v.prev,.slice aa N ca,↑i,.slice a1 n1 c1,.slice a2 n2 c2] 0);have hrZ:=Aa (Ef w3 w 0 Rd hth);have hBZ:=Aa (Cx hB3 nR Rd 0);replace hth:=Aa hth;replace hall:=Aa hall;replace hr3:=Aa hr3;clear hno h03 hf3 hy1 hy2 hx1 hx2 hX1 hX2 hBX hsX FH zW hb3 hB3;cases r with
 |error er =>
  have q1:(er==0)=false:=by simpa using hr0 er rfl
  have q2:(er != 0)=true:=by simpa using hr0 er rfl
  dsimp only [P1];clear hrF hBF hsF hz1 hz2;go_wp2_with (first|refine Ig rfl 27 _ _ rfl w 0 Rd.toArray rfl rfl hth.out hi8 Lps ?_)
  refine Ar (Fx rfl _ _ ⟨w,0,none⟩ _ rfl (Fq _ w 0 27 Rd _ hrZ.out underlying27 rfl hi8)) rfl ?_;exact⟨hBZ.out,.inr ⟨er,rfl,rfl⟩⟩
 |ok t =>
  dsimp only [P1];clear hrZ hBZ;go_wp2_with (first|refine Ig rfl 27 _ _ rfl w 0 #[↑v.authority,↑v.number,↑v.pos,↑v.prev,.slice aa N ca,↑i,.slice a1 n1 c1,.slice a2 n2 c2] rfl rfl hth.out hi8 hall.out ?_|refine Dn rfl 27 _ rfl (w+1) 0 rfl [↑v.authority,↑v.number,↑v.pos,↑v.prev,.slice aa N ca,↑i,.slice a1 n1 c1,.slice a2 n2 c2] _ hr3.out underlying27 rfl hi8 ?_)
  refine Ar (Fx rfl _ _ ⟨w,0,none⟩ _ rfl (Fq _ w 0 27 [↑v.authority,↑v.number,↑v.pos,↑v.prev,.slice aa N ca,↑i,.slice a1 n1 c1,.slice a2 n2 c2] _ hrF.out underlying27 rfl hi8)) rfl ?_;refine⟨hBF.out,.inl ⟨⟨.slice aa N ca,.slice a1 n1 c1,.slice a2 n2 c2⟩,rfl,⟨((HV.out _ hBF.out).acts),?_,?_,⟨HS.out.authority,HS.out.number,HS.out.pos,HS.out.prev,⟨by show (-9223372036854775808:Int)<=(i:Int);omega,by show (i:Int)<=9223372036854775807;omega⟩,h1,h2⟩⟩,⟨t,rfl⟩⟩⟩;·exact hz1.out.mono (Lj hsF.out.symm)
  ·exact hz2.out.mono (Lj hsF.out.symm)
theorem Mre (v:Q01) (i h:Nat) (kq m t:Q00) (va:ZC) (w:ZB) (hG:Gc w) (hA:aK w w v ⟨va,.slice none 0 0,.slice none 0 0⟩) (hv:v.sel=⟨0,[],[]⟩) (hn:v.number=(i:Int)+1) (hm:CH.message v=.ok m) (hs:kq.length<=1000000) (hh:h<=8) (hi:i<2 ^ h) (ht:bM { v with sel:=⟨i,CH.sig kq i m,CH.path (CH.keys kq h) i⟩ }=.ok t) (h1:Er (CH.sig kq i m)) (h2:Er (CH.path (CH.keys kq h) i)) (h3:∀ l∈CH.sig kq i m,l≠[]) (h4:∀ l∈CH.path (CH.keys kq h) i,l≠[]) : Calls prog 11 #[↑v.authority,↑v.number,↑v.pos,↑v.prev,va,↑kq,↑h] w (Rco w { v with sel:=⟨i,CH.sig kq i m,CH.path (CH.keys kq h) i⟩ }) :=
 (Mrb v i h kq m _ va w hG hA hv hn hm hs hh hi ht (fun _ h=>by cases h) h1 h2 h3 h4).mono fun e w' hR=>by
  obtain⟨hb,⟨s,e1,e2,_⟩|⟨er,_,e2⟩⟩:=hR
  ·exact⟨s,e1,e2,hb⟩
  ·cases e2
def iZ (v:Q01) (key:Q00):Bool:=match bM v with
 |.error _=>false
 |.ok _=>v.sel.index==v.number - 1&&Wa key (CH.msg v) v.sel.index v.sel.sig v.sel.path
theorem Lg8 (v:Q01) (s:dA) (key:Q00) (w:ZB) (hG:Gc w) (h:aK w w v s) : Calls prog 39 #[.agg (At v s).toArray,↑key] w (Ret w (.bool (iZ v key))):=by
 obtain⟨R,hR⟩:=nac (iZ v key);rw [hR.out];have hR1:=hR.out;unfold iZ at hR1;have hB0:=fun o=>(Ac _ w).alloc nR o;have HV:=Aa fun (W:ZB) (hb:Below w w W)=>(h.below hb nR).mono hb.size;have T:=fun (W:ZB) (hb:Below w w W)=>J2 v s W (hG.below hb) (HV.out W hb);have M:=fun (W:ZB) (hb:Below w w W)=>Rs v s W (hG.below hb) (HV.out W hb);obtain⟨x,hx⟩:=naa (bM v);have herr:∀ e,x=.error e->e≠0:=fun e he=>by rcases Sk (hx.trans he) with rfl|rfl <;> decide
 have hnum:∀ y,x=.ok y->1<=v.number/\v.number<=200:=fun y hy=>by obtain⟨u,hu⟩:=Za (hx.trans hy);have:=Pnc hu;omega
 simp only [Gcd] at M;have hml:=Pfe v;generalize I22 (CH.message v)=me at M;generalize CH.msg v=mm at M hR1 hml;rw [hx] at hR1 T;have HS:=Aa h.small;have V:=fun (W:ZB) (hb:Below w w W)=>Hrl key mm v.sel.index s.v1 s.v2 v.sel.sig v.sel.path W (hG.below hb).gl (Aj hml dC) (HV.out W hb).sig (HV.out W hb).path (fun l hl=>Aj (HS.out.sig.2 l hl) dC) (fun l hl=>Aj (HS.out.path.2 l hl) dC) HS.out.index;obtain⟨va,v1,v2⟩:=s;clear h hx hR;dsimp only [At] at T M V ⊢;have T:=Aa T;have M:=Aa M;have V:=Aa V;go_in;go_wp2_with fail;refine CmZ (T.out _ (hB0 _)) fun w1 hb1=>?_;have hB1:Below w w w1:=(hB0 _).trans (hb1.mono sM);have hblk:=(hb1.block w sM).trans (Ag w _);have hlt1:w.heap.size<w1.heap.size:=(aZ hblk)
 have k0:w1.cell? ⟨w,0,none⟩=some ↑v.authority:=Ab hblk 0;have k1:w1.cell? ⟨w,1,none⟩=some ↑v.number:=Ab hblk 1;have k2:w1.cell? ⟨w,2,none⟩=some ↑v.pos:=Ab hblk 2;have k3:w1.cell? ⟨w,3,none⟩=some ↑v.prev:=Ab hblk 3;have k4:w1.cell? ⟨w,4,none⟩=some va:=Ab hblk 4;have k5:w1.cell? ⟨w,5,none⟩=some ↑v.sel.index:=Ab hblk 5;have k6:w1.cell? ⟨w,6,none⟩=some v1:=Ab hblk 6;have k7:w1.cell? ⟨w,7,none⟩=some v2:=Ab hblk 7;clear T hb1;cases x with
 |error e =>
  dsimp only [P1];dsimp only at hR1;have q:(e==0)=false:=by simpa using herr e rfl
  replace hR1:=Aa hR1;clear herr hnum hblk M V;go_wp2;go_ret;exact⟨by rw [<- hR1.out];rfl,hB1⟩
 |ok y =>
  have hn:=hnum y rfl;dsimp only [P1];dsimp only at hR1;replace hR1:=Aa hR1;clear herr hnum;by_cases hi:v.sel.index=v.number - 1
  ·have q1:(v.sel.index==v.number - 1)=true:=by simpa using hi
   have hR2:Hid (Wa key mm v.sel.index v.sel.sig v.sel.path=R):=Aa (by rw [<- hR1.out,q1];rfl);clear hR1 hi;go_wp2_with fail;refine CmZ (M.out _ hB1) fun w2 hb2=>?_;have hB2:Below w w w2:=hB1.trans (hb2.mono hB1.size);have hblk2:=(hb2.block w hlt1).trans hblk;have m5:w2.cell? ⟨w,5,none⟩=some ↑v.sel.index:=Ab hblk2 5;have m6:w2.cell? ⟨w,6,none⟩=some v1:=Ab hblk2 6;have m7:w2.cell? ⟨w,7,none⟩=some v2:=Ab hblk2 7;clear M k0 k1 k2 k3 k4 k5 k6 k7 hblk hblk2;go_wp2_with fail;refine CmZ (V.out _ hB2) fun w3 hb3=>?_;clear V;go_wp2;go_ret;exact⟨by rw [<- hR2.out];rfl,hB2.trans (hb3.mono hB2.size)⟩
  ·have q1:(v.sel.index==v.number - 1)=false:=by simpa using hi
   have hR2:Hid (false=R):=Aa (by rw [<- hR1.out,q1];rfl);clear hR1 M V hblk;go_wp2;go_ret;exact⟨by rw [<- hR2.out];rfl,hB1⟩
end
end Go.Proofs.Y
namespace CH
section
def GH:Act:=⟨0,⟨0,[],⟨[],[]⟩,0⟩,⟨[],[],0,[],.mk 0 [] 0 0 [],0,0,0⟩,⟨[],[],[],0,0,0,0⟩,⟨[],[],[],[],[],[],0,0,0,0⟩,[],0⟩
def iT (n:Int):Act:={ GH with kind:=7,id:=[104,49],n:=n }
def oz:Act:={ GH with kind:=6,holding:=⟨[104,49],[112,49],[112,48],[],[],[],60,51,0,-1⟩ }
def sS:Str:=[115]
def lV (number pos:Int) (prev:Str) (acts:List Act):Version:=⟨0,number,pos,prev,acts,⟨0,[],[]⟩⟩
def sealed (i:Nat) (v:Version) (m:Str):Version:={ v with sel:=⟨i,sig sS i m,path (keys sS 1) i⟩ }
def ku:Str:=pub sS 1
def m1:Str:=[49,53,51,102,50,53,51,99,54,48,57,98,102,50,57,97]
def m2:Str:=[48,51,57,50,98,52,53,97,52,98,98,54,50,56,51,51]
def m3:Str:=[51,56,98,97,54,56,53,102,97,98,52,55,57,57,56,102]
def m4:Str:=[97,97,56,50,51,52,51,48,99,102,51,49,98,55,54,53]
def wP:Version:=lV 1 100 [] [iT 1]
def FX:Version:=lV 2 100 m1 [iT 2]
def pX:Version:=lV 1 100 [] [iT 3]
def wQ:Version:=lV 2 99 m1 []
def jV:Version:=sealed 0 wP m1
def rZ:Version:=sealed 1 FX m2
def iQ:Version:=sealed 0 pX m3
def pU:Version:=sealed 1 wQ m4
theorem wY {v:Version} {m:Str} (h:(match message v with|.error _=>false|.ok x=>x==m)=true):message v=.ok m:=by
 split at h;·cases h
 ·rename_i x e;rw [e,Eh.1 h]
theorem tH:message wP=.ok m1:=wY nah
theorem yM:message FX=.ok m2:=wY nah
theorem qO:message pX=.ok m3:=wY nah
theorem uP:message wQ=.ok m4:=wY nah
theorem jH (i:Nat) (v:Version) (m:Str) (h:v.sel=⟨0,[],[]⟩):message (sealed i v m)=message v:=by obtain⟨_,_,_,_,_,_⟩:=v;dsimp only at h;subst h;rfl
theorem Aa5 {v:Version} (h:(match bM v with|.error _=>false|.ok _=>true)=true):∃ t,bM v=.ok t:=by
 split at h;·cases h
 ·rename_i x e;exact⟨x,e⟩
theorem lX:∃ t,bM jV=.ok t:=Aa5 nah
theorem qC:∃ t,bM rZ=.ok t:=Aa5 nah
theorem lW:∃ t,bM iQ=.ok t:=Aa5 nah
theorem pq:∃ t,bM pU=.ok t:=Aa5 nah
end
end CH
namespace Go.Proofs.Y
section
open CH
variable {v:Q01}
theorem Bln (kq m:Q00) (h i:Nat) (hh:h<=8) (hi:i<2 ^ h):Wa (CH.pub kq h) m (i:Int) (CH.sig kq i m) (CH.path (CH.keys kq h) i)=true:=by
 have hs:=ou kq i m;have hp:=mQ (CH.keys kq h) i;have ht:=qH (CH.keys kq h) i (kW kq i) (zT kq h i hi);rw [CH.length_keys] at ht;unfold Wa;rw [vg,nC,qw];have q1:((CH.sig kq i m).any fun l=>!aG l)=false:=by rw [Jz];intro x hx;rw [hs x hx];decide
 have q2:((CH.path (CH.keys kq h) i).any fun l=>!aG l)=false:=by rw [Jz];intro x hx;rw [hp x hx];decide
 have q3:decide ((i:Int)<2 ^ h)=true:=by rw [Bj];have:=Int.ofNat_lt.2 hi;rwa [Int.natCast_pow] at this
 rw [q1,q2,q3,Int.toNat_natCast];rw [show decide (h<=8)=true from Di hh,show decide ((0:Int)<=(i:Int))=true from Di oM];unfold CH.pub;rw [ht];simp
theorem Pmk {key t:Q00} (ht:bM v=.ok t):iZ v key=(v.sel.index==v.number - 1&&Wa key (CH.msg v) v.sel.index v.sel.sig v.sel.path):=by unfold iZ;rw [ht]
theorem T6 {i:Nat} {m:Q00} (hi:i<2) (hv:v.sel=⟨0,[],[]⟩) (hn:v.number=(i:Int)+1) (hm:CH.message v=.ok m) (ht:∃ t,bM (CH.sealed i v m)=.ok t):iZ (CH.sealed i v m) ku=true:=by
 obtain⟨t,ht⟩:=ht;have hmm:CH.msg (CH.sealed i v m)=m:=by unfold CH.msg;rw [jH i v m hv,hm]
 have e1:(CH.sealed i v m).sel.index=(i:Int):=by simp only [CH.sealed]
 have e2:(CH.sealed i v m).number=v.number:=rfl;have e3:(CH.sealed i v m).sel.sig=CH.sig sS i m:=by simp only [CH.sealed]
 have e4:(CH.sealed i v m).sel.path=CH.path (CH.keys sS 1) i:=by simp only [CH.sealed]
 rw [Pmk ht,hmm,e1,e2,e3,e4,hn];have:=Bln sS m 1 i dC hi;unfold ku;rw [this,Og,Eh];omega
theorem E6a:iZ jV ku=true:=T6 (i:=0) (v:=wP) (m:=CH.m1) dC rfl rfl tH lX
theorem M2a:iZ rZ ku=true:=T6 (i:=1) (v:=FX) (m:=CH.m2) dC rfl rfl yM qC
theorem Hdk:iZ iQ ku=true:=T6 (i:=0) (v:=pX) (m:=CH.m3) dC rfl rfl qO lW
theorem M3a:iZ pU ku=true:=T6 (i:=1) (v:=wQ) (m:=CH.m4) dC rfl rfl uP pq
theorem Abo {i:Nat} {m:Q00} (hv:v.sel=⟨0,[],[]⟩) (hm:CH.message v=.ok m):CH.msg (CH.sealed i v m)=m:=by unfold CH.msg;rw [jH i v m hv,hm]
theorem IK:CH.msg jV=CH.m1:=Abo (i:=0) (v:=wP) (m:=CH.m1) rfl tH
theorem Q1a:CH.msg iQ=CH.m3:=Abo (i:=0) (v:=pX) (m:=CH.m3) rfl qO
def hK:List Q00:=[ku]
def kC1:Q06:=[((0,2),rZ)]
def kC2:Q06:=[((0,2),rZ),((0,1),jV)]
def kD1:Q06:=[((0,1),iQ)]
def kD2:Q06:=[((0,1),iQ),((0,2),rZ)]
def fC:Q04:=[((0,1),(jV,iQ))]
def fD:Q04:=[((0,1),(iQ,jV))]
def kX1:Q06:=[((0,1),jV)]
def kX2:Q06:=[((0,1),jV),((0,2),pU)]
theorem Qw {known:Q06} {forks:Q04} (ha:v.authority=0) (ht:∃ t,bM v=.ok t) (hc:iZ v ku=true) (hl:cu (v.authority,v.number) known=none) : jr iZ hK known forks v=(0,known++[((v.authority,v.number),v)],forks):=by exact FD56
theorem Fit {known:Q06} {forks:Q04} {old:Q01} (ha:v.authority=0) (ht:∃ t,bM v=.ok t) (hc:iZ v ku=true) (hl:cu (v.authority,v.number) known=some old) : jr iZ hK known forks v=if (CH.bare old).getD []==(CH.bare v).getD [] then (0,known,forks) else (17,known,oQ (v.authority,v.number) (old,v) forks):=by exact FD56
theorem Lnr:((CH.bare jV).getD []==(CH.bare iQ).getD [])=false:=by have h:((CH.bare wP).getD []==(CH.bare pX).getD [])=false:=nah;exact h
theorem wO:((CH.bare iQ).getD []==(CH.bare jV).getD [])=false:=by have h:((CH.bare pX).getD []==(CH.bare wP).getD [])=false:=nah;exact h
theorem ML:jr iZ hK [] [] rZ=(0,kC1,[]):=Qw rfl qC M2a rfl
theorem MK:jr iZ hK kC1 [] jV=(0,kC2,[]):=Qw rfl lX E6a rfl
theorem MJ:jr iZ hK kC2 [] jV=(0,kC2,[]):=by rw [Fit (old:=jV) rfl lX E6a rfl,Ah sM]
theorem MI:jr iZ hK kC2 [] iQ=(17,kC2,fC):=by rw [Fit (old:=jV) rfl lW Hdk rfl,Lnr];rfl
theorem MH:jr iZ hK [] [] iQ=(0,kD1,[]):=Qw rfl lW Hdk rfl
theorem MG:jr iZ hK kD1 [] jV=(17,kD1,fD):=by rw [Fit (old:=iQ) rfl lX E6a rfl,wO];rfl
theorem MF:jr iZ hK kD1 fD rZ=(0,kD2,fD):=Qw rfl qC M2a rfl
theorem MC:jr iZ hK [] [] jV=(0,kX1,[]):=Qw rfl lX E6a rfl
theorem MB:jr iZ hK kX1 [] pU=(0,kX2,[]):=Qw rfl pq M3a rfl
theorem X6 (msg:Q01->Q00) (known:Q06) (a:Int) (f:Nat) (out:List Q01) (hd:Q00) (last:Int) (h:cu (a,(out.length:Int)+1) known=none):CH.follow msg known a (f+1) out hd last=(out,hd):=by rw [CH.follow,h]
theorem Arg (msg:Q01->Q00) (known:Q06) (a:Int) (f:Nat) (out:List Q01) (hd:Q00) (last:Int) (v:Q01) (h:cu (a,(out.length:Int)+1) known=some v) (hc:(v.prev != hd||decide (v.pos<last))=true):CH.follow msg known a (f+1) out hd last=(out,hd):=by rw [CH.follow,h];dsimp only;rw [Ah hc]
theorem Qr (msg:Q01->Q00) (known:Q06) (a:Int) (f:Nat) (out:List Q01) (hd:Q00) (last:Int) (v:Q01) (h:cu (a,(out.length:Int)+1) known=some v) (hc:(v.prev != hd||decide (v.pos<last))=false):CH.follow msg known a (f+1) out hd last=CH.follow msg known a f (out++[v]) (msg v) v.pos:=by rw [CH.follow,h];dsimp only;rw [Ai (by rw [hc];decide)]
theorem LU:(fol CH.msg kC1 0).1.length=0:=by unfold fol;rw [X6 _ _ _ 200 _ _ _ rfl];rfl
theorem LQ:(fol CH.msg kC2 0).1.length=2:=by unfold fol;rw [Qr _ _ _ 200 _ _ _ jV rfl rfl,Qr _ _ _ 199 _ _ _ rZ rfl (by rw [IK];decide +kernel),X6 _ _ _ 198 _ _ _ rfl];rfl
theorem LP:(fol CH.msg kD2 0).1.length=1:=by unfold fol;rw [Qr _ _ _ 200 _ _ _ iQ rfl rfl,Arg _ _ _ 199 _ _ _ rZ rfl (by rw [Q1a];decide +kernel)];rfl
theorem LM:(fol CH.msg kX2 0).1.length=1:=by unfold fol;rw [Qr _ _ _ 200 _ _ _ jV rfl rfl,Arg _ _ _ 199 _ _ _ pU rfl (by rw [IK];decide +kernel)];rfl
theorem Mrv:aY oz=some ([104,111,108,100,105,110,103,32,104,49,32,112,49,32,112,48,32,45,32,45,32,54,48,32,53,49,32,48,32,45,59]:Q00):=by
 have h:(match aY oz with|none=>false|some t=>t==([104,111,108,100,105,110,103,32,104,49,32,112,49,32,112,48,32,45,32,45,32,54,48,32,53,49,32,48,32,45,59]:Q00))=true:=nah;split at h;·cases h
 ·rename_i t e;rw [e,Eh.1 h]
end
end Go.Proofs.Y
