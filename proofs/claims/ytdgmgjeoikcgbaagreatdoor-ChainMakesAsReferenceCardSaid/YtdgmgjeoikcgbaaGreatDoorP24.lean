/-
  ChainMakes: the proof, part 25 of 34.
-/
import Derived.Test.YtdgmgjeoikcgbaaGreatDoorP18
import Derived.Test.YtdgmgjeoikcgbaaGreatDoorRows
import Derived.Lib.LaidCase
import Derived.LaidMore
set_option linter.unusedSimpArgs false
set_option linter.unusedVariables false
set_option maxHeartbeats 40000000
set_option maxRecDepth 100000
open Go renaming World -> ZB, Value -> ZC
open Decidable renaming decide -> ZH
namespace Go.Proofs.YtdgmgjeoikcgbaaGreatDoor
section
open Go.Lib Go.Proofs.Tryz Go.RowKit Go.Shelf Go.Sort CH
theorem Cl {P:Program} {fn:Func} {p u:Tmp} {ty:TypeId} (h:fn.results=#[.cell p ty,.tmp u]) (tmps:Array ZC) (w:ZB) (a:Addr) (x:ZC) (hp:tmps.getD p undef=.pointer (some a)) (hl:(loadVar ty a).run P w=.ok x w):(results fn tmps).run P w=.ok (.tuple #[x,tmps.getD u undef]) w:=by
 simp only [results,h];have hp':tmps[p]?.getD undef=.pointer (some a):=by simpa using hp
 simp [asAddr];rw [hp'];simp [Result.andThen,hl]
theorem Pl (w:ZB) (o1 o2:Obj):((w.alloc o1).alloc o2).heap[w.heap.size+1]?=some o2:=by have:=Ap (w.alloc o1) o2;rwa [Dn] at this
theorem Lg (w:ZB) (o1 o2:Obj):((w.alloc o1).alloc o2).heap[w.heap.size]?=some o1 := (((Ac _ (w.alloc o1)).alloc nR o2).block w.heap.size sM).trans (Ap w o1)
theorem Fx {B:Nat} {w:ZB} {v:ZC} {ls:List (List UInt8)} (h:Strs B w v ls) (b o:Nat) (cs:List ZC) (hx:∀ l∈ls,∀ j,j<cs.length->w.cell? ⟨b,o+j,none⟩≠some (aA l)):Strs B (w.setCells b o cs) v ls:=by
 obtain⟨a,cap,h1,h2,h3,h4⟩:=h;refine⟨a,cap,h1,h2,h3,fun hne=>?_⟩;obtain⟨b',off,e,hlt,hc⟩:=h4 hne;refine⟨b',off,e,hlt,fun j l hj=>?_⟩;have h5:=hc j l hj;rw [World.cell?_setCells_out b cs o w ⟨b',off+j,none⟩ ?_];·exact h5
 ·intro hb _;by_cases hr:off+j<o\/o+cs.length<=off+j;·exact hr
  ·exfalso;have hb:b'=b:=hb;subst hb;refine hx l (Aq hj) (off+j - o) oM ?_;rw [show o+(off+j - o)=off+j from by omega];exact h5
theorem Br {w w1:ZB} {B b:Nat} (h:Below B w w1) (hb:B<=b):∀ (cs:List ZC) (o:Nat),Below B w (w1.setCells b o cs):=by
 intro cs;induction cs generalizing w1 with
 |nil=>intro o;exact h
 |cons v r ih =>
  intro o;have h':Below B w (w1.setCell ⟨b,o,none⟩ v):=by
   refine⟨h.os,h.tape,h.output,?_,fun k hk=>?_⟩
   ·have:(w1.setCell ⟨b,o,none⟩ v).heap.size=w1.heap.size:=by simp [World.setCell]
    rw [this];exact h.size
   ·simp only [World.setCell];rw [Gf,Ah (by show ¬ b=k;omega)];exact h.block k hk
  rw [World.setCells];exact ih h' (o+1)
theorem Mt (w:ZB) (b:Nat):∀ (cs:List ZC) (o:Nat),(w.setCells b o cs).heap.size=w.heap.size:=by
 intro cs;induction cs generalizing w with
 |nil=>intro o;rfl
 |cons v r ih=>intro o;rw [World.setCells,ih];simp [World.setCell]
def Oer (w:ZB) (v:CH.Version) (e:Ending) (w':ZB):Prop := ∃ s:dI,e=.returned (.tuple #[.agg (Al v s).toArray,.int .i64 0])/\aN w' w' v s/\Below w w w'
def B7:List ZC:=[.int .i64 0,.int .i64 0,.int .i64 0,.string ⟨#[]⟩,.slice none 0 0,.int .i64 0,.slice none 0 0,.slice none 0 0]
theorem Rc:(B7.toArray).all (·.oneCell')=true:=Ec (cs:=B7) (by
  intro u hu
  simp only [B7,A8,Az,Df] at hu
  rcases hu with rfl|rfl|rfl|rfl|rfl|rfl|rfl|rfl <;> rfl)
def Cal (w:ZB) (v:CH.Version) (r:Except Int (List UInt8)) (e:Ending) (w':ZB):Prop := Below w.heap.size w w'/\((∃ s:dI,e=.returned (.tuple #[.agg (Al v s).toArray,.int .i64 0])/\aN w'.heap.size w' v s/\∃ t,r=.ok t)\/∃ er,e=.returned (.tuple #[.agg B7.toArray,.int .i64 er])/\r=.error er)
theorem El8 (v:CH.Version) (i h:Nat) (secret m:List UInt8) (r:Except Int (List UInt8)) (va:ZC) (w:ZB) (hG:Gc w) (hA:aN w w v ⟨va,.slice none 0 0,.slice none 0 0⟩) (hv:v.sel=⟨0,[],[]⟩) (hn:v.number=(i:Int)+1) (hm:CH.message v=.ok m) (hs:secret.length<=1000000) (hh:h<=8) (hi:i<2 ^ h) (ht:bZ { v with sel:=⟨i,CH.sig secret i m,CH.path (CH.keys secret h) i⟩ }=r) (hr0:∀ er,r=.error er->er≠0) (h1:Fd (CH.sig secret i m)) (h2:Fd (CH.path (CH.keys secret h) i)) (h3:∀ l∈CH.sig secret i m,l≠[]) (h4:∀ l∈CH.path (CH.keys secret h) i,l≠[]) : Calls prog 6 #[↑v.authority,↑v.number,↑v.pos,↑v.prev,va,↑secret,↑h] w (Cal w { v with sel:=⟨i,CH.sig secret i m,CH.path (CH.keys secret h) i⟩ } r):=by
 have hB0:=fun o=>(Ac _ w).alloc nR o;have kG:=fun o o'=>((Ac _ w).alloc nR o).alloc sM o';have HV:=Aa fun (W:ZB) (hb:Below w w W)=>(hA.below hb nR).mono hb.size;have M:=fun (W:ZB) (hb:Below w w W)=>Lt v _ W (hG.below hb) (HV.out W hb);rw [hm] at M;have S:=Aa fun (W:ZB) (hb:Below w w W)=>Knb secret m h i W (hG.below hb).gl hs (by rw [Uv hm];decide) hh hi;generalize CH.sig secret i m=sg at *;generalize CH.path (CH.keys secret h) i=pt at *;have zO:i<256:=Ai hi (by have:2 ^ h<=2 ^ 8:=Jf dC hh;omega);have T:=Aa fun (W:ZB) (hb:Below w w W) (v1 v2:ZC) (q1:Strs W W v1 sg) (q2:Strs W W v2 pt)=>Lk { v with sel:=⟨i,sg,pt⟩ } ⟨va,v1,v2⟩ W (hG.below hb) ⟨(HV.out W hb).acts,q1,q2,⟨hA.small.authority,hA.small.number,hA.small.pos,hA.small.prev,⟨by show (-9223372036854775808:Int)<=(i:Int);omega,by show (i:Int)<=9223372036854775807;omega⟩,h1,h2⟩⟩;have HS:=Aa hA.small;obtain⟨aa,ca,e,_,_⟩:=hA.acts.form;change va=_ at e;subst e;clear hA;generalize v.acts.length=N at *;have hsub:(v.number - 1:Int)=(i:Int):=oM;dsimp only [Al,It] at M;rw [hv] at M;dsimp only at M;replace M:=Aa M;have hnb:-9223372036854775808<=v.number/\v.number<=9223372036854775807:=HS.out.number;have hng:1<=v.number/\v.number<=300:=oM;clear hn hnb;go_enter func6,ntmps6;go_wp2_with fail;refine (M.out _ (kG _ _)).mono ?_;rintro e w1 ⟨rfl,hb1⟩;clear M;have hB1:Below w w w1:=(kG _ _).trans (hb1.mono (by simp;omega));have hblk:=(hb1.block (w+1) sM).trans (Pl _ _ _);have gQ:=(hb1.block w (by simp;omega)).trans (Lg _ _ _);have hlt:w.heap.size+1<w1.heap.size:=(aZ hblk)
 go_wp2_with fail;refine (S.out _ hB1).mono ?_;rintro e w2 ⟨v1,v2,rfl,q1,q2,hb2⟩;clear S;have hB2:Below w w w2:=hB1.trans (hb2.mono hB1.size);have hblk2:=(hb2.block (w+1) hlt).trans hblk;have gW:=(hb2.block w oM).trans gQ;have T2:=fun (W:ZB) (hb:Below w w W) (r1:Strs W W v1 sg) (r2:Strs W W v2 pt)=>T.out W hb v1 v2 r1 r2;rw [ht] at T2;dsimp only [Al] at T2;have hq1:=Aa q1;have hq2:=Aa q2;obtain⟨a1,c1,rfl,_,_⟩:=q1.form;obtain⟨a2,c2,rfl,_,_⟩:=q2.form;clear q1 q2 T hblk gQ hb1;generalize sg.length=n1 at *;generalize pt.length=n2 at *;replace T2:=Aa T2;have hlt2:w.heap.size+1<w2.heap.size:=Ai hlt hb2.size;have hr2:w2.rangeAt (w.heap.size+1) 0 ([.int .i64 v.authority,.int .i64 v.number,.int .i64 v.pos,.string ⟨v.prev.toArray⟩,.slice aa N ca]++[.int .i64 0,.slice none 0 0,.slice none 0 0]):=fun j u hj=>by rw [Bh,Ab hblk2 j];simpa using hj
 have rl:=Hb hr2;have rr:=Cz hr2 5 rfl;have lJ:w2.there (w+1) 5 3:=fun j hj=>⟨by
  obtain⟨u,hu⟩:∃ u,([.int .i64 0,.slice none 0 0,.slice none 0 0]:List ZC)[j]?=some u:=⟨_,Ad hj⟩
  rw [rr j u hu];rfl,A9 hblk2 _⟩
 have hrX:(w2.setCells (w+1) 5 [↑i,.slice a1 n1 c1,.slice a2 n2 c2]).rangeAt (w.heap.size+1) 0 [↑v.authority,↑v.number,↑v.pos,↑v.prev,.slice aa N ca,↑i,.slice a1 n1 c1,.slice a2 n2 c2]:=fun j u hj=>by exact FD35
 have hno:∀ (l:List UInt8) (j:Nat),j<3->w2.cell? ⟨w+1,5+j,none⟩≠some (aA l):=fun l j hj e=>by exact FD109
 have hX1:=Fx hq1.out (w+1) 5 [↑i,.slice a1 n1 c1,.slice a2 n2 c2] (fun l _ j hj=>hno l j hj);have hX2:=Fx hq2.out (w+1) 5 [↑i,.slice a1 n1 c1,.slice a2 n2 c2] (fun l _ j hj=>hno l j hj);have hBX:=Br hB2 (Ij _) [↑i,.slice a1 n1 c1,.slice a2 n2 c2] 5;have hsX:=Mt w2 (w+1) [↑i,.slice a1 n1 c1,.slice a2 n2 c2] 5;have h0X:(w2.setCells (w+1) 5 [↑i,.slice a1 n1 c1,.slice a2 n2 c2]).rangeAt w.heap.size 0 [.int .i64 0,.int .i64 0,.int .i64 0,.string ⟨#[]⟩,.slice none 0 0,.int .i64 0,.slice none 0 0,.slice none 0 0]:=World.rangeAt_setCells_apart (fun j u hj=>by rw [Bh,Ab gW j];simpa using hj) _ _ _ (.inl oM);have h0f:∀ j,(w2.setCells (w+1) 5 [↑i,.slice a1 n1 c1,.slice a2 n2 c2]).frozen? ⟨w,j,none⟩=false:=fun j=>by rw [World.frozen?_setCells];exact A9 gW j
 have hi8:(prog.info? 29).map (·.size)=some 8:=kR;have hi3:(prog.info? 27).map (·.size)=some 3:=kR;have hall:(#[↑i,.slice a1 n1 c1,.slice a2 n2 c2]:Array ZC).all (·.oneCell')=true:=Ec (cs:=[↑i,.slice a1 n1 c1,.slice a2 n2 c2]) (by intro u hu;simp only [A8,Az,Df] at hu;rcases hu with rfl|rfl|rfl <;> rfl);replace hall:=Aa hall;have W1:=Aa lJ;have W2:=Aa hrX;clear lJ hrX rl rr hr2 hno hblk2 gW;replace hX1:=hX1.mono (Jq hsX.symm);replace hX2:=hX2.mono (Jq hsX.symm);have T3:=Aa (T2.out _ hBX hX1 hX2);replace hX1:=Aa hX1;replace hX2:=Aa hX2;replace hBX:=Aa hBX;replace hsX:=Aa hsX;replace h0X:=Aa h0X;replace h0f:=Aa h0f;clear T2 hb2 hq1 hq2 hB2;go_wp2_with (first|refine Ef rfl 27 _ _ rfl (w+1) 5 #[↑i,.slice a1 n1 c1,.slice a2 n2 c2] rfl rfl W1.out hi3 hall.out ?_|refine Bf rfl 29 _ rfl (w+1) 0 rfl [↑v.authority,↑v.number,↑v.pos,↑v.prev,.slice aa N ca,↑i,.slice a1 n1 c1,.slice a2 n2 c2] _ W2.out underlying29 rfl hi8 ?_)
 refine T3.out.mono ?_;rintro e w3 ⟨rfl,hb3⟩;have rG:=hBX.out;have qh:=hsX.out;have hx1:=hX1.out;have hx2:=hX2.out;have hr3:w3.rangeAt (w+1) 0 [↑v.authority,↑v.number,↑v.pos,↑v.prev,.slice aa N ca,↑i,.slice a1 n1 c1,.slice a2 n2 c2]:=Cg W2.out hb3 (by rw [qh];omega);have h03:=Cg h0X.out hb3 (by rw [qh];omega);have hf3:∀ j,w3.frozen? ⟨w,j,none⟩=false:=fun j=>(hb3.frozen (p:=⟨w,j,none⟩) (by rw [qh];show w.heap.size<_;omega)).trans (h0f.out j);clear T3 W1 W2 h0X h0f hall hi3;generalize w2.setCells (w+1) 5 [↑i,.slice a1 n1 c1,.slice a2 n2 c2]=X at *;have hB3:Below w w w3:=rG.trans (hb3.mono rG.size);have hy1:=(hx1.below hb3 nR).mono hb3.size;have hy2:=(hx2.below hb3 nR).mono hb3.size;have hth:w3.there w 0 8:=fun j hj=>⟨by
  obtain⟨u,hu⟩:∃ u,([.int .i64 0,.int .i64 0,.int .i64 0,.string ⟨#[]⟩,.slice none 0 0,.int .i64 0,.slice none 0 0,.slice none 0 0]:List ZC)[j]?=some u:=⟨_,Ad hj⟩
  rw [h03 j u hu];rfl,hf3 _⟩
 have hno:∀ (l:List UInt8),l≠[]->∀ (j:Nat),j<8->w3.cell? ⟨w,0+j,none⟩≠some (aA l):=fun l hl j hj e=>by exact FD37
 have hz1:=Aa (Fx hy1 w 0 [↑v.authority,↑v.number,↑v.pos,↑v.prev,.slice aa N ca,↑i,.slice a1 n1 c1,.slice a2 n2 c2] (fun l hl j hj=>hno l (h3 l hl) j hj));have hz2:=Aa (Fx hy2 w 0 [↑v.authority,↑v.number,↑v.pos,↑v.prev,.slice aa N ca,↑i,.slice a1 n1 c1,.slice a2 n2 c2] (fun l hl j hj=>hno l (h4 l hl) j hj));have hall:(#[↑v.authority,↑v.number,↑v.pos,↑v.prev,.slice aa N ca,↑i,.slice a1 n1 c1,.slice a2 n2 c2]:Array ZC).all (·.oneCell')=true:=Ec (cs:=[↑v.authority,↑v.number,↑v.pos,↑v.prev,.slice aa N ca,↑i,.slice a1 n1 c1,.slice a2 n2 c2]) (by intro u hu;simp only [A8,Az,Df] at hu;rcases hu with rfl|rfl|rfl|rfl|rfl|rfl|rfl|rfl <;> rfl);exact FD10
theorem Len (v:CH.Version) (i h:Nat) (secret m t:List UInt8) (va:ZC) (w:ZB) (hG:Gc w) (hA:aN w w v ⟨va,.slice none 0 0,.slice none 0 0⟩) (hv:v.sel=⟨0,[],[]⟩) (hn:v.number=(i:Int)+1) (hm:CH.message v=.ok m) (hs:secret.length<=1000000) (hh:h<=8) (hi:i<2 ^ h) (ht:bZ { v with sel:=⟨i,CH.sig secret i m,CH.path (CH.keys secret h) i⟩ }=.ok t) (h1:Fd (CH.sig secret i m)) (h2:Fd (CH.path (CH.keys secret h) i)) (h3:∀ l∈CH.sig secret i m,l≠[]) (h4:∀ l∈CH.path (CH.keys secret h) i,l≠[]) : Calls prog 6 #[↑v.authority,↑v.number,↑v.pos,↑v.prev,va,↑secret,↑h] w (Oer w { v with sel:=⟨i,CH.sig secret i m,CH.path (CH.keys secret h) i⟩ }) :=
 (El8 v i h secret m _ va w hG hA hv hn hm hs hh hi ht (fun _ h=>by cases h) h1 h2 h3 h4).mono fun e w' hR=>by
  obtain⟨hb,⟨s,e1,e2,_⟩|⟨er,_,e2⟩⟩:=hR
  ·exact⟨s,e1,e2,hb⟩
  ·cases e2
def gJ (v:CH.Version) (key:List UInt8):Bool:=match bZ v with
 |.error _=>false
 |.ok _=>v.sel.index==v.number - 1&&Mp key (CH.msg v) v.sel.index v.sel.sig v.sel.path
theorem Z2 (v:CH.Version) (s:dI) (key:List UInt8) (w:ZB) (hG:Gc w) (h:aN w w v s) : Calls prog 9 #[.agg (Al v s).toArray,↑key] w (Ret w (.bool (gJ v key))):=by
 obtain⟨R,hR⟩:∃ R,Hid (gJ v key=R):=⟨_,Aa rfl⟩
 rw [hR.out];have hR1:=hR.out;unfold gJ at hR1;have hB0:=fun o=>(Ac _ w).alloc nR o;have HV:=Aa fun (W:ZB) (hb:Below w w W)=>(h.below hb nR).mono hb.size;have T:=fun (W:ZB) (hb:Below w w W)=>Lk v s W (hG.below hb) (HV.out W hb);have M:=fun (W:ZB) (hb:Below w w W)=>Lt v s W (hG.below hb) (HV.out W hb);obtain⟨x,hx⟩:∃ x,bZ v=x:=⟨_,rfl⟩
 have herr:∀ e,x=.error e->e≠0:=fun e he=>by exact FD118
 have hnum:∀ y,x=.ok y->1<=v.number/\v.number<=200:=fun y hy=>by obtain⟨u,hu⟩:=Sk (hx.trans hy);have:=Is4 hu;omega
 simp only [V6] at M;have hml:=Ino v;generalize Bwb (CH.message v)=me at M;generalize CH.msg v=mm at M hR1 hml;rw [hx] at hR1 T;have HS:=Aa h.small;have V:=fun (W:ZB) (hb:Below w w W)=>Geo key mm v.sel.index s.v1 s.v2 v.sel.sig v.sel.path W (hG.below hb).gl (Af hml dC) (HV.out W hb).sig (HV.out W hb).path (fun l hl=>Af (HS.out.sig.2 l hl) dC) (fun l hl=>Af (HS.out.path.2 l hl) dC) HS.out.index;obtain⟨va,v1,v2⟩:=s;clear h hx hR;dsimp only [Al] at T M V ⊢;have T:=Aa T;have M:=Aa M;have V:=Aa V;go_enter func9,ntmps9;go_wp2_with fail;refine (T.out _ (hB0 _)).mono ?_;rintro e w1 ⟨rfl,hb1⟩;have hB1:Below w w w1:=(hB0 _).trans (hb1.mono sM);have hblk:=(hb1.block w sM).trans (Ap w _);have hlt1:w.heap.size<w1.heap.size:=(aZ hblk)
 have k0:w1.cell? ⟨w,0,none⟩=some ↑v.authority:=Ab hblk 0;have k1:w1.cell? ⟨w,1,none⟩=some ↑v.number:=Ab hblk 1;have k2:w1.cell? ⟨w,2,none⟩=some ↑v.pos:=Ab hblk 2;have k3:w1.cell? ⟨w,3,none⟩=some ↑v.prev:=Ab hblk 3;have k4:w1.cell? ⟨w,4,none⟩=some va:=Ab hblk 4;have k5:w1.cell? ⟨w,5,none⟩=some ↑v.sel.index:=Ab hblk 5;have k6:w1.cell? ⟨w,6,none⟩=some v1:=Ab hblk 6;have k7:w1.cell? ⟨w,7,none⟩=some v2:=Ab hblk 7;clear T hb1;cases x with
 |error e =>
  dsimp only [It];dsimp only at hR1;have q:(e==0)=false:=by simpa using herr e rfl
  replace hR1:=Aa hR1;clear herr hnum hblk M V;go_wp2;go_ret;exact⟨by rw [<- hR1.out];rfl,hB1⟩
 |ok y =>
  have hn:=hnum y rfl;dsimp only [It];dsimp only at hR1;replace hR1:=Aa hR1;clear herr hnum;by_cases hi:v.sel.index=v.number - 1
  ·have q1:(v.sel.index==v.number - 1)=true:=by simpa using hi
   have hR2:Hid (Mp key mm v.sel.index v.sel.sig v.sel.path=R):=Aa (by rw [<- hR1.out,q1];rfl);clear hR1 hi;go_wp2_with fail;refine (M.out _ hB1).mono ?_;rintro e w2 ⟨rfl,hb2⟩;have hB2:Below w w w2:=hB1.trans (hb2.mono hB1.size);have hblk2:=(hb2.block w hlt1).trans hblk;have m5:w2.cell? ⟨w,5,none⟩=some ↑v.sel.index:=Ab hblk2 5;have m6:w2.cell? ⟨w,6,none⟩=some v1:=Ab hblk2 6;have m7:w2.cell? ⟨w,7,none⟩=some v2:=Ab hblk2 7;clear M k0 k1 k2 k3 k4 k5 k6 k7 hblk hblk2;exact FD91
  ·have q1:(v.sel.index==v.number - 1)=false:=by simpa using hi
   have hR2:Hid (false=R):=Aa (by rw [<- hR1.out,q1];rfl);clear hR1 M V hblk;go_wp2;go_ret;exact⟨by rw [<- hR2.out];rfl,hB1⟩
end
end Go.Proofs.YtdgmgjeoikcgbaaGreatDoor
namespace CH
section
def CU:Act:=⟨0,⟨0,[],⟨[],[]⟩,0⟩,⟨[],[],0,[],.mk 0 [] 0 0 [],0,0,0⟩,⟨[],[],[],0,0,0,0⟩,⟨[],[],[],[],[],[],0,0,0,0⟩,[],0⟩
def iD (n:Int):Act:={ CU with kind:=7,id:=[104,49],n:=n }
def l7:Act:={ CU with kind:=6,holding:=⟨[104,49],[112,49],[112,48],[],[],[],60,51,0,-1⟩ }
def sS:Str:=[115]
def kK (number pos:Int) (prev:Str) (acts:List Act):Version:=⟨0,number,pos,prev,acts,⟨0,[],[]⟩⟩
def sealed (i:Nat) (v:Version) (m:Str):Version:={ v with sel:=⟨i,sig sS i m,path (keys sS 1) i⟩ }
def jO:Str:=pub sS 1
def m1:Str:=[49,53,51,102,50,53,51,99,54,48,57,98,102,50,57,97]
def m2:Str:=[48,51,57,50,98,52,53,97,52,98,98,54,50,56,51,51]
def m3:Str:=[51,56,98,97,54,56,53,102,97,98,52,55,57,57,56,102]
def m4:Str:=[97,97,56,50,51,52,51,48,99,102,51,49,98,55,54,53]
def rP:Version:=kK 1 100 [] [iD 1]
def yC:Version:=kK 2 100 m1 [iD 2]
def ny:Version:=kK 1 100 [] [iD 3]
def rQ:Version:=kK 2 99 m1 []
def jI:Version:=sealed 0 rP m1
def oN:Version:=sealed 1 yC m2
def iC:Version:=sealed 0 ny m3
def ng:Version:=sealed 1 rQ m4
theorem rW {v:Version} {m:Str} (h:(match message v with|.error _=>false|.ok x=>x==m)=true):message v=.ok m:=by
 split at h;·cases h
 ·rename_i x e;rw [e,D7.1 h]
theorem pJ:message rP=.ok m1:=rW (by decide +kernel)
theorem tZ:message yC=.ok m2:=rW (by decide +kernel)
theorem nU:message ny=.ok m3:=rW (by decide +kernel)
theorem qG:message rQ=.ok m4:=rW (by decide +kernel)
theorem jm (i:Nat) (v:Version) (m:Str) (h:v.sel=⟨0,[],[]⟩):message (sealed i v m)=message v:=by obtain⟨_,_,_,_,_,_⟩:=v;dsimp only at h;subst h;rfl
theorem Aab {v:Version} (h:(match bZ v with|.error _=>false|.ok _=>true)=true):∃ t,bZ v=.ok t:=by
 split at h;·cases h
 ·rename_i x e;exact⟨x,e⟩
theorem kN:∃ t,bZ jI=.ok t:=Aab (by decide +kernel)
theorem nM:∃ t,bZ oN=.ok t:=Aab (by decide +kernel)
theorem kM:∃ t,bZ iC=.ok t:=Aab (by decide +kernel)
theorem mW:∃ t,bZ ng=.ok t:=Aab (by decide +kernel)
end
end CH
namespace Go.Proofs.YtdgmgjeoikcgbaaGreatDoor
section
open CH
theorem Yd (secret m:List UInt8) (h i:Nat) (hh:h<=8) (hi:i<2 ^ h):Mp (CH.pub secret h) m (i:Int) (CH.sig secret i m) (CH.path (CH.keys secret h) i)=true:=by
 have hs:=jU secret i m;have hp:=jH (CH.keys secret h) i;have ht:=nP (CH.keys secret h) i (gK secret i) (vM secret h i hi);rw [CH.length_keys] at ht;unfold Mp;rw [qL,jo,kE];have q1:((CH.sig secret i m).any fun l=>!ay l)=false:=by rw [Iq];intro x hx;rw [hs x hx];decide
 have q2:((CH.path (CH.keys secret h) i).any fun l=>!ay l)=false:=by rw [Iq];intro x hx;rw [hp x hx];decide
 have q3:ZH ((i:Int)<2 ^ h)=true:=by rw [Bl];have:=Int.ofNat_lt.2 hi;rwa [Int.natCast_pow] at this
 rw [q1,q2,q3,Int.toNat_natCast];rw [show ZH (h<=8)=true from Aj hh,show ZH ((0:Int)<=(i:Int))=true from Aj oM];unfold CH.pub;rw [ht];simp
theorem Mrm {v:CH.Version} {key t:List UInt8} (ht:bZ v=.ok t):gJ v key=(v.sel.index==v.number - 1&&Mp key (CH.msg v) v.sel.index v.sel.sig v.sel.path):=by unfold gJ;rw [ht]
theorem S8 {i:Nat} {v:CH.Version} {m:List UInt8} (hi:i<2) (hv:v.sel=⟨0,[],[]⟩) (hn:v.number=(i:Int)+1) (hm:CH.message v=.ok m) (ht:∃ t,bZ (CH.sealed i v m)=.ok t):gJ (CH.sealed i v m) jO=true:=by
 obtain⟨t,ht⟩:=ht;have hmm:CH.msg (CH.sealed i v m)=m:=by unfold CH.msg;rw [jm i v m hv,hm]
 have e1:(CH.sealed i v m).sel.index=(i:Int):=by simp only [CH.sealed]
 have e2:(CH.sealed i v m).number=v.number:=rfl;have e3:(CH.sealed i v m).sel.sig=CH.sig sS i m:=by simp only [CH.sealed]
 have e4:(CH.sealed i v m).sel.path=CH.path (CH.keys sS 1) i:=by simp only [CH.sealed]
 rw [Mrm ht,hmm,e1,e2,e3,e4,hn];have:=Yd sS m 1 i dC hi;unfold jO;rw [this,I5,D7];omega
theorem B10:gJ jI jO=true:=S8 (i:=0) (v:=rP) (m:=CH.m1) dC rfl rfl pJ kN
theorem Lnb:gJ oN jO=true:=S8 (i:=1) (v:=yC) (m:=CH.m2) dC rfl rfl tZ nM
theorem Fix:gJ iC jO=true:=S8 (i:=0) (v:=ny) (m:=CH.m3) dC rfl rfl nU kM
theorem Lnr:gJ ng jO=true:=S8 (i:=1) (v:=rQ) (m:=CH.m4) dC rfl rfl qG mW
theorem Xd {i:Nat} {v:CH.Version} {m:List UInt8} (hv:v.sel=⟨0,[],[]⟩) (hm:CH.message v=.ok m):CH.msg (CH.sealed i v m)=m:=by unfold CH.msg;rw [jm i v m hv,hm]
theorem zq:CH.msg jI=CH.m1:=Xd (i:=0) (v:=rP) (m:=CH.m1) rfl pJ
theorem Nsx:CH.msg iC=CH.m3:=Xd (i:=0) (v:=ny) (m:=CH.m3) rfl nU
def hK:List (List UInt8):=[jO]
def kC1:CH.Known:=[((0,2),oN)]
def kC2:CH.Known:=[((0,2),oN),((0,1),jI)]
def kD1:CH.Known:=[((0,1),iC)]
def kD2:CH.Known:=[((0,1),iC),((0,2),oN)]
def fC:CH.Forks:=[((0,1),(jI,iC))]
def fD:CH.Forks:=[((0,1),(iC,jI))]
def kX1:CH.Known:=[((0,1),jI)]
def kX2:CH.Known:=[((0,1),jI),((0,2),ng)]
theorem Z3 {known:CH.Known} {forks:CH.Forks} {v:CH.Version} (ha:v.authority=0) (ht:∃ t,bZ v=.ok t) (hc:gJ v jO=true) (hl:dY (v.authority,v.number) known=none) : lD gJ hK known forks v=(0,known++[((v.authority,v.number),v)],forks):=by exact FD78
theorem B7c {known:CH.Known} {forks:CH.Forks} {v old:CH.Version} (ha:v.authority=0) (ht:∃ t,bZ v=.ok t) (hc:gJ v jO=true) (hl:dY (v.authority,v.number) known=some old) : lD gJ hK known forks v=if (CH.bare old).getD []==(CH.bare v).getD [] then (0,known,forks) else (17,known,kV (v.authority,v.number) (old,v) forks):=by exact FD78
theorem Jul:((CH.bare jI).getD []==(CH.bare iC).getD [])=false:=by
 have h:((CH.bare rP).getD []==(CH.bare ny).getD [])=false:=by decide +kernel
 exact h
theorem rO:((CH.bare iC).getD []==(CH.bare jI).getD [])=false:=by
 have h:((CH.bare ny).getD []==(CH.bare rP).getD [])=false:=by decide +kernel
 exact h
theorem BZ:lD gJ hK [] [] oN=(0,kC1,[]):=Z3 rfl nM Lnb rfl
theorem BU:lD gJ hK kC1 [] jI=(0,kC2,[]):=Z3 rfl kN B10 rfl
theorem BR:lD gJ hK kC2 [] jI=(0,kC2,[]):=by rw [B7c (old:=jI) rfl kN B10 rfl,Ar sM]
theorem BQ:lD gJ hK kC2 [] iC=(17,kC2,fC):=by rw [B7c (old:=jI) rfl kM Fix rfl,Jul];rfl
theorem BP:lD gJ hK [] [] iC=(0,kD1,[]):=Z3 rfl kM Fix rfl
theorem BN:lD gJ hK kD1 [] jI=(17,kD1,fD):=by rw [B7c (old:=iC) rfl kN B10 rfl,rO];rfl
theorem BM:lD gJ hK kD1 fD oN=(0,kD2,fD):=Z3 rfl nM Lnb rfl
theorem BL:lD gJ hK [] [] jI=(0,kX1,[]):=Z3 rfl kN B10 rfl
theorem BK:lD gJ hK kX1 [] ng=(0,kX2,[]):=Z3 rfl mW Lnr rfl
theorem Uj (msg:CH.Version->List UInt8) (known:CH.Known) (a:Int) (f:Nat) (out:List CH.Version) (hd:List UInt8) (last:Int) (h:dY (a,(out.length:Int)+1) known=none):CH.follow msg known a (f+1) out hd last=(out,hd):=by rw [CH.follow,h]
theorem Xq (msg:CH.Version->List UInt8) (known:CH.Known) (a:Int) (f:Nat) (out:List CH.Version) (hd:List UInt8) (last:Int) (v:CH.Version) (h:dY (a,(out.length:Int)+1) known=some v) (hc:(v.prev != hd||ZH (v.pos<last))=true):CH.follow msg known a (f+1) out hd last=(out,hd):=by rw [CH.follow,h];dsimp only;rw [Ar hc]
theorem Z0 (msg:CH.Version->List UInt8) (known:CH.Known) (a:Int) (f:Nat) (out:List CH.Version) (hd:List UInt8) (last:Int) (v:CH.Version) (h:dY (a,(out.length:Int)+1) known=some v) (hc:(v.prev != hd||ZH (v.pos<last))=false):CH.follow msg known a (f+1) out hd last=CH.follow msg known a f (out++[v]) (msg v) v.pos:=by rw [CH.follow,h];dsimp only;rw [Ah (by rw [hc];decide)]
theorem BG:(fol CH.msg kC1 0).1.length=0:=by unfold fol;rw [Uj _ _ _ 200 _ _ _ rfl];rfl
theorem BF:(fol CH.msg kC2 0).1.length=2:=by unfold fol;rw [Z0 _ _ _ 200 _ _ _ jI rfl rfl,Z0 _ _ _ 199 _ _ _ oN rfl (by rw [zq];decide +kernel),Uj _ _ _ 198 _ _ _ rfl];rfl
theorem BD:(fol CH.msg kD2 0).1.length=1:=by unfold fol;rw [Z0 _ _ _ 200 _ _ _ iC rfl rfl,Xq _ _ _ 199 _ _ _ oN rfl (by rw [Nsx];decide +kernel)];rfl
theorem BA:(fol CH.msg kX2 0).1.length=1:=by unfold fol;rw [Z0 _ _ _ 200 _ _ _ jI rfl rfl,Xq _ _ _ 199 _ _ _ ng rfl (by rw [zq];decide +kernel)];rfl
theorem Lgt:aQ l7=some ([104,111,108,100,105,110,103,32,104,49,32,112,49,32,112,48,32,45,32,45,32,54,48,32,53,49,32,48,32,45,59]:List UInt8):=by
 have h:(match aQ l7 with|none=>false|some t=>t==([104,111,108,100,105,110,103,32,104,49,32,112,49,32,112,48,32,45,32,45,32,54,48,32,53,49,32,48,32,45,59]:List UInt8))=true:=by decide +kernel
 split at h;·cases h
 ·rename_i t e;rw [e,D7.1 h]
end
section
open Go.Lib Go.Proofs.Tryz Go.RowKit Go.Shelf Go.Sort CH
attribute [local irreducible] wpQuiet
theorem Kd8 (w:ZB) (o1 o2:Obj) (n:Nat) : Below w w (((((((w.alloc o1).alloc o2).alloc (.cells #[.int .i64 0,.slice none 0 0,.slice none 0 0] 27)).drewN n).setCell ⟨w+1+1,0,none⟩ (.int .i64 0)).setCell ⟨w+1+1,1,none⟩ (.slice none 0 0)).setCell ⟨w+1+1,2,none⟩ (.slice none 0 0)) /\ (((((((w.alloc o1).alloc o2).alloc (.cells #[.int .i64 0,.slice none 0 0,.slice none 0 0] 27)).drewN n).setCell ⟨w+1+1,0,none⟩ (.int .i64 0)).setCell ⟨w+1+1,1,none⟩ (.slice none 0 0)).setCell ⟨w+1+1,2,none⟩ (.slice none 0 0)).heap[w.heap.size+1+1]?=some (.cells #[.int .i64 0,.slice none 0 0,.slice none 0 0] 27 (0,0)):=by
 have hb:=Go.below_drewN (Es (Es (Es (Ac _ w) nR o1) sM o2) (by simp;omega) (.cells #[.int .i64 0,.slice none 0 0,.slice none 0 0] 27)) n;have g:((((w.alloc o1).alloc o2).alloc (.cells #[.int .i64 0,.slice none 0 0,.slice none 0 0] 27)).drewN n).heap[w.heap.size+1+1]?=some (.cells #[.int .i64 0,.slice none 0 0,.slice none 0 0] 27 (0,0)):=by rw [World.heap_drewN];have:=Ap ((w.alloc o1).alloc o2) (.cells #[.int .i64 0,.slice none 0 0,.slice none 0 0] 27);rwa [Dn,Dn] at this
 generalize (((w.alloc o1).alloc o2).alloc (.cells #[.int .i64 0,.slice none 0 0,.slice none 0 0] 27)).drewN n=W at *;refine⟨((hb.setCell (by simp;omega) _).setCell (by simp;omega) _).setCell (by simp;omega) _,?_⟩;have g0:=Be W (w+1+1) 0 (.int .i64 0) _ _ _ g;have g1:=Be _ (w+1+1) 1 (.slice none 0 0) _ _ _ g0;have g2:=Be _ (w+1+1) 2 (.slice none 0 0) _ _ _ g1;simpa using g2
theorem Ch4 (secret m:List UInt8) (h:Int) (i:Nat) (w:ZB) (hbad:h<0\/8<h\/∃ k:Nat,h=k/\k<=8/\2 ^ k<=i) : Calls prog 23 #[↑secret,↑h,↑i,↑m] w (Ret w (.tuple #[.agg #[.int .i64 0,.slice none 0 0,.slice none 0 0],.int .i64 1])):=by
 rcases hbad with hbad|hbad|⟨k,rfl,hk,hbad⟩;have d1:ZH (h<0)=true:=Aj hbad;rotate_left;have d1:ZH (h<0)=false:=Ak oM;have d2:ZH (8<h)=true:=Aj hbad;rotate_left;have d1:ZH ((k:Int)<0)=false:=sM;have d2:ZH ((8:Int)<(k:Int))=false:=by simp;omega
 have d3:ZH ((i:Int)<0)=false:=sM;have hw64:=Lz k hk;have d4:ZH ((2:Int) ^ k<=(i:Int))=true:=by rw [decide_eq_true_iff,show ((2:Int) ^ k)=((2 ^ k:Nat):Int) from by simp];omega
 have hh0:(0:Int)<=(k:Int):=oM;all_goals
  refine (Ir (n:=4)).1 ?_;refine callsIn_of_wp_marks func23 rfl trivial ?_ rfl;simp only [ntmps23,Hu,Ba,Bj,Nat.reduceAdd,Nat.reduceSub,Ho,Hg,H9,Hq,Dp,Dv];refine Lj.2 ?_;go_wp2_with fail;go_quiet (fail);go_wp2_with fail;have zb:=Kd8 w (.cells #[↑secret] 9) (.cells #[↑i] 3) nq;generalize World.setCell _ _ _=X at *;obtain⟨hbX,hX⟩:=zb;have k0:=Ab hX 0;have k1:=Ab hX 1;have k2:=Ab hX 2;simp only [Gt,Eu,Ew] at k0 k1 k2;refine⟨.tuple #[.agg #[.int .i64 0,.slice none 0 0,.slice none 0 0],.int .i64 1],?_,?_⟩;·simp [results,Tryz.f23,go_sem,k0,k1,k2]
  ·exact⟨rfl,hbX⟩
end
section
open Go.Lib Go.Proofs.Tryz Go.RowKit Go.Shelf Go.Sort CH
theorem Tp {P:Program} {W:ZB} {name:String} {k:IntKind} {zs:List Int} {g:Nat} {t e:TypeId} {n:Nat} (hg:P.globalNamed name=some g) (hty:(P.globals[g]?).map (·.type)=some t) (ht:P.underlying t=some (.array n e)) (he:P.underlying e=some (.int k)) (hce:P.cellsOf e=1) (hct:P.cellsOf t=n) (h:VarReads P W name (tabData k zs)):TabIs P W name k zs:=by obtain⟨g',t',cs,fuel,p,hg',ht',hvar,hd⟩:=h;obtain rfl:=Ic (hg.symm.trans hg');obtain rfl:=Ic (hty.symm.trans ht');unfold TabIs;rw [hvar,<- cells_of_tab ht he hce hct hd]
def BH:List Int:=[0,1,56,2,57,49,28,3,61,58,42,50,38,29,17,4,62,47,59,36,45,43,51,22,53,39,33,30,24,18,12,5,63,55,48,27,60,41,37,16,46,35,44,21,52,32,23,11,54,26,40,15,34,20,31,10,25,14,19,9,13,8,7,6]
def Mrs:Ren:=⟨Tryz.lays274_ren.f,Tryz.lays274_ren.t,fun|13=>8|n=>n⟩
theorem Loc:Lays.n274 prog Mrs:={ lays274 with }
theorem Hte {W:ZB} (h:laidMetH prog Rows.chainMakesAsReferenceRow.laid W):Gc W:=by
 rw [MakeChecks.laidMetH_plain _ _ _ kR] at h;have r1:VarReads prog W "math/bits.deBruijn64tab" (tabData .u8 BH):=Lib.laidMet.reads h (.tail _ (.head _));have r2:VarReads prog W "internal/strconv.uint64pow10" (tabData .u64 Lib.pow10Tab):=Lib.laidMet.reads h (.tail _ (.tail _ (.head _)));have r3:VarReads prog W "unicode/utf8.acceptRanges" acceptData:=Lib.laidMet.reads h (.tail _ (.tail _ (.tail _ (.head _))));have ec:Go.Pinned.caseRanges=caseData:=kR;have ef:Go.Pinned.utf8First=firstData:=kR;have r6:VarReads prog W "unicode.CaseRanges" caseData:=ec ▸ Lib.laidMet.reads h (.tail _ (.tail _ (.tail _ (.tail _ (.tail _ (.tail _ (.head _)))))));have r7:VarReads prog W "unicode/utf8.first" firstData:=ef ▸ Lib.laidMet.reads h (.tail _ (.tail _ (.tail _ (.tail _ (.tail _ (.tail _ (.tail _ (.head _))))))));have t1:TabIs prog W "math/bits.deBruijn64tab" .u8 BH:=Tp (g:=5) kR rfl rfl rfl kR kR r1;have t2:TabIs prog W "internal/strconv.uint64pow10" .u64 Lib.pow10Tab:=Tp (g:=0) kR rfl rfl rfl kR kR r2;have u8:Lib.Utf8Tabs 2 3 W:=utf8Tabs_of_reads { lays260 with } ⟨kR,kR,kR,kR,kR,kR,kR⟩ r7 r3;have cv:Lib.CaseVar 8 Lib.caseA W:=caseVar_of_reads Loc underlying352 ⟨kR,kR,kR,kR,kR,kR⟩ r6;have h9:9<=W.heap.size:=by obtain⟨R,oR,cap,h1,_⟩:=cv;have:=Em W _ h1;exact this
 exact⟨⟨h9,t1.cell kR 15 dC,t2,u8⟩,cv⟩
end
end Go.Proofs.YtdgmgjeoikcgbaaGreatDoor
