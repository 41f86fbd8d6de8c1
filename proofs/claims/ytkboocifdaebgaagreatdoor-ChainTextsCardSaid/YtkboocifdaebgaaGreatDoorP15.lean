/- ChainTexts, part 16 of 31. -/
import Derived.Test.YtkboocifdaebgaaGreatDoorP13
set_option linter.all false
set_option maxHeartbeats 40000000
set_option maxRecDepth 100000
open Go renaming World -> ZB, Value -> ZC
open Decidable renaming decide -> ZH
namespace Go.Proofs.Y
section
open Go.Lib Go.Proofs.Tryz Go.RowKit Go.Shelf Go.Sort CH
variable {s:CH.St} {b:Nat} {w:ZB} {T:TypeId}
def Hh (s:CH.St):Prop:=∀ L,s=some L->∀ t∈L,t.text.length<=20000
theorem M4 (h:Hh s):Hh (CH.shift s).2/\(CH.shift s).1.text.length<=20000:=by
 match s,h with
 |none,_=>exact⟨fun L e=>(by cases e),Ak _⟩
 |some [],_=>exact⟨fun L e=>(by cases e),Ak _⟩
 |some (t::L),h =>refine⟨fun M e=>?_,h _ rfl t sM⟩;cases e;exact fun x hx=>h _ rfl x (Bv _ hx)
theorem N6 {b:Bool} (h:Hh s):Hh (iR b s):=by
 unfold iR;split;·exact fun L e=>by cases e
 ·exact h
def Bit (part:CH.St->CH.Formula × CH.St):Prop:=∀ s,Hh s->Ct (part s).1/\Hh (part s).2
theorem All {part:CH.St->CH.Formula × CH.St} {w:Q00} (hp:Bit part):∀ (f:Nat) (s:CH.St),Hh s->Cp (CH.more part w f s).1/\Hh (CH.more part w f s).2
 |0,s,h=>⟨by unfold CH.more Cp;trivial,h⟩
 |_+1,none,h=>⟨by unfold CH.more Cp;trivial,h⟩
 |_+1,some [],h=>⟨by unfold CH.more Cp;trivial,h⟩
 |f+1,some (t::L),h=>by
  have h1:Hh (some L):=fun M e=>by
   cases e
   exact fun x hx=>h _ rfl x (Bv _ hx)
  obtain⟨p1,p2⟩:=hp _ h1
  obtain⟨q1,q2⟩:=All (w:=w) hp f _ p2
  unfold CH.more
  split
  ·refine⟨?_,q2⟩
   unfold Cp
   exact⟨p1,q1⟩
  ·exact⟨by unfold Cp;trivial,h⟩
theorem Nd {part:CH.St->CH.Formula × CH.St} {op:Int} {w:Q00} (hp:Bit part) (f:Nat):Bit (fA part op w f):=fun s h=>by
 obtain⟨p1,p2⟩:=hp s h;obtain⟨q1,q2⟩:=All (w:=w) hp f _ p2;refine⟨?_,q2⟩;unfold fA;dsimp only;generalize (CH.more part w f (part s).2).1=l at *;cases l with
 |nil=>exact p1
 |cons y l =>show Ct (.mk op [] 0 0 (_::y::l));unfold Ct Cp;exact⟨Ak _,p1,q1⟩
theorem Ss:∀ k,Bit (CH.one k)
 |0=>fun s h=>⟨by unfold CH.one ji Ct Cp;exact⟨Nat.zero_le _,trivial⟩,fun L e=>by cases e⟩
 |k+1=>fun s h=>by
  obtain⟨s1,s2⟩:=M4 h
  obtain⟨p1,p2⟩:=Ss k _ s1
  obtain⟨q1,q2⟩:=Nd (op:=6) (w:=([111,114]:Q00)) (Nd (op:=5) (w:=([97,110,100]:Q00)) (Ss k) k) k _ s1
  have hz:∀ op:Int,Ct (.mk op [] 0 0 []):=fun op=>by unfold Ct Cp;exact⟨Nat.zero_le _,trivial⟩
  have hw:(fZ (CH.shift s).1).length<=20000:=by
   unfold fZ
   split
   ·exact s2
   ·exact Ak _
  unfold CH.one
  split
  ·refine⟨?_,p2⟩
   unfold Ct Cp
   exact⟨Ak _,p1,by unfold Cp;trivial⟩
  split
  ·exact⟨hz 1,s1⟩
  split
  ·exact⟨hz 2,s1⟩
  split
  ·exact⟨q1,N6 (M4 q2).1⟩
  split
  ·exact⟨hz 0,fun L e=>by cases e⟩
  ·unfold qJ
   dsimp only
   refine⟨?_,N6 (N6 (M4 (N6 (M4 s1).1)).1)⟩
   unfold Ct Cp
   exact⟨hw,trivial⟩
def Ds (p:Nat) (m:Int) (W:ZB) (r:CH.Formula × CH.St) (e:Ending) (W':ZB):Prop := ∃ vk,e=.returned (.agg (An r.1 vk))/\Held [p] W W'/\Par p W' r.2 m/\Ax W' (era W W') r.1 vk
def Uq (g p:Nat) (m:Int) (k:Nat) (part:CH.St->CH.Formula × CH.St):Prop:=∀ (s:CH.St) (W:ZB),s.size<k->Hh s->Par p W s m->Calls prog g #[.pointer (some ⟨p,0,none⟩)] W (Ds p m W (part s))
theorem Ff.one {base:Nat} {f:CH.Formula} {vk:ZC} (hk:Ax w (era base w) f vk) (hb:base<=w.heap.size):Ff base (w.alloc (.cells (An f vk) 58)) (.slice (some ⟨w,0,none⟩) 1 1) [f]:=by refine⟨[(f,vk)],rfl,⟨rfl,.inr ⟨w,1,An f vk,rfl,hb,Ag w _,Au _,by unfold maxLen;decide,rfl,rfl⟩⟩,fun x hx=>?_⟩;rw [Ad] at hx;subst hx;refine Ax.cells hk (Hi fun p u hp hq=>?_) sM;have hlt:=Bd w p hp;refine⟨(((Ac _ w).alloc nR _).cell hlt).trans hp,?_⟩;simp only [Ez,Dl,ne_eq];refine⟨hq,fun e=>?_⟩;have e':w.heap.size=p.block:=Gh e;omega
theorem Held.yL {w':ZB} {row:Option Nat} (h:w.grownBy w' row):Held row.toList w w' := ⟨h.os,h.tape,h.output,h.size,fun k hk hR=>h.block k hk fun e=>hR (by rw [<- e];simp)⟩
theorem Held.wider {R Q:List Nat} {w1 w2:ZB} (h:Held R w w1) (h':Held Q w1 w2) (hQ:∀ r∈Q,w.heap.size<=r):Held R w w2 := ⟨h'.os.trans h.os,h'.tape.trans h.tape,h'.output.trans h.output,Aj h.size h'.size,fun k hk hR=>(h'.block k (Af hk h.size) fun hr=>by have:=hQ k hr;omega).trans (h.block k hk hR)⟩
theorem Ff.rows {base:Nat} {v:ZC} {fs:List CH.Formula} (h:Ff base w v fs):∀ r∈v.ownBlock.toList,base<=r/\r<w.heap.size:=fun r hr=>by
 obtain⟨xs,_,h2,_⟩:=h;rcases Cy h2 with⟨rfl,_⟩|⟨g,cap,rfl,h1,h2,_⟩;·cases hr
 ·simp [Value.ownBlock] at hr;omega
theorem Xv (g p:Nat) (m op:Int) (wd:Q00) (k:Nat) (part:CH.St->CH.Formula × CH.St) (eg:∀ args w,(callFunc g args).run prog w=.ok (.enter g args) w) (hP:Uq g p m k part) (hsz:∀ s,(part s).2.size<=s.size) (hsh:Bit part) (s:CH.St) (W:ZB) (hk:s.size<k) (hk2:k<=100000) (hs:Hh s) (h:Par p W s m) : Calls prog 296 #[.pointer (some ⟨p,0,none⟩),↑op,↑wd,.func (.func g) #[.pointer (some ⟨p,0,none⟩)] #[]] W (Ds p m W (fA part op wd k s)):=by
 have hlt:=h.lt;have A:=fun o=>Aa (hP s (W.alloc o) hk hs (h.below ((Ac _ W).alloc nR o)));have hsz1:=hsz s;have IY:=hsh s hs;obtain⟨R,hR⟩:=nac (fA part op wd k s);rw [hR.out];have hl0:Hid ((nY op (part s).1 (CH.more part wd k (part s).2).1,(CH.more part wd k (part s).2).2)=R):=hR;clear hR;generalize hr:part s=r at *;obtain⟨f0,s1⟩:=r;dsimp only at hsz1 IY hl0;clear hr;go_in;go_wp2_with fail;refine (A _).out.mono ?_;rintro e w1 ⟨vk,rfl,hh1,hP1,hK1⟩;dsimp only [An];go_wp2_with fail;have hs1:W.heap.size<w1.heap.size:=Af sM hh1.size;have g1:=(hh1.block W sM naf).trans (Ag W _);have hH1:=((Held.refl [p] W).alloc _).trans hh1;rw [Df] at hK1;go_loopg [9] (s1.size+1) (fun gk ov wr=>∃ (ys:List CH.Formula) (sr:CH.St) (f:Nat),sr.size<f/\sr.size<gk/\sr.size+ys.length<=s1.size/\Hid ((nY op f0 (ys++(CH.more part wd f sr).1),(CH.more part wd f sr).2)=R)/\Hh sr/\Par p wr sr m/\Ff (W+1) wr ov (f0::ys)/\Held [p] W wr /\ wr.heap[W.heap.size]?=some (.cells #[.int .i64 0,.string ⟨#[]⟩,.int .i64 0,.int .i64 0,.slice none 0 0] 58 (0,0)));case atStart =>
  refine⟨[],s1,k,oM,oM,sM,Aa (by rw [Eu];exact hl0.out),IY.2,hP1.below ((Ac _ _).alloc nR _),?_,hH1.alloc _,?_⟩;·exact Ff.one hK1 hs1
  ·exact (((Ac _ w1).alloc nR _).block _ hs1).trans g1
 case round =>
  obtain⟨ys,sr,f,hf,hgk,hys,hl,hsr,hPr,hO,hHr,hg⟩:=hrel;obtain⟨f,rfl⟩:∃ f',f=f'+1:=⟨f - 1,oM⟩
  have hlr:=hHr.size;have hpl:=hPr.lt;have hWr:W.heap.size<wr.heap.size:=(aZ hg)
  obtain⟨av,cv,rfl,hcv⟩:=hO.form;by_cases hgo:∃ t L,sr=some (t::L)/\CH.isWord wd t=true
  ·obtain⟨t,L,rfl,hw⟩:=hgo;have hsL:CH.St.size (some (t::L))=L.length+1:=rfl;rw [hsL] at hf hgk hys;have IZ:Hh (some L):=fun M e=>by cases e;exact fun x hx=>hsr _ rfl x (Bv _ hx)
   have hl2:Hid ((nY op f0 ((ys++[(part (some L)).1])++(CH.more part wd f (part (some L)).2).1),(CH.more part wd f (part (some L)).2).2)=R):=Aa (by
    rw [<- hl.out];conv=>rhs;unfold CH.more
    rw [Ah hw,Dk];rfl)
   have T:=Aa (M6 p (some (t::L)) m wr hPr);have DF:=hsz (some L);have IW:=hsh _ IZ;have PC:=fun (w2:ZB) (h2:Par p w2 (some L) m)=>Aa (hP (some L) w2 (show L.length<k by omega) IZ h2);generalize part (some L)=r at *;obtain⟨f1,s2⟩:=r;dsimp only at DF IW hl2;have DF:s2.size<=L.length:=DF;obtain⟨v,e0,a0,hb,rfl,ht⟩:=hPr;obtain⟨bv,dv,rfl,hc1,hc2⟩:=ht.form;obtain⟨b,off,rfl,hbp,hn,h1,h2,hcell,_⟩:=ht.tail;rw [Ap] at *;have c0:=Ab hb 0;simp at c0;have d0:=by simpa using hcell 0 _ rfl
   have d3:=hcell 3 _ rfl;unfold CH.isWord at hw;rw [Aq,Eh,Eh] at hw;have k1:((t.kind:Int)==1)=true:=by rw [hw.1];rfl
   have k2:((⟨t.text.toArray⟩:ByteArray)==⟨wd.toArray⟩)=true:=by rw [Fr];simpa using hw.2
   clear hl hcell ht hb A hl0 hh1 hP1 hK1 g1 hH1;go_wp2_with fail;refine T.out.mono ?_;rintro e w2 ⟨rfl,hh2,hP2⟩;have hH2:=hHr.trans hh2;have hO2:=hO.held hh2 fun r hr=>by rw [Ad] at hr;omega
   have hg2:=(hh2.block W oM naf).trans hg;have TW:=hh2.size;have PC:=PC w2 hP2;clear T hO hHr hg hh2 hP2;go_wp2_with fail;refine PC.out.mono ?_;rintro e w3 ⟨vk3,rfl,hh3,hP3,hK3⟩;dsimp only at hP3 hK3 ⊢;have hH3:=hH2.trans hh3;have hO3:=hO2.held hh3 fun r hr=>by rw [Ad] at hr;omega
   have hg3:=(hh3.block W oM naf).trans hg2;have hrow:=hO2.rows;have TV:=hh3.size;obtain⟨o,ho⟩:=nad (Obj.cells (An f1 vk3) 58);have hb4:Below w3 w3 (w3.alloc o):=(Ac _ w3).alloc nR o;have hO4:=hO3.held (Held.of_below (R:=[]) hb4) fun r hr=>by cases hr
   have hK4:Ax (w3.alloc o).heap.size (Kk (but (W+1) (.slice av (ys.length+1) cv)) (w3.alloc o)) f1 vk3 := Ax.newer (hK3.cells (Sh (Held.of_below (R:=[]) hb4) fun r hr=>by cases hr) sM) oM fun r hr=>(hrow r (by rw [hr];simp)).2;have hcell:∀ j u,(An f1 vk3)[j]?=some u->(w3.alloc o).cell? ⟨w3,j,none⟩=some u:=fun j u hj=>by rw [ho,Ab (Ag w3 _) j];exact hj
   have hP4:=hP3.below hb4;have hg4:=(hb4.block W oM).trans hg3;have hH4:=hH3.alloc o;have zU:(w3.alloc o).heap.size=w3.heap.size+1:=sM;clear hO2 hO3 hK3 hg2 hg3 hH2 hH3 hP3 hh3 PC;subst ho;dsimp only [An];dsimp only [An] at hb4 hO4 hK4 hP4 hg4 hH4 zU hcell;go_wp2_with (refine Hd1 rfl _ _ rfl (W+1) _ (f0::ys) rfl hO4 w3 1 f1 vk3 rfl hcell hK4 naf oM ?_;intro v5 w5 hO5 hg5 hv5)
   have hh5:Held (Value.slice av (ys.length+1) cv).ownBlock.toList _ w5:=Held.yL hg5;have QB:=(hh5.block W (by rw [zU];omega) fun hr=>by have:=(hrow _ hr).1;omega).trans hg4;have hP5:=hP4.held hh5 fun r hr=>by have:=(hrow _ hr).1;omega
   have hH5:=hH4.wider hh5 fun r hr=>by have:=(hrow _ hr).1;omega
   go_roundg (s2.size+1);case measure=>omega
   case rel=>exact⟨ys++[f1],s2,f,oM,oM,by simp;omega,hl2,IW.2,hP5,hO5,hH5,QB⟩
  ·have hm:CH.more part wd (f+1) sr=([],sr):=by
    match sr,hgo with
    |none,_=>rfl
    |some [],_=>rfl
    |some (t::L),hgo =>unfold CH.more;rw [Ai fun e=>hgo ⟨t,L,rfl,e⟩]
   have hR:R=(nY op f0 ys,sr):=by rw [<- hl.out,hm,Fj]
   subst hR;have hstop:(∃ a c,wr.cell? ⟨p,0,none⟩=some (.slice a 0 c))\/∃ (b off n c:Nat) (kd:Int) (tx:Q00),wr.cell? ⟨p,0,none⟩=some (.slice (some ⟨b,off,none⟩) (n+1) c)/\n+1<=c/\c<=9223372036854775807/\wr.cell? ⟨b,off,none⟩=some ↑kd/\wr.cell? ⟨b,off+3,none⟩=some ↑tx/\((kd==1)=false\/(kd==1)=true/\(tx==wd)=false):=by
    obtain⟨v,e0,a0,hb,hs0⟩:=hPr;have c0:=Ab hb 0;simp at c0;match sr,hgo,hs0 with
    |none,_,hs0 =>rw [hs0.2] at c0;exact .inl ⟨_,_,c0⟩
    |some [],_,hs0 =>obtain⟨a,c,rfl,_⟩:=hs0.2.form;exact .inl ⟨_,_,c0⟩
    |some (t::L),hgo,hs0 =>
     obtain⟨_,ht⟩:=hs0;obtain⟨bv,dv,rfl,hc1,hc2⟩:=ht.form;obtain⟨b,off,rfl,hbp,hn,h1,h2,hcell,_⟩:=ht.tail;refine .inr ⟨b,off,L.length,dv,t.kind,t.text,c0,hc1,hc2,by simpa using hcell 0 _ rfl,hcell 3 _ rfl,?_⟩;by_cases hk1:t.kind=1
     ·refine .inr ⟨by rw [hk1];rfl,?_⟩;cases hx:t.text==wd with
      |false=>rfl
      |true =>refine absurd ⟨t,L,rfl,?_⟩ hgo;unfold CH.isWord;rw [hx,hk1];rfl
     ·exact .inl naf
   have fz:=Ao hg;have e0:=Ab hg 0;have e1:=Ab hg 1;have e2:=Ab hg 2;have e3:=Ab hg 3;have e4:=Ab hg 4;simp at e0 e1 e2 e3 e4;have fin:∀ (F:CH.Formula) (vk':ZC) (W':ZB),Ax wr (era (W+1) wr) F vk'->Held [W.heap.size] wr W'->Ds p m W (F,sr) (.returned (.agg (An F vk'))) W':=fun F vk' W' hk' hh' =>
    ⟨vk',rfl,hHr.wider hh' (fun r hr=>by rw [Ad] at hr;omega),hPr.held hh' (fun r hr=>by rw [Ad] at hr;omega),
     Ax.kept (Eg (Iy _)) _ _ (hk'.cells (Bw hh' fun r hr=>by rw [Ad] at hr;omega) hh'.size)⟩
   clear hl hm hgo hf hgk hys hsr A hl0 hh1 hP1 hK1 g1 hH1 hP hsz hsh;cases ys with
   |nil =>
    obtain⟨g1,vk1,rfl,_,hg1,hc1,hk1⟩:=hO.first;obtain⟨ak,ck,rfl,_⟩:=hk1.form;have q0:wr.cell? ⟨g1,0,none⟩=some ↑f0.op:=hc1 0 _ rfl;have q1:wr.cell? ⟨g1,1,none⟩=some ↑f0.name:=hc1 1 _ rfl;have q2:wr.cell? ⟨g1,2,none⟩=some ↑f0.cmp:=hc1 2 _ rfl;have q3:wr.cell? ⟨g1,3,none⟩=some ↑f0.n:=hc1 3 _ rfl;have q4:wr.cell? ⟨g1,4,none⟩=some (.slice ak f0.kids.length ck):=hc1 4 _ rfl;clear hc1 hO;rcases hstop with⟨a,c,c0⟩|⟨b,off,n,c,kd,tx,c0,hn1,hc2,d0,d3,k1|⟨k1,k2⟩⟩;all_goals
     go_wp2;refine Ck 58 W.heap.size (An f0 (.slice ak f0.kids.length ck)).toList rfl rfl ?_ underlying58 rfl kR (fin f0 _ _ hk1 ?_);·rw [Al _ _ _ _ _ _ _ (Al _ _ _ _ _ _ _ (Al _ _ _ _ _ _ _ (Al _ _ _ _ _ _ _ (Al _ _ _ _ _ _ _ hg))))];rfl
     ·exact ((((((Held.refl _ _).setCell _ _ hWr).setCell _ _ hWr).setCell _ _ hWr).setCell _ _ hWr).setCell _ _ hWr)
   |cons y ys =>
    have hk1:=hO.kids op [] 0 0;rcases hstop with⟨a,c,c0⟩|⟨b,off,n,c,kd,tx,c0,hn1,hc2,d0,d3,k1|⟨k1,k2⟩⟩;all_goals
     go_wp2;refine Ck 58 W.heap.size (An (nY op f0 (y::ys)) (.slice av ((y::ys).length+1) cv)).toList rfl rfl ?_ underlying58 rfl kR (fin (nY op f0 (y::ys)) _ _ hk1 ?_);·rw [Al _ _ _ _ _ _ _ (Al _ _ _ _ _ _ _ (Al _ _ _ _ _ _ _ (Al _ _ _ _ _ _ _ (Al _ _ _ _ _ _ _ hg))))];rfl
     ·exact ((((((Held.refl _ _).setCell _ _ hWr).setCell _ _ hWr).setCell _ _ hWr).setCell _ _ hWr).setCell _ _ hWr)
theorem Ds.up {p:Nat} {m:Int} {W w1 w2:ZB} {F:CH.Formula} {vk:ZC} {n:Nat} (hlt:p<W.heap.size) (hh:Held [p] W w1) (hP:Par p w1 s m) (hK:Ax w1 (era n w1) F vk) (hn:W.heap.size<n) (h2:Held [W.heap.size] w1 w2) : Ds p m W (F,s) (.returned (.agg (An F vk))) w2 :=
 ⟨vk,rfl,hh.wider h2 (fun r hr=>by rw [Ad] at hr;omega),hP.held h2 (fun r hr=>by rw [Ad] at hr;omega),
  Ax.kept (Eg (Dy hn)) _ _ (hK.cells (Bw h2 fun r hr=>by rw [Ad] at hr;omega) h2.size)⟩
theorem Isi (args:Array ZC) (w:ZB):(callFunc 313 args).run prog w=.ok (.enter 313 args) w:=enters_of func313 kR rfl args w
theorem I28 (args:Array ZC) (w:ZB):(callFunc 297 args).run prog w=.ok (.enter 297 args) w:=enters_of func297 kR rfl args w
theorem Cf {v0 v1 v2 v3 v4 u0 u1 u2 u3 u4:ZC} (h:w.heap[b]?=some (.cells #[v0,v1,v2,v3,v4] T (0,0))) : (((((w.setCell ⟨b,0,none⟩ u0).setCell ⟨b,1,none⟩ u1).setCell ⟨b,2,none⟩ u2).setCell ⟨b,3,none⟩ u3).setCell ⟨b,4,none⟩ u4).heap[b]?=some (.cells #[u0,u1,u2,u3,u4] T (0,0)):=by exact FD95
theorem Cd (hb:b<w.heap.size) (u0 u1 u2 u3 u4:ZC) : Held [b] w (((((w.setCell ⟨b,0,none⟩ u0).setCell ⟨b,1,none⟩ u1).setCell ⟨b,2,none⟩ u2).setCell ⟨b,3,none⟩ u3).setCell ⟨b,4,none⟩ u4) := ((((((Held.refl _ _).setCell _ _ hb).setCell _ _ hb).setCell _ _ hb).setCell _ _ hb).setCell _ _ hb)
theorem Zz (p:Nat) (m:Int) (k:Nat) (hk2:k<=100000) (hP:Uq 313 p m k (CH.one k)):Uq 297 p m k (nH k):=fun s W hk hs h=>by have hlt:=h.lt;have A:=fun o=>Aa (Xv _ p m 5 ([97,110,100]:Q00) k _ Isi hP (nU k) (Ss k) s (W.alloc o) hk hk2 hs (h.below ((Ac _ W).alloc nR o)));have hmf:∀ (fn:Fn) (first cap:Array ZC) (w:ZB),(Instr.makeFunc fn first cap).run prog w=.ok (.func fn first cap) w:=fun _ _ _ _=>rfl;change Calls _ _ _ _ (Ds p m W (fA (CH.one k) 5 ([97,110,100]:Q00) k s));generalize fA (CH.one k) 5 ([97,110,100]:Q00) k s=R at *;obtain⟨F,s'⟩:=R;go_in;go_wp2_with fail;refine (A _).out.mono ?_;rintro e w1 ⟨vk,rfl,hh1,hP1,hK1⟩;dsimp only at hP1 hK1 ⊢;have hs1:W.heap.size<w1.heap.size:=Af sM hh1.size;have g1:=(hh1.block W sM naf).trans (Ag W _);have hH1:=((Held.refl [p] W).alloc _).trans hh1;rw [Df] at hK1;obtain⟨ak,ck,rfl,_⟩:=hK1.form;have fz:=Ao g1;have e0:=Ab g1 0;have e1:=Ab g1 1;have e2:=Ab g1 2;have e3:=Ab g1 3;have e4:=Ab g1 4;simp at e0 e1 e2 e3 e4;clear A hh1;dsimp only [An];go_wp2;exact Ck 58 W.heap.size (An F (.slice ak F.kids.length ck)).toList rfl rfl (Cf g1) underlying58 rfl kR (Ds.up hlt hH1 hP1 hK1 (Cm _) (Cd hs1 _ _ _ _ _))
theorem Rl (p:Nat) (m:Int) (k:Nat) (hk2:k<=100000) (hP:Uq 297 p m k (nH k)):Uq 259 p m k (dL k):=fun s W hk hs h=>by have hlt:=h.lt;have A:=fun o=>Aa (Xv _ p m 6 ([111,114]:Q00) k _ I28 hP (yD k) (Nd (Ss k) k) s (W.alloc o) hk hk2 hs (h.below ((Ac _ W).alloc nR o)));have hmf:∀ (fn:Fn) (first cap:Array ZC) (w:ZB),(Instr.makeFunc fn first cap).run prog w=.ok (.func fn first cap) w:=fun _ _ _ _=>rfl;change Calls _ _ _ _ (Ds p m W (fA (nH k) 6 ([111,114]:Q00) k s));generalize fA (nH k) 6 ([111,114]:Q00) k s=R at *;obtain⟨F,s'⟩:=R;go_in;go_wp2_with fail;refine (A _).out.mono ?_;rintro e w1 ⟨vk,rfl,hh1,hP1,hK1⟩;dsimp only at hP1 hK1 ⊢;have hs1:W.heap.size<w1.heap.size:=Af sM hh1.size;have g1:=(hh1.block W sM naf).trans (Ag W _);have hH1:=((Held.refl [p] W).alloc _).trans hh1;rw [Df] at hK1;obtain⟨ak,ck,rfl,_⟩:=hK1.form;have fz:=Ao g1;have e0:=Ab g1 0;have e1:=Ab g1 1;have e2:=Ab g1 2;have e3:=Ab g1 3;have e4:=Ab g1 4;simp at e0 e1 e2 e3 e4;clear A hh1;dsimp only [An];go_wp2;exact Ck 58 W.heap.size (An F (.slice ak F.kids.length ck)).toList rfl rfl (Cf g1) underlying58 rfl kR (Ds.up hlt hH1 hP1 hK1 (Cm _) (Cd hs1 _ _ _ _ _))
theorem Wm (B:Nat) (w:ZB) (op:Int) (name:Q00) (cmp n:Int):Ax B w (.mk op name cmp n []) (.slice none 0 0):=by unfold Ax;exact FD83
theorem Hym (h:(CH.shift s).1.kind≠0):(CH.shift s).2.size+1=s.size:=by
 match s,h with
 |none,h=>exact absurd rfl h
 |some [],h=>exact absurd rfl h
 |some (t::L),_=>rfl
theorem Co {x o:Obj} (h:w.heap[b]?=some x):(w.alloc o).heap[b]?=some x := (((Ac _ w).alloc nR o).block b (aZ h)).trans h
theorem Held.allocs {R:List Nat} {w':ZB} {o:Obj} (h:Held R w w') (hs:w'.heap.size=w.heap.size):Held R (w.alloc o) (w'.alloc o):=by
 refine⟨h.os,h.tape,h.output,by simp [hs],fun k hk hR=>?_⟩;rw [Df] at hk;by_cases e:k<w.heap.size;·exact ((((Ac _ w').alloc nR o).block k oM).trans (h.block k e hR)).trans (((Ac _ w).alloc nR o).block k e).symm
 ·have e1:k=w.heap.size:=oM;have h1:=Ag w' o;rw [hs,<- e1] at h1;rw [h1,e1];exact (Ag w o).symm
theorem H0 {X:ZB} {t:Q03} {z:Nat × Nat} (h:X.heap[b]?=some (.cells (A7 t).toArray T z)) : X.cell? ⟨b,0,none⟩=some ↑t.kind/\X.cell? ⟨b,1,none⟩=some ↑t.pos/\X.cell? ⟨b,2,none⟩=some ↑t.n/\X.cell? ⟨b,3,none⟩=some ↑t.text := ⟨Ab h 0,Ab h 1,Ab h 2,Ab h 3⟩
theorem Bk {X:ZB} {v0 v1 v2 v3 v4:ZC} {z:Nat × Nat} (h:X.heap[b]?=some (.cells #[v0,v1,v2,v3,v4] T z)) : X.cell? ⟨b,0,none⟩=some v0/\X.cell? ⟨b,1,none⟩=some v1/\X.cell? ⟨b,2,none⟩=some v2/\X.cell? ⟨b,3,none⟩=some v3/\X.cell? ⟨b,4,none⟩=some v4 := ⟨Ab h 0,Ab h 1,Ab h 2,Ab h 3,Ab h 4⟩
theorem Mg (t:Q03):∀ v∈A7 t,v.oneCell'=true:=fun v hv=>by simp [A7] at hv;rcases hv with rfl|rfl|rfl|rfl <;> rfl
def Zh:List ByteArray:=[⟨#[]⟩,⟨([61]:Q00).toArray⟩,⟨([33,61]:Q00).toArray⟩,⟨([60]:Q00).toArray⟩,⟨([60,61]:Q00).toArray⟩,⟨([62]:Q00).toArray⟩,⟨([62,61]:Q00).toArray⟩]
theorem Pla (s:Q00):Lib.idxOfS (Zh.take 7) ⟨s.toArray⟩=nG s:=by
 have e:∀ l:Q00,((⟨l.toArray⟩:ByteArray)=⟨s.toArray⟩)=(s=l):=fun l=>by
  rw [eq_iff_iff];constructor;·intro h;have:=congrArg (fun b:ByteArray=>b.data.toList) h;simpa using this.symm
  ·rintro rfl;rfl
 unfold nG;simp only [Zh,List.take,Lib.idxOfS,Lib.idxFromS,e];rfl
theorem Ggn (p:Nat) (m:Int) (k:Nat) (hk2:k<=100000) (hP:Uq 313 p m k (CH.one k)) (hE:Uq 259 p m k (dL k)):Uq 313 p m (k+1) (CH.one (k+1)):=fun s W hk hs h=>by
 have hlt:=h.lt;have T:=fun o=>Aa (M6 p s m (W.alloc o) (h.below ((Ac _ W).alloc nR o)));obtain⟨R,hR⟩:=nac (CH.one (k+1) s);rw [hR.out];have hR1:=hR.out;unfold CH.one at hR1;have hless:=Hym (s:=s);obtain⟨hs1,htl⟩:=M4 hs;change (if _ then _ else if _ then _ else if _ then _ else if _ then ((dL k (CH.shift s).2).1,iR ((CH.shift (dL k (CH.shift s).2).2).1.kind != 4||(CH.shift (dL k (CH.shift s).2).2).1.text != [41]) (CH.shift (dL k (CH.shift s).2).2).2) else if _ then _ else _)=R at hR1;clear hR h hs;generalize hsh:CH.shift s=r at *;obtain⟨t,s1⟩:=r;dsimp only at *;clear hsh;have IH:=fun (W':ZB) (h1:s1.size<k) (h2:Par p W' s1 m)=>Aa (hP s1 W' h1 hs1 h2);have EI:=fun (W':ZB) (h1:s1.size<k) (h2:Par p W' s1 m)=>Aa (hE s1 W' h1 hs1 h2);clear hP hE;go_in;go_wp2_with fail;refine (T _).out.mono ?_;rintro e w1 ⟨rfl,hh1,hP1⟩;have hz1:W.heap.size<w1.heap.size:=Af sM hh1.size;have g1:=(hh1.block W sM naf).trans (Ag W _);have hH1:=((Held.refl [p] W).alloc _).trans hh1;have f0:=Ao g1;have e0:=Ab g1 0;have e1:=Ab g1 1;have e2:=Ab g1 2;have e3:=Ab g1 3;have e4:=Ab g1 4;simp at e0 e1 e2 e3 e4;have hne:W.heap.size≠w1.heap.size:=Iu hz1;dsimp only [mG];clear T hh1;have hK0:∀ (op:Int) (name:Q00) (cmp n:Int) (w:ZB),Ax w (era (W+1) w) (.mk op name cmp n []) (.slice none 0 0):=fun op name cmp n w=>Wm _ _ _ _ _ _;by_cases hk1:t.kind=1
 ·have k1:((t.kind:Int)==1)=true:=by rw [hk1];rfl
  have hw:fZ t=t.text:=by unfold fZ;rw [if_pos hk1]
  rw [hw] at hR1;by_cases c1:t.text=([110,111,116]:Q00)
  ·rw [Ah c1] at hR1;subst hR1;have q1:(t.text==([110,111,116]:Q00))=true:=by simpa using c1
   have hb:=hless oM;have PC:=fun o=>IH (w1.alloc o) oM (hP1.below ((Ac _ w1).alloc nR o));generalize CH.one k s1=r at *;obtain⟨F,s2⟩:=r;clear IH EI hP1;go_wp2_with fail;refine (PC _).out.mono ?_;rintro e w2 ⟨vk,rfl,hh2,hP2,hK2⟩;dsimp only at hP2 hK2 ⊢;have hz2:W.heap.size<w2.heap.size:=Af naf hh2.size;have g2:=(hh2.block W naf naf).trans (Co g1);have hH2:=(hH1.alloc _).trans hh2;rw [Df] at hK2;have hO:=Ff.one (base:=W.heap.size+1) (Ax.kept (Eg oM) _ _ hK2) hz2;have hK3:=hO.kids 4 [] 0 0;have hP3:=hP2.below ((Ac _ w2).alloc nR (.cells (An F vk) 58));have hH3:=hH2.alloc (.cells (An F vk) 58);have f0':=Ao g2;have e0':=Ab g2 0;have e1':=Ab g2 1;have e2':=Ab g2 2;have e3':=Ab g2 3;have e4':=Ab g2 4;simp at e0' e1' e2' e3' e4';have hne':W.heap.size≠w2.heap.size:=Iu hz2;dsimp only [An] at hK3 hP3 hH3 ⊢;clear hO PC hh2 hP2 hK2 hH2 f0 e0 e1 e2 e3 e4;go_wp2;refine Ck 58 W.heap.size (An (.mk 4 [] 0 0 [F]) (.slice (some ⟨w2,0,none⟩) 1 1)).toList rfl rfl (Co (Cf g2)) underlying58 rfl kR (Ds.up hlt hH3 hP3 hK3 (Cm _) ((Cd hz2 _ _ _ _ _).allocs sM))
  by_cases c2:t.text=([116,114,117,101]:Q00)
  ·rw [Ai c1,Ah c2] at hR1;subst hR1;have q2:(t.text==([116,114,117,101]:Q00))=true:=by simpa using c2
   go_wp2;refine Ck 58 W.heap.size (An (.mk 1 [] 0 0 []) (.slice none 0 0)).toList rfl rfl (Co (Cf g1)) underlying58 rfl kR (Ds.up hlt hH1 hP1 (hK0 _ _ _ _ _) (Cm _) ((Cd hz1 _ _ _ _ _).alloc _))
  by_cases c3:t.text=([102,97,108,115,101]:Q00)
  ·rw [Ai c1,Ai c2,Ah c3] at hR1;subst hR1;have q3:(t.text==([102,97,108,115,101]:Q00))=true:=by simpa using c3
   go_wp2;refine Ck 58 W.heap.size (An (.mk 2 [] 0 0 []) (.slice none 0 0)).toList rfl rfl (Co (Cf g1)) underlying58 rfl kR (Ds.up hlt hH1 hP1 (hK0 _ _ _ _ _) (Cm _) ((Cd hz1 _ _ _ _ _).alloc _))
  rw [Ai c1,Ai c2,Ai c3,Ai (by rw [hk1];rintro⟨h,_⟩;omega)] at hR1;have q1:(t.text==([110,111,116]:Q00))=false:=by simpa using c1
  have q2:(t.text==([116,114,117,101]:Q00))=false:=by simpa using c2
  have q3:(t.text==([102,97,108,115,101]:Q00))=false:=by simpa using c3
  have k4:((t.kind:Int)==4)=false:=by rw [hk1];rfl
  by_cases c4:t.text=[]
  ·rw [Ah (by simp [c4])] at hR1;subst hR1;have PF:=fun o=>Aa (Iv p s1 m 5 t.pos (w1.alloc o) dC (hP1.below ((Ac _ w1).alloc nR o)));have c4:(t.text==[])=true:=by simp [c4]
   clear IH EI hP1;go_wp2_with fail;refine (PF _).out.mono ?_;rintro e w2 ⟨rfl,hh2,hP2⟩;have hz2:W.heap.size<w2.heap.size:=Af naf hh2.size;have g2:=(hh2.block W naf naf).trans (Co g1);have hH2:=(hH1.alloc _).trans hh2;have f0':=Ao g2;have e0':=Ab g2 0;have e1':=Ab g2 1;have e2':=Ab g2 2;have e3':=Ab g2 3;have e4':=Ab g2 4;simp at e0' e1' e2' e3' e4';clear f0 e0 e1 e2 e3 e4 PF hh2;go_wp2;exact Ck 58 W.heap.size (An (.mk 0 [] 0 0 []) (.slice none 0 0)).toList rfl rfl (Cf g2) underlying58 rfl kR (Ds.up hlt hH2 hP2 (hK0 _ _ _ _ _) (Cm _) (Cd hz2 _ _ _ _ _))
  ·have q4:(t.text==[])=false:=by simpa using c4
   have KY:=fun o=>Aa (Q3 t.text (w1.alloc o));cases ck:CH.isKey t.text with
   |true =>
    rw [Ah (by simp [ck])] at hR1;subst hR1;rw [ck] at KY;have PF:=fun w3 (hb:Below w1 w1 w3)=>Aa (Iv p s1 m 5 t.pos w3 dC (hP1.below hb));clear IH EI;go_wp2_with fail;refine (KY _).out.mono ?_;rintro e w3 ⟨rfl,hb3⟩;have hb1:=((Ac _ w1).alloc nR _).trans (hb3.mono sM);have g3:=(hb3.block W naf).trans (Co g1);have gt:=(hb3.block w1 sM).trans (Ag w1 _);have ct:=Ab gt 1;simp at ct;have hH3:=(hH1.alloc _).trans (Held.of_below hb3);have hz3:W.heap.size<w3.heap.size:=(aZ g3)
    clear KY hb3 gt;go_wp2_with fail;refine (PF _ hb1).out.mono ?_;rintro e w2 ⟨rfl,hh2,hP2⟩;have hz2:W.heap.size<w2.heap.size:=Af hz3 hh2.size;have g2:=(hh2.block W hz3 naf).trans g3;have hH2:=hH3.trans hh2;have f0':=Ao g2;have e0':=Ab g2 0;have e1':=Ab g2 1;have e2':=Ab g2 2;have e3':=Ab g2 3;have e4':=Ab g2 4;simp at e0' e1' e2' e3' e4';clear f0 e0 e1 e2 e3 e4 PF hh2;go_wp2;exact Ck 58 W.heap.size (An (.mk 0 [] 0 0 []) (.slice none 0 0)).toList rfl rfl (Cf g2) underlying58 rfl kR (Ds.up hlt hH2 hP2 (hK0 _ _ _ _ _) (Cm _) (Cd hz2 _ _ _ _ _))
   |false =>
    rw [Ai (by simp [c4,ck])] at hR1;rw [ck] at KY;have hne1:W.heap.size≠w1.heap.size:=hne;have T2:=fun w5 (h5:Par p w5 s1 m)=>Aa (M6 p s1 m w5 h5);have T3:=Aa fun (w:ZB) (s':CH.St) (h:Par p w s' m)=>M6 p s' m w h;have PF:=Aa fun (w:ZB) (s':CH.St) (e a:Int) (he:e≠0) (h:Par p w s' m)=>Iv p s' m e a w he h;unfold qJ at hR1;dsimp only at hR1;generalize CH.shift s1=r at *;obtain⟨t2,s2⟩:=r;dsimp only at hR1 T2;clear IH EI;go_wp2_with fail;refine (KY _).out.mono ?_;rintro e w3 ⟨rfl,hb3⟩;have hb1:=((Ac _ w1).alloc nR _).trans (hb3.mono sM);have g3:=(hb3.block W naf).trans (Co g1);have gt:=(hb3.block w1 sM).trans (Ag w1 _);have hH3:=(hH1.alloc _).trans (Held.of_below hb3);have hP3:=hP1.below hb1;have hz3:w1.heap.size<w3.heap.size:=(aZ gt)
    clear KY hb3 hb1 hP1 hH1 g1 f0 e0 e1 e2 e3 e4;go_wp2_with fail;refine (T2 _ (hP3.below ((Ac _ w3).alloc nR _))).out.mono ?_;rintro e w5 ⟨rfl,hh5,hP5⟩;have hz5:w3.heap.size<w5.heap.size:=Af sM hh5.size;have g5:=(hh5.block W naf naf).trans (Co g3);have gt5:=(hh5.block w1 naf naf).trans (Co gt);have gf5:=(hh5.block w3 sM naf).trans (Ag w3 _);have hH5:=(hH3.alloc _).trans hh5;dsimp only [mG];clear T2 hh5 hP3 hH3 g3 gt;go_wp2_with (refine Ca rfl 190 _ _ rfl w1 (A7 t2) _ rfl rfl gt5 rfl kR (Mg t2) ?_;intro X gX hX sX;have gX0:=(hX.block W oM naf).trans g5;have gXf:=(hX.block w3 oM naf).trans gf5;have hHX:=hH5.wider hX (fun r hr=>by rw [Ad] at hr;omega);have hPX:=hP5.held hX (fun r hr=>by rw [Ad] at hr;omega);clear hX hH5 hP5 g5 gt5 gf5)
    refine CmZ (Xq X) fun w6 hb6=>?_;dsimp only [Lf];go_wp2_with fail;have b7:=(Ac _ w6).alloc nR (.cells Lf 235);have bX:=hb6.trans (b7.mono hb6.size);have g0:=(bX.block W (aZ gX0)).trans gX0;have gt:=(bX.block w1 (aZ gX)).trans gX;have gf:=(bX.block w3 (aZ gXf)).trans gXf;have gs:=Ag w6 (.cells Lf 235);have hP7:=hPX.below bX;have hH7:=hHX.trans (Held.of_below bX);have hz6:w3.heap.size<w6.heap.size:=Af (aZ gXf) hb6.size;dsimp only [Lf] at g0 gt gf gs hP7 hH7;clear hb6 b7 bX gX0 gX gXf hPX hHX;generalize w6.alloc _=W7 at *;have r3:=A8 (H0 gt).2.2.2;have rs:∀ d os,Calls prog 129 #[.slice (some ⟨w6,0,none⟩) 7 7,↑t2.text] (grow (redrawn W7 d) os) (Ret (grow (redrawn W7 d) os) (.int .i64 (nG t2.text))):=fun d os=>by have:=Tryz.slices_Index_string w6 0 7 7 Zh ⟨t2.text.toArray⟩ (grow (redrawn W7 d) os) dC dC (fun j hj=>by have hj:j<7:=hj;rw [Ba];refine A8 (Ab gs j ▸ ?_) d os;rcases (oM:j=0\/j=1\/j=2\/j=3\/j=4\/j=5\/j=6) with rfl|rfl|rfl|rfl|rfl|rfl|rfl <;> rfl);rw [Pla] at this;exact this.mono fun e w' ⟨h1,h2⟩=>⟨h1,by rw [h2];exact Ac _ _⟩
    replace rs:=Aa rs;generalize nG t2.text=cx at *;refine Ha 5 kR kR ?_;simp only [Hw,Ic,Gx,Gv];repeat (quiet_step (exact Dp (rs.out _ _)))
    refine D8 ?_;intro wq hbq;replace hbq:=Ay hbq;have g0q:=(hbq.block W (aZ g0)).trans g0;have gtq:=(hbq.block w1 (aZ gt)).trans gt;have gfq:=(hbq.block w3 (aZ gf)).trans gf;have hPq:=hP7.below hbq;have hHq:=hH7.trans (Held.of_below hbq);have gfY:=Al wq w3 2 ↑cx _ _ _ gfq;have HY:=(Held.refl [w3.heap.size] wq).setCell 2 ↑cx (aZ gfq);have g0Y:=(HY.block W (aZ g0q) naf).trans g0q;have gtY:=(HY.block w1 (aZ gtq) naf).trans gtq;have hPY:=hPq.held HY fun r hr=>by rw [Ad] at hr;omega
    have hHY:=hHq.wider HY fun r hr=>by rw [Ad] at hr;omega
    obtain⟨t0,t1,_,_⟩:=H0 gtq;have f6:=Ao gfq;obtain⟨y0,y1,y2,y3,y4⟩:=Bk gfq;clear rs r3 hbq g0 gt gf gs hP7 hH7 HY hPq hHq g0q;have zY:w3.heap.size<(wq.setCell ⟨w3,2,none⟩ ↑cx).heap.size:=(aZ gfY)
    obtain⟨sZ,hsZ⟩:=naa (iR (t2.kind != 4||ZH (cx<1)) s2);have c8:(((t2.kind:Int) != 4)=true\/((t2.kind:Int) != 4)=false/\ZH (cx<1)=true)/\sZ=none\/(((t2.kind:Int) != 4)=false/\ZH (cx<1)=false)/\sZ=s2:=by
     rw [<- hsZ];by_cases h4:t2.kind=4
     ·have h4':((t2.kind:Int) != 4)=false:=by rw [h4];rfl
      have h4n:(t2.kind != 4)=false:=by rw [h4];rfl
      cases hx:ZH (cx<1) with
      |true=>exact .inl ⟨.inr ⟨h4',rfl⟩,by rw [h4n];rfl⟩
      |false=>exact .inr ⟨⟨h4',rfl⟩,by rw [h4n];rfl⟩
     ·have h4n:(t2.kind != 4)=true:=by simpa using h4
      exact .inl ⟨.inl naf,by rw [h4n];rfl⟩
    rw [hsZ] at hR1;clear hsZ;obtain⟨⟨t3,s3⟩,hT⟩:∃ q,CH.shift sZ=q:=⟨_,rfl⟩
    rw [hT] at hR1;dsimp only at hR1;obtain⟨sA,hsA⟩:=naa (iR (t3.kind != 2) s3);obtain⟨sB,hsB⟩:=naa (iR (ZH (t3.n > 1000000)) sA);rw [hsA,hsB] at hR1;subst hR1;have c9:(((t3.kind:Int) != 2)=true/\sA=none)\/(((t3.kind:Int) != 2)=false/\sA=s3):=by
     rw [<- hsA];by_cases h4:t3.kind=2;·exact .inr ⟨by rw [h4];rfl,by rw [h4];rfl⟩
     ·have h4n:(t3.kind != 2)=true:=by simpa using h4
      exact .inl ⟨by simp;omega,by rw [h4n];rfl⟩
    have c10:(ZH ((1000000:Int)<(t3.n:Int))=true/\sB=none)\/(ZH ((1000000:Int)<(t3.n:Int))=false/\sB=sA):=by
     rw [<- hsB];by_cases h4:t3.n > 1000000;·exact .inl ⟨by simp;omega,by rw [Di h4];rfl⟩
     ·exact .inr ⟨by simp;omega,by rw [Cj h4];rfl⟩
    clear hsA hsB;rcases c8 with⟨c8,hF⟩|⟨⟨k4,cx1⟩,hF⟩;rotate_left
    ·go_wp2_with fail;have hZP:Par p (wq.setCell ⟨w3,2,none⟩ ↑cx) sZ m:=by rw [hF];exact hPY
     have g0Z:=g0Y;have gtZ:=gtY;have gfZ:=gfY;have hHZ:=hHY;have zZ:=zY;clear hPY g0Y gtY gfY hHY hF t0 t1 y0 y1 y2 y3 y4 f6 gtq gfq;generalize wq.setCell _ _=Z at *;have c8:=trivial;refine (T3.out _ sZ hZP).mono ?_;rw [hT];rintro e V ⟨rfl,hhV,hPV⟩;dsimp only [mG] at hPV ⊢;have g0V:=(hhV.block W oM naf).trans g0Z;have gtV:=(hhV.block w1 oM naf).trans gtZ;have gfV:=(hhV.block w3 oM naf).trans gfZ;have hHV:=hHZ.trans hhV;have zV:=hhV.size;clear hhV hT c8 hZP g0Z gtZ gfZ hHZ T3;rcases c9 with⟨k2,rfl⟩|⟨k2,rfl⟩
     ·rcases c10 with⟨n2,rfl⟩|⟨n2,rfl⟩
      ·go_wp2_with (refine Ca rfl 190 _ _ rfl w1 (A7 t3) _ rfl rfl gtV rfl kR (Mg t3) ?_;intro X gX hX sX;have g0X:=(hX.block W oM naf).trans g0V;have gfX:=(hX.block w3 oM naf).trans gfV;have hHX:=hHV.wider hX (fun r hr=>by rw [Ad] at hr;omega);have hPX:=hPV.held hX (fun r hr=>by rw [Ad] at hr;omega);clear hX;obtain⟨u0,u1,u2,u3⟩:=H0 gX;obtain⟨y0',y1',y2',y3',y4'⟩:=Bk gfX;obtain⟨x0,x1,x2,x3,x4⟩:=Bk g0X;have xf:=Ao g0X;have yf:=Ao gfX)
       refine (PF.out X _ 5 t3.pos dC hPX).mono ?_;rintro e V2 ⟨rfl,fB,qX⟩;have jJ:=(fB.block W oM naf).trans g0X;have pV:=(fB.block w1 oM naf).trans gX;have kN:=(fB.block w3 oM naf).trans gfX;have oK:=hHX.trans fB;have zV2:=fB.size;clear fB u0 u1 u2 u3 y0' y1' y2' y3' y4' x0 x1 x2 x3 x4 xf yf;obtain⟨u0,u1,u2,u3⟩:=H0 pV;obtain⟨y0',y1',y2',y3',y4'⟩:=Bk kN;obtain⟨x0,x1,x2,x3,x4⟩:=Bk jJ;have xf:=Ao jJ;have yf:=Ao kN;go_wp2_with fail;refine (PF.out V2 _ 10 t3.pos dC qX).mono ?_;rintro e V3 ⟨rfl,pR,EY⟩;have wI:=(pR.block W oM naf).trans jJ;have FN:=(pR.block w1 oM naf).trans pV;have zG:=(pR.block w3 oM naf).trans kN;have yB:=oK.trans pR;have zV3:=pR.size;clear pR u0 u1 u2 u3 y0' y1' y2' y3' y4' x0 x1 x2 x3 x4 xf yf;obtain⟨u0,u1,u2,u3⟩:=H0 FN;obtain⟨y0',y1',y2',y3',y4'⟩:=Bk zG;obtain⟨x0,x1,x2,x3,x4⟩:=Bk wI;have xf:=Ao wI;have yf:=Ao zG;go_wp2;have HE:=(Held.refl [w3.heap.size] V3).setCell 3 ↑t3.n oM;have g0E:=(HE.block W oM naf).trans wI;exact Ck 58 W.heap.size (An (.mk 3 t.text cx t3.n []) (.slice none 0 0)).toList rfl rfl (Cf g0E) underlying58 rfl kR (Ds.up hlt (yB.wider HE (fun r hr=>by rw [Ad] at hr;omega)) (EY.held HE (fun r hr=>by rw [Ad] at hr;omega)) (hK0 _ _ _ _ _) (Cm _) (Cd naf _ _ _ _ _))
      ·go_wp2_with (refine Ca rfl 190 _ _ rfl w1 (A7 t3) _ rfl rfl gtV rfl kR (Mg t3) ?_;intro X gX hX sX;have g0X:=(hX.block W oM naf).trans g0V;have gfX:=(hX.block w3 oM naf).trans gfV;have hHX:=hHV.wider hX (fun r hr=>by rw [Ad] at hr;omega);have hPX:=hPV.held hX (fun r hr=>by rw [Ad] at hr;omega);clear hX;obtain⟨u0,u1,u2,u3⟩:=H0 gX;obtain⟨y0',y1',y2',y3',y4'⟩:=Bk gfX;obtain⟨x0,x1,x2,x3,x4⟩:=Bk g0X;have xf:=Ao g0X;have yf:=Ao gfX)
       refine (PF.out X _ 5 t3.pos dC hPX).mono ?_;rintro e V2 ⟨rfl,fB,qX⟩;have jJ:=(fB.block W oM naf).trans g0X;have pV:=(fB.block w1 oM naf).trans gX;have kN:=(fB.block w3 oM naf).trans gfX;have oK:=hHX.trans fB;have zV2:=fB.size;clear fB u0 u1 u2 u3 y0' y1' y2' y3' y4' x0 x1 x2 x3 x4 xf yf;obtain⟨u0,u1,u2,u3⟩:=H0 pV;obtain⟨y0',y1',y2',y3',y4'⟩:=Bk kN;obtain⟨x0,x1,x2,x3,x4⟩:=Bk jJ;have xf:=Ao jJ;have yf:=Ao kN;go_wp2;have HE:=(Held.refl [w3.heap.size] V2).setCell 3 ↑t3.n oM;have g0E:=(HE.block W oM naf).trans jJ;exact Ck 58 W.heap.size (An (.mk 3 t.text cx t3.n []) (.slice none 0 0)).toList rfl rfl (Cf g0E) underlying58 rfl kR (Ds.up hlt (oK.wider HE (fun r hr=>by rw [Ad] at hr;omega)) (qX.held HE (fun r hr=>by rw [Ad] at hr;omega)) (hK0 _ _ _ _ _) (Cm _) (Cd naf _ _ _ _ _))
     ·rcases c10 with⟨n2,rfl⟩|⟨n2,rfl⟩
      ·go_wp2_with (refine Ca rfl 190 _ _ rfl w1 (A7 t3) _ rfl rfl gtV rfl kR (Mg t3) ?_;intro X gX hX sX;have g0X:=(hX.block W oM naf).trans g0V;have gfX:=(hX.block w3 oM naf).trans gfV;have hHX:=hHV.wider hX (fun r hr=>by rw [Ad] at hr;omega);have hPX:=hPV.held hX (fun r hr=>by rw [Ad] at hr;omega);clear hX;obtain⟨u0,u1,u2,u3⟩:=H0 gX;obtain⟨y0',y1',y2',y3',y4'⟩:=Bk gfX;obtain⟨x0,x1,x2,x3,x4⟩:=Bk g0X;have xf:=Ao g0X;have yf:=Ao gfX)
       refine (PF.out X _ 10 t3.pos dC hPX).mono ?_;rintro e V2 ⟨rfl,fB,qX⟩;have jJ:=(fB.block W oM naf).trans g0X;have pV:=(fB.block w1 oM naf).trans gX;have kN:=(fB.block w3 oM naf).trans gfX;have oK:=hHX.trans fB;have zV2:=fB.size;clear fB u0 u1 u2 u3 y0' y1' y2' y3' y4' x0 x1 x2 x3 x4 xf yf;obtain⟨u0,u1,u2,u3⟩:=H0 pV;obtain⟨y0',y1',y2',y3',y4'⟩:=Bk kN;obtain⟨x0,x1,x2,x3,x4⟩:=Bk jJ;have xf:=Ao jJ;have yf:=Ao kN;go_wp2;have HE:=(Held.refl [w3.heap.size] V2).setCell 3 ↑t3.n oM;have g0E:=(HE.block W oM naf).trans jJ;exact Ck 58 W.heap.size (An (.mk 3 t.text cx t3.n []) (.slice none 0 0)).toList rfl rfl (Cf g0E) underlying58 rfl kR (Ds.up hlt (oK.wider HE (fun r hr=>by rw [Ad] at hr;omega)) (qX.held HE (fun r hr=>by rw [Ad] at hr;omega)) (hK0 _ _ _ _ _) (Cm _) (Cd naf _ _ _ _ _))
      ·go_wp2_with (refine Ca rfl 190 _ _ rfl w1 (A7 t3) _ rfl rfl gtV rfl kR (Mg t3) ?_;intro X gX hX sX;have g0X:=(hX.block W oM naf).trans g0V;have gfX:=(hX.block w3 oM naf).trans gfV;have hHX:=hHV.wider hX (fun r hr=>by rw [Ad] at hr;omega);have hPX:=hPV.held hX (fun r hr=>by rw [Ad] at hr;omega);clear hX;obtain⟨u0,u1,u2,u3⟩:=H0 gX;obtain⟨y0',y1',y2',y3',y4'⟩:=Bk gfX;obtain⟨x0,x1,x2,x3,x4⟩:=Bk g0X;have xf:=Ao g0X;have yf:=Ao gfX)
       have HE:=(Held.refl [w3.heap.size] X).setCell 3 ↑t3.n oM;have g0E:=(HE.block W oM naf).trans g0X;exact Ck 58 W.heap.size (An (.mk 3 t.text cx t3.n []) (.slice none 0 0)).toList rfl rfl (Cf g0E) underlying58 rfl kR (Ds.up hlt (hHX.wider HE (fun r hr=>by rw [Ad] at hr;omega)) (hPX.held HE (fun r hr=>by rw [Ad] at hr;omega)) (hK0 _ _ _ _ _) (Cm _) (Cd naf _ _ _ _ _))
    ·rcases c8 with k4|⟨k4,cx1⟩;all_goals
      go_wp2_with fail;refine (PF.out _ _ 5 t2.pos dC hPY).mono ?_;rintro e Z ⟨rfl,hhZ,KA⟩;have hZP:Par p Z sZ m:=by rw [hF];exact KA
      have g0Z:=(hhZ.block W oM naf).trans g0Y;have gtZ:=(hhZ.block w1 oM naf).trans gtY;have gfZ:=(hhZ.block w3 oM naf).trans gfY;have hHZ:=hHY.trans hhZ;have zZ:=hhZ.size;clear hhZ KA hPY g0Y gtY gfY hHY hF t0 t1 y0 y1 y2 y3 y4 f6 gtq gfq;go_wp2_with fail;have c8:=trivial;refine (T3.out _ sZ hZP).mono ?_;rw [hT];rintro e V ⟨rfl,hhV,hPV⟩;dsimp only [mG] at hPV ⊢;have g0V:=(hhV.block W oM naf).trans g0Z;have gtV:=(hhV.block w1 oM naf).trans gtZ;have gfV:=(hhV.block w3 oM naf).trans gfZ;have hHV:=hHZ.trans hhV;have zV:=hhV.size;clear hhV hT c8 hZP g0Z gtZ gfZ hHZ T3;rcases c9 with⟨k2,rfl⟩|⟨k2,rfl⟩
      ·rcases c10 with⟨n2,rfl⟩|⟨n2,rfl⟩
       ·go_wp2_with (refine Ca rfl 190 _ _ rfl w1 (A7 t3) _ rfl rfl gtV rfl kR (Mg t3) ?_;intro X gX hX sX;have g0X:=(hX.block W oM naf).trans g0V;have gfX:=(hX.block w3 oM naf).trans gfV;have hHX:=hHV.wider hX (fun r hr=>by rw [Ad] at hr;omega);have hPX:=hPV.held hX (fun r hr=>by rw [Ad] at hr;omega);clear hX;obtain⟨u0,u1,u2,u3⟩:=H0 gX;obtain⟨y0',y1',y2',y3',y4'⟩:=Bk gfX;obtain⟨x0,x1,x2,x3,x4⟩:=Bk g0X;have xf:=Ao g0X;have yf:=Ao gfX)
        refine (PF.out X _ 5 t3.pos dC hPX).mono ?_;rintro e V2 ⟨rfl,fB,qX⟩;have jJ:=(fB.block W oM naf).trans g0X;have pV:=(fB.block w1 oM naf).trans gX;have kN:=(fB.block w3 oM naf).trans gfX;have oK:=hHX.trans fB;have zV2:=fB.size;clear fB u0 u1 u2 u3 y0' y1' y2' y3' y4' x0 x1 x2 x3 x4 xf yf;obtain⟨u0,u1,u2,u3⟩:=H0 pV;obtain⟨y0',y1',y2',y3',y4'⟩:=Bk kN;obtain⟨x0,x1,x2,x3,x4⟩:=Bk jJ;have xf:=Ao jJ;have yf:=Ao kN;go_wp2_with fail;refine (PF.out V2 _ 10 t3.pos dC qX).mono ?_;rintro e V3 ⟨rfl,pR,EY⟩;have wI:=(pR.block W oM naf).trans jJ;have FN:=(pR.block w1 oM naf).trans pV;have zG:=(pR.block w3 oM naf).trans kN;have yB:=oK.trans pR;have zV3:=pR.size;clear pR u0 u1 u2 u3 y0' y1' y2' y3' y4' x0 x1 x2 x3 x4 xf yf;obtain⟨u0,u1,u2,u3⟩:=H0 FN;obtain⟨y0',y1',y2',y3',y4'⟩:=Bk zG;obtain⟨x0,x1,x2,x3,x4⟩:=Bk wI;have xf:=Ao wI;have yf:=Ao zG;go_wp2;have HE:=(Held.refl [w3.heap.size] V3).setCell 3 ↑t3.n oM;have g0E:=(HE.block W oM naf).trans wI;exact Ck 58 W.heap.size (An (.mk 3 t.text cx t3.n []) (.slice none 0 0)).toList rfl rfl (Cf g0E) underlying58 rfl kR (Ds.up hlt (yB.wider HE (fun r hr=>by rw [Ad] at hr;omega)) (EY.held HE (fun r hr=>by rw [Ad] at hr;omega)) (hK0 _ _ _ _ _) (Cm _) (Cd naf _ _ _ _ _))
       ·go_wp2_with (refine Ca rfl 190 _ _ rfl w1 (A7 t3) _ rfl rfl gtV rfl kR (Mg t3) ?_;intro X gX hX sX;have g0X:=(hX.block W oM naf).trans g0V;have gfX:=(hX.block w3 oM naf).trans gfV;have hHX:=hHV.wider hX (fun r hr=>by rw [Ad] at hr;omega);have hPX:=hPV.held hX (fun r hr=>by rw [Ad] at hr;omega);clear hX;obtain⟨u0,u1,u2,u3⟩:=H0 gX;obtain⟨y0',y1',y2',y3',y4'⟩:=Bk gfX;obtain⟨x0,x1,x2,x3,x4⟩:=Bk g0X;have xf:=Ao g0X;have yf:=Ao gfX)
        refine (PF.out X _ 5 t3.pos dC hPX).mono ?_;rintro e V2 ⟨rfl,fB,qX⟩;have jJ:=(fB.block W oM naf).trans g0X;have pV:=(fB.block w1 oM naf).trans gX;have kN:=(fB.block w3 oM naf).trans gfX;have oK:=hHX.trans fB;have zV2:=fB.size;clear fB u0 u1 u2 u3 y0' y1' y2' y3' y4' x0 x1 x2 x3 x4 xf yf;obtain⟨u0,u1,u2,u3⟩:=H0 pV;obtain⟨y0',y1',y2',y3',y4'⟩:=Bk kN;obtain⟨x0,x1,x2,x3,x4⟩:=Bk jJ;have xf:=Ao jJ;have yf:=Ao kN;go_wp2;have HE:=(Held.refl [w3.heap.size] V2).setCell 3 ↑t3.n oM;have g0E:=(HE.block W oM naf).trans jJ;exact Ck 58 W.heap.size (An (.mk 3 t.text cx t3.n []) (.slice none 0 0)).toList rfl rfl (Cf g0E) underlying58 rfl kR (Ds.up hlt (oK.wider HE (fun r hr=>by rw [Ad] at hr;omega)) (qX.held HE (fun r hr=>by rw [Ad] at hr;omega)) (hK0 _ _ _ _ _) (Cm _) (Cd naf _ _ _ _ _))
      ·rcases c10 with⟨n2,rfl⟩|⟨n2,rfl⟩
       ·go_wp2_with (refine Ca rfl 190 _ _ rfl w1 (A7 t3) _ rfl rfl gtV rfl kR (Mg t3) ?_;intro X gX hX sX;have g0X:=(hX.block W oM naf).trans g0V;have gfX:=(hX.block w3 oM naf).trans gfV;have hHX:=hHV.wider hX (fun r hr=>by rw [Ad] at hr;omega);have hPX:=hPV.held hX (fun r hr=>by rw [Ad] at hr;omega);clear hX;obtain⟨u0,u1,u2,u3⟩:=H0 gX;obtain⟨y0',y1',y2',y3',y4'⟩:=Bk gfX;obtain⟨x0,x1,x2,x3,x4⟩:=Bk g0X;have xf:=Ao g0X;have yf:=Ao gfX)
        refine (PF.out X _ 10 t3.pos dC hPX).mono ?_;rintro e V2 ⟨rfl,fB,qX⟩;have jJ:=(fB.block W oM naf).trans g0X;have pV:=(fB.block w1 oM naf).trans gX;have kN:=(fB.block w3 oM naf).trans gfX;have oK:=hHX.trans fB;have zV2:=fB.size;clear fB u0 u1 u2 u3 y0' y1' y2' y3' y4' x0 x1 x2 x3 x4 xf yf;obtain⟨u0,u1,u2,u3⟩:=H0 pV;obtain⟨y0',y1',y2',y3',y4'⟩:=Bk kN;obtain⟨x0,x1,x2,x3,x4⟩:=Bk jJ;have xf:=Ao jJ;have yf:=Ao kN;go_wp2;have HE:=(Held.refl [w3.heap.size] V2).setCell 3 ↑t3.n oM;have g0E:=(HE.block W oM naf).trans jJ;exact Ck 58 W.heap.size (An (.mk 3 t.text cx t3.n []) (.slice none 0 0)).toList rfl rfl (Cf g0E) underlying58 rfl kR (Ds.up hlt (oK.wider HE (fun r hr=>by rw [Ad] at hr;omega)) (qX.held HE (fun r hr=>by rw [Ad] at hr;omega)) (hK0 _ _ _ _ _) (Cm _) (Cd naf _ _ _ _ _))
       ·go_wp2_with (refine Ca rfl 190 _ _ rfl w1 (A7 t3) _ rfl rfl gtV rfl kR (Mg t3) ?_;intro X gX hX sX;have g0X:=(hX.block W oM naf).trans g0V;have gfX:=(hX.block w3 oM naf).trans gfV;have hHX:=hHV.wider hX (fun r hr=>by rw [Ad] at hr;omega);have hPX:=hPV.held hX (fun r hr=>by rw [Ad] at hr;omega);clear hX;obtain⟨u0,u1,u2,u3⟩:=H0 gX;obtain⟨y0',y1',y2',y3',y4'⟩:=Bk gfX;obtain⟨x0,x1,x2,x3,x4⟩:=Bk g0X;have xf:=Ao g0X;have yf:=Ao gfX)
        have HE:=(Held.refl [w3.heap.size] X).setCell 3 ↑t3.n oM;have g0E:=(HE.block W oM naf).trans g0X;exact Ck 58 W.heap.size (An (.mk 3 t.text cx t3.n []) (.slice none 0 0)).toList rfl rfl (Cf g0E) underlying58 rfl kR (Ds.up hlt (hHX.wider HE (fun r hr=>by rw [Ad] at hr;omega)) (hPX.held HE (fun r hr=>by rw [Ad] at hr;omega)) (hK0 _ _ _ _ _) (Cm _) (Cd naf _ _ _ _ _))
 ·have k1:=nal t.kind 1;have hw:fZ t=[]:=by unfold fZ;rw [if_neg hk1]
  rw [hw,Ai dC,Ai dC,Ai dC] at hR1;by_cases c4:t.kind=4/\t.text=[40]
  ·rw [Ah c4] at hR1;have k4:((t.kind:Int)==4)=true:=by rw [c4.1];rfl
   have q4:(t.text==[40])=true:=by simpa using c4.2
   have hb:=hless oM;have PC:=fun o=>EI (w1.alloc o) oM (hP1.below ((Ac _ w1).alloc nR o));generalize dL k s1=r at *;obtain⟨F,s2⟩:=r;clear IH EI hP1 c4;go_wp2_with fail;refine (PC _).out.mono ?_;rintro e w2 ⟨vk,rfl,hh2,hP2,hK2⟩;dsimp only at hP2 hK2 ⊢;have hz2:W.heap.size<w2.heap.size:=Af naf hh2.size;have TJ:w1.heap.size<w2.heap.size:=Af sM hh2.size;have g2:=(hh2.block W naf naf).trans (Co g1);have gt:=(hh2.block w1 sM naf).trans (Ag w1 _);have hH2:=(hH1.alloc _).trans hh2;rw [Df] at hK2;have T2:=fun o=>Aa (M6 p s2 m (w2.alloc o) (hP2.below ((Ac _ w2).alloc nR o)));generalize CH.shift s2=r at *;obtain⟨t',s3⟩:=r;dsimp only at T2 hR1 ⊢;obtain⟨ak,ck,rfl,_⟩:=hK2.form;dsimp only [An];clear PC hh2 f0 e0 e1 e2 e3 e4;go_wp2_with fail;refine (T2 _).out.mono ?_;rintro e w4 ⟨rfl,hh4,hP4⟩;have hz4:w2.heap.size<w4.heap.size:=Af sM hh4.size;have g4:=(hh4.block W naf naf).trans (Co g2);have gt4:=(hh4.block w1 naf naf).trans (Co gt);have g5:=(hh4.block w2 sM naf).trans (Ag w2 _);have hH4:=(hH2.alloc _).trans hh4;have hK4:=(hK2.cells (Bw (Held.of_below (R:=[]) ((Ac _ w2).alloc nR _)) (fun r hr=>by cases hr)) sM).cells (Bw hh4 fun r hr=>by rw [Ad] at hr;omega) hh4.size;have c7:(((t'.kind:Int)==4)=true/\(t'.text==[41])=true/\(t'.kind != 4||t'.text != [41])=false)\/((t'.kind != 4||t'.text != [41])=true/\(((t'.kind:Int)==4)=false\/((t'.kind:Int)==4)=true/\(t'.text==[41])=false)):=by
    by_cases h4:t'.kind=4
    ·have h4':((t'.kind:Int)==4)=true:=by rw [h4];rfl
     cases hx:t'.text==[41] with
     |true=>exact .inl ⟨h4',rfl,by simp [h4,bne,hx]⟩
     |false=>exact .inr ⟨by simp [h4,bne,hx],.inr ⟨h4',rfl⟩⟩
    ·exact .inr ⟨by simp [h4],.inl naf⟩
   dsimp only [mG];clear T2 hh4 g1 gt g2 hP2 hK2 hH2;rcases c7 with⟨k5,q5,cb⟩|⟨cb,c8⟩
   ·obtain rfl:R=(F,s3):=by rw [<- hR1,cb];rfl
    have k6:((t'.kind:Int) != 4)=false:=by simp only [bne,k5];rfl
    go_wp2_with (refine Ca rfl 190 _ _ rfl w1 (A7 t') _ rfl rfl gt4 rfl kR (Mg t') ?_;intro X gX hX sX;obtain⟨t0,t1,t2,t3⟩:=H0 gX;have gX0:=(hX.block W oM naf).trans g4;have gX5:=(hX.block w2 oM naf).trans g5;have hHX:=hH4.wider hX (fun r hr=>by rw [Ad] at hr;omega);have hPX:=hP4.held hX (fun r hr=>by rw [Ad] at hr;omega);have hKX:=hK4.cells (Bw hX (fun r hr=>by rw [Ad] at hr;omega)) hX.size;clear hX hH4 hP4 hK4 g4 g5 gX gt4;obtain⟨x0,x1,x2,x3,x4⟩:=Bk gX0;have xf:=Ao gX0;obtain⟨y0,y1,y2,y3,y4⟩:=Bk gX5)
    exact Ck 58 W.heap.size (An F (.slice ak F.kids.length ck)).toList rfl rfl (Cf gX0) underlying58 rfl kR (Ds.up hlt hHX hPX hKX oM (Cd oM _ _ _ _ _))
   ·obtain rfl:R=(F,none):=by rw [<- hR1,cb];rfl
    have c9:((t'.kind:Int) != 4)=true\/((t'.kind:Int) != 4)=false/\(t'.text==[41])=false:=by
     rcases c8 with h|⟨h,h'⟩;·exact .inl (by simp only [bne,h];rfl)
     ·exact .inr ⟨by simp only [bne,h];rfl,h'⟩
    clear c8;rcases c9 with k6|⟨k6,q6⟩;all_goals
     go_wp2_with (refine Ca rfl 190 _ _ rfl w1 (A7 t') _ rfl rfl gt4 rfl kR (Mg t') ?_;intro X gX hX sX;obtain⟨t0,t1,t2,t3⟩:=H0 gX;have gX0:=(hX.block W oM naf).trans g4;have gX5:=(hX.block w2 oM naf).trans g5;have hHX:=hH4.wider hX (fun r hr=>by rw [Ad] at hr;omega);have hPX:=hP4.held hX (fun r hr=>by rw [Ad] at hr;omega);have hKX:=hK4.cells (Bw hX (fun r hr=>by rw [Ad] at hr;omega)) hX.size;clear hX hH4 hP4 hK4 g4 g5 gX gt4)
     refine (Iv p s3 m 5 t'.pos X dC hPX).mono ?_;rintro e w5 ⟨rfl,hh5,hP5⟩;have gY0:=(hh5.block W oM naf).trans gX0;have gY5:=(hh5.block w2 oM naf).trans gX5;have hH5:=hHX.trans hh5;have hK5:=hKX.cells (Bw hh5 fun r hr=>by rw [Ad] at hr;omega) hh5.size;have z5:=hh5.size;obtain⟨x0,x1,x2,x3,x4⟩:=Bk gY0;have xf:=Ao gY0;obtain⟨y0,y1,y2,y3,y4⟩:=Bk gY5;clear gX5 gX0 hh5 hPX hKX hHX gY5;go_wp2;exact Ck 58 W.heap.size (An F (.slice ak F.kids.length ck)).toList rfl rfl (Cf gY0) underlying58 rfl kR (Ds.up hlt hH5 hP5 hK5 oM (Cd oM _ _ _ _ _))
  ·rw [Ai c4,Ah dC] at hR1;subst hR1;have PF:=fun o=>Aa (Iv p s1 m 5 t.pos (w1.alloc o) dC (hP1.below ((Ac _ w1).alloc nR o)));clear IH EI hP1;have c5:((t.kind:Int)==4)=false\/((t.kind:Int)==4)=true/\(t.text==[40])=false:=by
    by_cases h4:t.kind=4;·exact .inr ⟨by rw [h4];rfl,by simpa using fun e=>c4 ⟨h4,e⟩⟩
    ·exact .inl naf
   rcases c5 with k4|⟨k4,q4⟩;all_goals go_wp2_with fail;refine (PF _).out.mono ?_;rintro e w2 ⟨rfl,hh2,hP2⟩;have hz2:W.heap.size<w2.heap.size:=Af naf hh2.size;have g2:=(hh2.block W naf naf).trans (Co g1);have hH2:=(hH1.alloc _).trans hh2;have f0':=Ao g2;have e0':=Ab g2 0;have e1':=Ab g2 1;have e2':=Ab g2 2;have e3':=Ab g2 3;have e4':=Ab g2 4;simp at e0' e1' e2' e3' e4';clear f0 e0 e1 e2 e3 e4 PF hh2;go_wp2;exact Ck 58 W.heap.size (An (.mk 0 [] 0 0 []) (.slice none 0 0)).toList rfl rfl (Cf g2) underlying58 rfl kR (Ds.up hlt hH2 hP2 (hK0 _ _ _ _ _) (Cm _) (Cd hz2 _ _ _ _ _))
theorem Tq (p:Nat) (m:Int):∀ k,k<=100000->Uq 313 p m k (CH.one k)
 |0,_=>fun s W h=>absurd h (Nat.not_lt_zero _)
 |k+1,hk=>Ggn p m k oM (Tq p m k oM) (Rl p m k oM (Zz p m k oM (Tq p m k oM)))
theorem Xa {s:Q00} {ts:List Q03} (h:CH.lex s=.ok ts) (hs:s.length<=20000):Hh (some ts):=fun L e t ht=>by cases e;have:=(pK h).2 t ht;omega
def RY (w:ZB) (r:Option CH.Formula) (e:Ending) (w':ZB):Prop :=
 Below w w w'/\∃ (f:CH.Formula) (vk:ZC) (n a:Int),e=.returned (.tuple #[.agg (An f vk),↑n,↑a])/\Ax w' (era w w') f vk /\
  match r with
  |some g=>n=0/\f=g/\Ct g/\g.count<=200/\g.depth<=20
  |none=>n≠0
theorem P0 {fn:Func} {p u v:Tmp} {R:Ending->ZB->Prop} {tmps:Array ZC} (ty b:Nat) (cs:List ZC) {d:TypeDesc} (hr:fn.results=#[.cell p ty,.tmp u,.tmp v]) (hp:tmps.getD p undef=.pointer (some ⟨b,0,none⟩)) (hc:w.heap[b]?=some (.cells cs.toArray ty (0,0))) (hu:prog.underlying ty=some d) (hd:d.isRow=true) (hi:(prog.info? ty).map (·.size)=some cs.length) (h:R (.returned (.tuple #[.agg cs.toArray,tmps.getD u undef,tmps.getD v undef])) w):bodyPost prog fn R .ret { tmps:=tmps,defers:=[] } w := Ar (Rp hr _ _ _ _ hp (Fq w b 0 ty cs d (fun j v hj=>by rw [Ba,Ab hc j];simpa using hj) hu hd hi)) rfl h
theorem G4 (w:ZB) (p:Addr):w.drew.cell? p=w.cell? p:=rfl
theorem Xd (w:ZB) (k:Nat):w.drew.heap[k]?=w.heap[k]?:=rfl
theorem T8 (B:Nat) (w:ZB):Below B w w.drew:=(Ac B w).drew
abbrev sO (w:ZB) (b:Nat):ZB:=((((w.setCell ⟨b,0,none⟩ (.int .i64 0)).setCell ⟨b,1,none⟩ (.string ⟨#[]⟩)).setCell ⟨b,2,none⟩ (.int .i64 0)).setCell ⟨b,3,none⟩ (.int .i64 0)).setCell ⟨b,4,none⟩ (.slice none 0 0)
theorem Can (s:Q00) (w:ZB) (hs:s.length<=20000):Calls prog 211 #[↑s] w (RY w (qo s)):=by
 have hb0:=fun o=>(Ac _ w).alloc nR o;have LX:=fun o=>Aa (Tr s (w.alloc o) hs);obtain⟨R,hR⟩:=naa (qo s);rw [hR];unfold qo at hR;obtain⟨lx,hlx⟩:=naa (CH.lex s);rw [hlx] at LX hR;cases lx with
 |error x =>
  have hx:=Qo s x hlx;obtain rfl:R=none:=hR.symm;have z0:=nal x.1 0;have z1:((x.1:Int) != 0)=true:=naf;go_in;go_wp2_with fail;refine (LX _).out.mono ?_;rintro e w1 ⟨hb1,rfl⟩;have hb:=(hb0 _).trans (hb1.mono sM);have g1:=(hb1.block w sM).trans (Ag w _);have hz:=(aZ g1)
  obtain⟨x0,x1,x2,x3,x4⟩:=Bk g1;have xf:=Ao g1;go_wp2;refine P0 58 w.heap.size (An ji (.slice none 0 0)).toList rfl rfl (Cf g1) underlying58 rfl kR ⟨?_,ji,_,x.1,x.2,rfl,Wm _ _ _ _ _ _,oM⟩;exact hb.trans ((Cd hz _ _ _ _ _).below (Dy hz) (fun r hr=>by rw [Ad] at hr;omega))
 |ok ts =>
  have hts:=Xa hlx hs;have htl:=xu hlx;dsimp only at hR;have hcnt:=jM (op:=6) (w:=([111,114]:Q00)) (jM (op:=5) (w:=([97,110,100]:Q00)) (pI (ts.length+1)) (ts.length+1)) (ts.length+1) (some ts);have DI:=(Nd (op:=6) (w:=([111,114]:Q00)) (Nd (op:=5) (w:=([97,110,100]:Q00)) (Ss (ts.length+1)) (ts.length+1)) (ts.length+1) (some ts) hts).1;change (dL (ts.length+1) (some ts)).1.count+2*(dL (ts.length+1) (some ts)).2.size<=2*ts.length+1 at hcnt;change Ct (dL (ts.length+1) (some ts)).1 at DI;have EI:=Aa fun (p:Nat) (W:ZB) (m:Int) (h:Par p W (some ts) m)=>Rl p m (ts.length+1) oM (Zz p m _ oM (Tq p m _ oM)) (some ts) W (Cm _) hts h;generalize dL (ts.length+1) (some ts)=r at *;obtain⟨F,s'⟩:=r;dsimp only at hR hcnt DI;go_in;go_wp2_with fail;refine (LX _).out.mono ?_;rintro e w1 ⟨hb1,v,rfl,hO⟩;have hT:=hO.at;obtain⟨av,cv,rfl,hc1,hc2⟩:=hT.form;have hb:=(hb0 _).trans (hb1.mono sM);have g1:=(hb1.block w sM).trans (Ag w _);have hz:=(aZ g1)
  have hP1:Par w1 (w1.alloc (.cells #[.slice av ts.length cv,↑s.length,.int .i64 0,.int .i64 0] 335)) (some ts) s.length := ⟨_,0,0,Ag w1 _,rfl,hT.held (R:=[]) (Held.of_below ((Ac _ w1).alloc nR _)) (fun r hr=>by cases hr) nR⟩
  have EP:=Aa (EI.out _ _ _ hP1);clear LX hO hT EI hb1;go_wp2_with fail;refine EP.out.mono ?_;rintro e w2 ⟨vk,rfl,hh2,hP2,hK2⟩;dsimp only at hP2 hK2 ⊢;have hz2:w1.heap.size<w2.heap.size:=Af sM hh2.size;have g2:=(hh2.block w naf naf).trans (Co g1);have hB2:Below w w w2:=(hb.alloc hb.size _).trans (hh2.below naf (fun r hr=>by rw [Ad] at hr;omega));rw [Df] at hK2;clear EP hh2 hP1 hb g1;obtain⟨ak,ck,rfl,hck⟩:=hK2.form;have hone:=Aa hK2.vC;obtain⟨C,hC⟩:∃ C:List ZC,An F (.slice ak F.kids.length ck)=C.toArray:=⟨[_,_,_,_,_],rfl⟩
  rw [hC] at hone ⊢;have hlC:C.length=5:=by have:=congrArg Array.size hC;simp [An] at this;omega
  have hiC:(prog.info? 58).map (·.size)=some C.length:=by rw [hlC];kernel_rfl
  have hone':Hid (∀ u∈C,u.oneCell'=true):=Aa fun u hu=>hone.out u (by simpa using hu);have b3:=(Ac _ w2).alloc nR (.cells C.toArray 58);have hP3:=hP2.below b3;have g3:=(b3.block w oM).trans g2;have gF:=Ag w2 (.cells C.toArray 58);have hB3:=hB2.trans (b3.mono oM);have hK3:=hK2.cells (Bw (Held.of_below (R:=[]) b3) (fun r hr=>by cases hr)) b3.size;have hz3:w.heap.size<(w2.alloc (.cells C.toArray 58)).heap.size:=naf;have IQ:w2.heap.size<(w2.alloc (.cells C.toArray 58)).heap.size:=sM;clear hP2 g2 hB2 hK2 b3 hone;obtain⟨Y3,hY3⟩:=naa (w2.alloc (.cells C.toArray 58));rw [hY3] at hP3 g3 gF hB3 hK3 hz3 IQ;rw [<- hC] at gF;have HY:=Aa hY3;clear hY3;cases s' with
  |none =>
   obtain rfl:R=none:=hR.symm;obtain⟨v,en,an,hpY,he,rfl⟩:=hP3;have hpl:=(aZ hpY)
   have p0:=Ab hpY 0;have p2:=Ab hpY 2;have p3:=Ab hpY 3;simp at p0 p2 p3;have z0:(en==0)=false:=by simpa using he
   have z1:(en != 0)=true:=by simpa using he
   obtain⟨x0,x1,x2,x3,x4⟩:=Bk g3;have xf:=Ao g3;have hzY:=(aZ g3)
   have H5:=Cd hzY (.int .i64 0) (.string ⟨#[]⟩) (.int .i64 0) (.int .i64 0) (.slice none 0 0);have S52:Hid (World.cell? (World.drew (sO Y3 w)) ⟨w1,2,none⟩=some ↑en):=Aa ((G4 _ _).trans <| (Dd (p:=⟨w1,2,none⟩) (H5.block w1 hpl naf)).trans p2);have q2:Hid (World.cell? (World.drew Y3) ⟨w1,2,none⟩=some ↑en):=Aa ((G4 _ _).trans p2);have S53:Hid (World.cell? (World.drew (sO Y3 w)) ⟨w1,3,none⟩=some ↑an):=Aa ((G4 _ _).trans <| (Dd (p:=⟨w1,3,none⟩) (H5.block w1 hpl naf)).trans p3);have q3:Hid (World.cell? (World.drew Y3) ⟨w1,3,none⟩=some ↑an):=Aa ((G4 _ _).trans p3);have hBq:=Aa (hB3.trans (H5.below (Dy hzY) (fun r hr=>by rw [Ad] at hr;omega)));have g5:=Aa (Cf (u0:=.int .i64 0) (u1:=.string ⟨#[]⟩) (u2:=.int .i64 0) (u3:=.int .i64 0) (u4:=.slice none 0 0) g3);clear H5 hpY g3 hB3 gF;go_wp2_with (refine Br rfl 58 _ _ rfl C rfl rfl (by rw [hlC];rfl) hiC hone'.out ?_;rw [HY.out])
   exact FD24
  |some L =>
   obtain⟨v,e0,a0,hpb,rfl,ht⟩:=hP3;have p0:=Ab hpb 0;have p2:=Ab hpb 2;have p3:=Ab hpb 3;simp at p0 p2 p3;have hP3:Par w1 _ (some L) s.length:=⟨v,0,a0,hpb,rfl,ht⟩
   cases L with
   |nil =>
    obtain⟨av',cv',rfl,_⟩:=ht.form;obtain⟨y0,y1,y2,y3,y4⟩:=Bk gF;have LG:=Aa (Ctd F (.slice ak F.kids.length ck) _ hK3.real (by have:CH.St.size (some ([]:List Q03))=0:=rfl;omega) (by have:=gG F;have:CH.St.size (some ([]:List Q03))=0:=rfl;omega));have PF:=Aa fun (W:ZB) (h:Par w1 W (some []) s.length)=>Iv _ _ _ 2 (-1) W dC h;dsimp only [An] at LG;clear ht hpb;cases hlg:(ZH (F.count > 200)||ZH (F.depth > 20)) with
    |true =>
     dsimp only at hR;rw [hlg] at hR LG;obtain rfl:R=none:=hR.symm;go_wp2_with (refine Br rfl 58 _ _ rfl C rfl rfl (by rw [hlC];rfl) hiC hone'.out ?_;rw [HY.out])
     refine CmZ LG.out fun Z hbZ=>?_;have gZ:=(hbZ.block w hz3).trans g3;have hzZ:=(aZ gZ)
     have hBZ:=hB3.trans (hbZ.mono (Dy hz3));have PZ:=PF.out Z (hP3.below hbZ);clear LG hbZ g3 hB3 hP3 p0 p2 p3 PF y0 y1 y2 y3 y4 hK3;go_wp2_with fail;refine PZ.mono ?_;rintro e Y ⟨rfl,hhY,hPY⟩;have gY:=(hhY.block w hzZ naf).trans gZ;have hBY:=hBZ.trans (hhY.below (Dy hzZ) (fun r hr=>by rw [Ad] at hr;omega));clear hhY PZ gZ hBZ;exact FD8
    |false =>
     dsimp only at hR;rw [hlg] at hR LG;obtain rfl:R=some F:=hR.symm;go_wp2_with (refine Br rfl 58 _ _ rfl C rfl rfl (by rw [hlC];rfl) hiC hone'.out ?_;rw [HY.out])
     refine CmZ LG.out fun Z hbZ=>?_;have gZ:=(hbZ.block w hz3).trans g3;have gFZ:=(hbZ.block w2 IQ).trans gF;have hzZ:=(aZ gZ)
     have hBZ:=hB3.trans (hbZ.mono (Dy hz3));have hKZ:=hK3.cells (Bw (Held.of_below (R:=[]) hbZ) (fun r hr=>by cases hr)) hbZ.size;obtain⟨v',e',a',hpZ,rfl,_⟩:=hP3.below hbZ;have p2':=Ab hpZ 2;simp at p2';obtain⟨y0',y1',y2',y3',y4'⟩:=Bk gFZ;obtain⟨x0,x1,x2,x3,x4⟩:=Bk gZ;have xf:=Ao gZ;clear LG hbZ g3 gF gFZ hB3 hP3 p0 p2 p3 PF y0 y1 y2 y3 y4 hK3 hpZ;go_wp2;simp only [Ez,Dw,Nat.not_lt] at hlg;have H5:=Cd hzZ ↑F.op ↑F.name ↑F.cmp ↑F.n (.slice ak F.kids.length ck);have hK5:=Ax.kept (Eg (m:=w.heap.size) (n:=w1.heap.size+1) oM) _ _ (hKZ.cells (Bw H5 (fun r hr=>by rw [Ad] at hr;omega)) H5.size);exact P0 58 w.heap.size (An F (.slice ak F.kids.length ck)).toList rfl rfl (Cf gZ) underlying58 rfl kR ⟨hBZ.trans (H5.below (Dy hzZ) (fun r hr=>by rw [Ad] at hr;omega) |>.mono nR),F,_,0,0,rfl,hK5,rfl,rfl,DI,oM,oM⟩
   |cons t L =>
    obtain rfl:R=none:=hR.symm;obtain⟨av',cv',rfl,hn1,hn2⟩:=ht.form;obtain⟨b,off,rfl,hbp,hn,h1,h2,hcell,_⟩:=ht.tail;rw [Ap] at *;have d1:=hcell 1 _ rfl;have PF:=Aa (Iv _ _ _ 5 t.pos _ dC hP3);clear hcell ht hpb;go_wp2_with (refine Br rfl 58 _ _ rfl C rfl rfl (by rw [hlC];rfl) hiC hone'.out ?_;rw [HY.out])
    refine PF.out.mono ?_;rintro e Y ⟨rfl,hhY,hPY⟩;have gY:=(hhY.block w hz3 naf).trans g3;have hBY:=hB3.trans (hhY.below (Dy hz3) (fun r hr=>by rw [Ad] at hr;omega));clear hhY hP3 hB3 g3;clear PF p0 p2 p3 d1;exact FD8
end
end Go.Proofs.Y
