/-
  ChainOrder: the proof, a part.
-/
import Derived.Test.YtpkjhpenpfcpfaaGreatDoorP18
set_option linter.unusedSimpArgs false
set_option linter.unusedVariables false
set_option maxHeartbeats 40000000
set_option maxRecDepth 100000
open Go renaming World -> ZB, Value -> ZC, Calls -> ZE
open Go.Act renaming put -> ZF
open Go.RowKit renaming intOf -> ZG
open Decidable renaming decide -> ZH
namespace Go.Proofs.YtpkjhpenpfcpfaaGreatDoor
section
open Go.Lib Go.Proofs.Tryz Go.RowKit Go.Shelf Go.Sort CH
attribute [local irreducible] wpQuiet
def H3l (w:ZB) (n:Nat) (e:Ending) (w':ZB):Prop:=∃ v ls,e=.returned v/\Ay 0 w' v ls/\ls.length<=n/\Below w w w'
theorem Ay.low {base base':Nat} {w:ZB} {v:ZC} {ls:List (List UInt8)} (h:Ay base w v ls) (hb:base'<=base):Ay base' w v ls:=by
 obtain⟨hlen,h|⟨g,cap,cur,hv,hg,h⟩⟩:=h;·exact⟨hlen,.inl h⟩
 ·exact⟨hlen,.inr ⟨g,cap,cur,hv,Ag hb hg,h⟩⟩
theorem V0 {w:ZB} {g:Nat} {s:List UInt8} {T:TypeId} (h:w.heap[g]?=some (.cells #[↑s] T (0,0))):∃ B,Strs B w (.slice (some ⟨g,0,none⟩) 1 1) [s]:=by
 refine⟨g+1,some ⟨g,0,none⟩,1,rfl,Bo _,oM,fun _=>⟨g,0,rfl,Fh _,fun j l hj=>?_⟩⟩;cases j with
 |zero =>simp only [Fv,Ep] at hj;subst hj;exact (Ab h 0).trans rfl
 |succ j=>simp at hj
theorem Ay.two {base:Nat} {w:ZB} {v:ZC} {ls:List (List UInt8)} (h:Ay base w v ls):v=.slice none 0 0/\ls=[]\/∃ g cap,v=.slice (some ⟨g,0,none⟩) ls.length cap/\ls.length<=cap/\cap<=9223372036854775807:=by
 obtain⟨hlen,⟨rfl,h0⟩|⟨g,cap,cur,rfl,hb,hg,hn,hc,hsz,htk⟩⟩:=h;·exact .inl ⟨rfl,Cb.1 h0⟩
 ·exact .inr ⟨g,cap,rfl,hn,by unfold maxLen at hc;omega⟩
theorem Cs {w:ZB} {o:Oper} {a:Act} {K:Act->ZB->Prop} {Q:Exit->Act->ZB->Prop} (s x:Operand) (ho:o.op=.call { callee:=.builtin .append,args:=#[s,x],argTypes:=#[22,22] }) (base:Nat) (v:ZC) (ls:List (List UInt8)) (hs:a.eval s=v) (hown:Ay base w v ls) (B:Nat) (vx:ZC) (lx:List (List UInt8)) (hx:a.eval x=vx) (hX:Strs B w vx lx) (hlen:ls.length+lx.length<=1000000) (hbase:base<=w.heap.size) (h:∀ v' w',Ay base w' v' (ls++lx)->w.grownBy w' v.ownBlock->K (a.put o.dst v') w'):o.wp prog a w K Q:=by
 obtain⟨i,hi,hz0,hz1,hz2⟩:=Js Qe;rcases hX.source with⟨ad,c,rfl,hnews⟩|⟨c,rfl,hm,hnil⟩
 ·refine wp_append_own w s x 22 ho base 9 i _ 1 16 underlying22 hi hz0 hz1 hz2 rfl dC v ls.length _ hs hown ad lx.length c (lx.map ay) hx sM hnews ?_ ?_ ?_ hbase ?_;·intro u hu;obtain⟨l,_,rfl⟩:=Eo.1 hu;rfl
  ·unfold maxLen;omega
  ·omega
  ·intro v' w' h1 h2 _;exact h v' w' (by unfold Ay;simpa using h1) h2
 ·have hl0:lx=[]:=Cb.1 hm;subst hl0;obtain⟨av,cv,rfl,hcv,_,_⟩:=hown.form;have hr:=Tb (P:=prog) w 22 o.type 9 i underlying22 hi av ls.length cv c hcv;unfold Oper.wp execOp;simp only [ho,resolve,invoke,builtin,Jh,Me,Ic,List.map_toArray,Eu,H8,hs,hx,hr,Bj];exact h _ _ (by simpa using hown) (World.grownBy.refl _ _)
theorem Ggx (v:ZC) (ls:List (List UInt8)) (s:List UInt8) (w:ZB) (hv:Ay 0 w v ls) (hn:ls.length<=1000) : ZE prog 229 #[v,↑s] w (H3l w (ls.length+1)):=by
 have hB0:Below w w w.drew:=(Ac _ w).drew;have hv0:=Aa hv;rcases hv.two with⟨rfl,rfl⟩|⟨g,cap,rfl,hl,hcap⟩
 ·clear hv hn;obtain⟨LA,hLA⟩:∃ LA,Hid (([]:List (List UInt8))=LA):=⟨_,Aa rfl⟩
  obtain⟨LB,hLB⟩:∃ LB,Hid (([]:List (List UInt8))=LB):=⟨_,Aa rfl⟩
  go_enter func229,ntmps229;go_wp2_with fail;go_loopw [5] (fun i wr=>i=.int .i64 0/\wr=w) (fun i _=>0);case atStart=>exact⟨rfl,rfl⟩
  case round =>
   obtain⟨rfl,rfl⟩:=hrel;have hA:Hid (∀ W',Below wr wr W'->Strs wr W' (.slice none 0 0) LA):=Aa fun W' _=>by rw [<- hLA.out];exact⟨none,0,rfl,Bo _,oM,fun h=>absurd rfl h⟩
   have hD:Hid (∀ W',Below wr wr W'->Strs wr W' (.slice none 0 0) LB):=Aa fun W' _=>by rw [<- hLB.out];exact⟨none,0,rfl,Bo _,oM,fun h=>absurd rfl h⟩
   have hLn:Hid (LA.length+1+LB.length<=0+1):=Aa (by rw [<- hLA.out,<- hLB.out];simp);go_wp2_with fail;refine F8 (S:=fun W'=>Below wr wr W') kR hB0 (fun hHeld=>?_);refine tk 1 (v:=?_) rfl rF hHeld ?_ ?_;rotate_left;·(intro w hSw;go_simp;try with_reducible rfl)
   (try simp only [ZF,pD,pE,pF,pA,pB,pC]);refine tk 2 (v:=?_) rfl rF hHeld ?_ ?_;rotate_left;·(intro w hSw;go_simp;try with_reducible rfl)
   (try simp only [ZF,pD,pE,pF,pA,pB,pC]);refine tk 3 (v:=?_) rfl rF hHeld ?_ ?_;rotate_left;·(intro w hSw;go_simp;try with_reducible rfl)
   (try simp only [ZF,pD,pE,pF,pA,pB,pC]);refine tk 5 (v:=?_) rfl rF hHeld ?_ ?_;rotate_left;·(intro w hSw;go_simp;try with_reducible rfl)
   (try simp only [ZF,pD,pE,pF,pA,pB,pC]);refine tk 8 (v:=?_) rfl rF hHeld ?_ ?_;rotate_left;·(intro w hSw;go_simp;try with_reducible rfl)
   (try simp only [ZF,pD,pE,pF,pA,pB,pC]);refine tk 9 (v:=?_) rfl rF hHeld ?_ ?_;rotate_left;·(intro w hSw;go_simp;try with_reducible rfl)
   (try simp only [ZF,pD,pE,pF,pA,pB,pC]);refine tk 10 (v:=?_) rfl rF hHeld ?_ ?_;rotate_left;·(intro w hSw;go_simp;try with_reducible rfl)
   (try simp only [ZF,pD,pE,pF,pA,pB,pC]);refine Fq (rs:=[0,6]) kR sM ?_;refine Ce (o:=_) rfl (fun K hK=>?_) ?_;focus
    go_simp;have hB1:Below wr wr (wr.alloc (.cells #[] 9)).drew:=((Ac _ wr).alloc nR _).drew;have hO1:Ay wr (wr.alloc (.cells #[] 9)).drew (.slice (some ⟨wr,0,none⟩) 0 0) []:=(Hd wr [] sM).below (Ac _ _).drew;have hg1:wr.heap.size<(wr.alloc (.cells #[] 9)).drew.heap.size:=by show _<(wr.alloc (.cells #[] 9)).heap.size;simp
    refine hK.out _ _ hB1 (fun hHeld=>?_);clear hK;generalize (wr.alloc (.cells #[] 9)).drew=W1 at *;(try simp only [ZF,pD,pE,pF,pA,pB,pC]);refine Fq (rs:=[4,6]) kR sM ?_;refine Ce (o:=_) rfl (fun K hK=>?_) ?_;focus rw [Ap rF];refine Cs _ _ rfl wr _ [] rfl hO1 wr _ LA rfl (hA.out W1 hB1) (by have:=hLn.out;simp;omega) hB1.size ?_;intro v2 w2 hO2 hg2;rw [Dp] at hO2;have hB2:Below wr wr w2:=hB1.grown hg2 hB1.size (fun j hj=>(D7 hO1 j hj).1);refine hK.out _ _ hB2 (fun hHeld=>?_);clear hK;(try simp only [ZF,pD,pE,pF,pA,pB,pC]);refine rk 6 rfl (fun K hK=>?_);go_simp;have hBx:Below wr wr (w2.alloc (.cells #[↑s] 9)):=hB2.alloc hB2.size _;have hOx:Ay wr (w2.alloc (.cells #[↑s] 9)) v2 LA:=hO2.below ((Ac _ w2).alloc nR _);have hXx:=V0 (Au w2 (.cells #[↑s] 9));refine hK.out _ _ hBx (fun hHeld=>?_);clear hK hB1 hO1 hO2 hg2 hB2 hg1;generalize (w2.alloc (.cells #[↑s] 9))=Wx at *;(try simp only [ZF,pD,pE,pF,pA,pB,pC])
    rotate_left;focus refine Ce (o:=_) rfl (fun K hK=>?_) Ey;go_simp;have hB2:Below wr wr (W1.alloc (.cells #[↑s] 9)):=hB1.alloc hB1.size _;have hO2:Ay wr (W1.alloc (.cells #[↑s] 9)) (.slice (some ⟨wr,0,none⟩) 0 0) []:=hO1.below ((Ac _ W1).alloc nR _);have hX2:=Au W1 (.cells #[↑s] 9);refine hK.out _ _ hB2 (fun hHeld=>?_);clear hK;(try simp only [ZF,pD,pE,pF,pA,pB,pC]);refine rk 4 rfl (fun K hK=>?_);rw [Ap rF];refine Cs _ _ rfl wr _ [] rfl hO2 wr _ LA rfl (hA.out _ hB2) (by have:=hLn.out;simp;omega) hB2.size ?_;intro v2 Wx hOx hg2;rw [Dp] at hOx;have hBx:Below wr wr Wx:=hB2.grown hg2 hB2.size (fun j hj=>(D7 hO2 j hj).1);have hXx:=V0 ((hg2.block W1 sM (fun e=>by injection e with e;dsimp only at e;omega)).trans hX2);refine hK.out _ _ hBx (fun hHeld=>?_);clear hK hB1 hO1 hO2 hg2 hB2 hX2 hg1;(try simp only [ZF,pD,pE,pF,pA,pB,pC])
    rotate_left
   rotate_left 2;focus
    refine Ce (o:=_) rfl (fun K hK=>?_) Ey;go_simp;have hB1:Below wr wr (wr.alloc (.cells #[↑s] 9)).drew:=((Ac _ wr).alloc nR _).drew;have hX1:(wr.alloc (.cells #[↑s] 9)).drew.heap[wr.heap.size]?=_:=Au wr (.cells #[↑s] 9);have hg1:wr.heap.size<(wr.alloc (.cells #[↑s] 9)).drew.heap.size:=by show _<(wr.alloc (.cells #[↑s] 9)).heap.size;simp
    refine hK.out _ _ hB1 (fun hHeld=>?_);clear hK;generalize (wr.alloc (.cells #[↑s] 9)).drew=W1 at *;(try simp only [ZF,pD,pE,pF,pA,pB,pC]);refine rk 0 rfl (fun K hK=>?_);go_simp;have hB2:Below wr wr (W1.alloc (.cells #[] 9)):=hB1.alloc hB1.size _;have hO2:Ay wr (W1.alloc (.cells #[] 9)) (.slice (some ⟨W1,0,none⟩) 0 0) []:=(Hd W1 [] sM).low hB1.size;have hX2:=(((Ac _ W1).alloc nR (.cells #[] 9)).block wr.heap.size hg1).trans hX1;refine hK.out _ _ hB2 (fun hHeld=>?_);clear hK;(try simp only [ZF,pD,pE,pF,pA,pB,pC]);refine rk 4 rfl (fun K hK=>?_);rw [Ap rF];refine Cs _ _ rfl wr _ [] rfl hO2 wr _ LA rfl (hA.out _ hB2) (by have:=hLn.out;simp;omega) hB2.size ?_;intro v2 Wx hOx hg2;rw [Dp] at hOx;have hBx:Below wr wr Wx:=hB2.grown hg2 hB2.size (fun j hj=>(D7 hO2 j hj).1);have hXx:=V0 ((hg2.block wr (by simp;omega) (fun e=>by injection e with e;dsimp only at e;omega)).trans hX2);refine hK.out _ _ hBx (fun hHeld=>?_);clear hK hB1 hO2 hg2 hB2 hX2 hX1 hg1;(try simp only [ZF,pD,pE,pF,pA,pB,pC])
   all_goals
    obtain⟨BX,hXx⟩:=hXx;refine rk 7 rfl (fun K hK=>?_);rw [Ap rF];refine Cs _ _ rfl wr _ LA rfl hOx BX _ [s] rfl hXx (by have:=hLn.out;simp;omega) hBx.size ?_;intro v4 w4 hO4 hg4;have hB4:Below wr wr w4:=hBx.grown hg4 hBx.size (fun j hj=>(D7 hOx j hj).1);refine hK.out _ _ hB4 (fun hHeld=>?_);clear hK;(try simp only [ZF,pD,pE,pF,pA,pB,pC]);refine rk 11 rfl (fun K hK=>?_);rw [Ap rF];refine Cs _ _ rfl wr _ (LA++[s]) rfl hO4 wr _ LB rfl (hD.out _ hB4) (by have:=hLn.out;simp;omega) hB4.size ?_;intro v5 w5 hO5 hg5;have hB5:Below wr wr w5:=hB4.grown hg5 hB4.size (fun j hj=>(D7 hO4 j hj).1);refine hK.out _ _ hB5 (fun hHeld=>?_);clear hK;(try simp only [ZF,pD,pE,pF,pA,pB,pC]);refine tk 12 (v:=?_) rfl rF hHeld ?_ ?_;rotate_left;·(intro w hSw;go_simp;try with_reducible rfl)
    (try simp only [ZF,pD,pE,pF,pA,pB,pC]);refine Eb kR ?_ _;go_wp2;all_goals go_ret;exact⟨v5,LA++[s]++LB,rfl,hO5.low (Bd _),by have:=hLn.out;simp;omega,hB5⟩
 ·have HV:=Aa hv.strs;clear hv;obtain⟨N,hN⟩:∃ N,ls.length=N:=⟨_,rfl⟩
  rw [hN] at hl hn hv0 HV ⊢;replace hN:=Aa hN;go_enter func229,ntmps229;go_wp2_with fail;go_loopw [5] (fun i wr=>∃ k:Nat,k<=N/\i=↑k/\wr=w) (fun i _=>N - (ZG i).toNat);case atStart=>exact⟨0,Bd _,rfl,rfl⟩
  case round =>
   obtain⟨k,hk,rfl,rfl⟩:=hrel;obtain⟨LA,hLA⟩:∃ LA,Hid (ls.take k=LA):=⟨_,Aa rfl⟩
   obtain⟨LB,hLB⟩:∃ LB,Hid (ls.drop k=LB):=⟨_,Aa rfl⟩
   have hA:Hid (∀ W',Below wr wr W'->Strs wr W' (.slice (some ⟨g,0,none⟩) k cap) LA):=Aa fun W' hb=>by rw [<- hLA.out];exact (HV.out.take k (by rw [hN.out];exact hk)).below hb nR
   have hD:Hid (∀ W',Below wr wr W'->Strs wr W' (.slice (if cap=k then some ⟨g,0,none⟩ else some ⟨g,k,none⟩) (N - k) (cap - k)) LB):=Aa fun W' hb=>by
    rw [<- hLB.out];refine⟨_,cap - k,by rw [Et,hN.out],by rw [Et,hN.out];omega,oM,fun hn0=>?_⟩;have hkN:k<N:=by
     rcases Nu k N with h|h;·exact h
     ·exact absurd (Ky (by rw [hN.out];exact h)) hn0
    rw [Af oM];obtain⟨_,_,ev,_,_,hne⟩:=HV.out;injection ev with ev1 ev2 ev3;obtain⟨b,off,e,hbl,hcells⟩:=hne (by intro h;have:=hN.out;simp [h] at this;omega);rw [<- ev1] at e;cases e;refine⟨g,k,rfl,hbl,fun j l hj=>?_⟩;rw [Ii] at hj;have:=hcells (k+j) l hj;rw [Bh] at this;exact (hb.cell (p:=⟨g,k+j,none⟩) hbl).trans this
   have hLn:Hid (LA.length+1+LB.length<=N+1):=Aa (by rw [<- hLA.out,<- hLB.out,Ec,Et,hN.out];omega);have hkc:(k:Int)<=(cap:Int):=oM;have hkn:(k:Int)<=(N:Int):=oM;have z0:(0:Int)<=(k:Int):=oM;have zk:((k:Int)).toNat=k:=oM;by_cases hlt:k<N;focus
    obtain⟨_,_,ev,_,_,hne⟩:=HV.out;injection ev with ev1 ev2 ev3;rw [<- ev1] at hne;clear ev1 ev2 ev3;obtain⟨b,off,e,hbl,hcells⟩:=hne (by intro h;have:=hN.out;simp [h] at this;omega);cases e;obtain⟨l,hl'⟩:∃ l,ls[k]?=some l:=⟨_,Ad (by rw [hN.out];exact hlt)⟩
    have e1:=hcells k l hl';rw [Bh] at e1;have hk':(k:Int)<(N:Int):=oM;clear hcells hl' hne;go_wp2_with fail;all_goals first |(exact⟨⟨k+1,oM,by go_num,trivial⟩,by simp [ZG];omega⟩) |(go_ret;exact⟨_,ls,rfl,hv0.out,by rw [hN.out];omega,Ac _ _⟩) |skip
   rotate_left;focus have hk':¬ (k:Int)<(N:Int):=oM;go_wp2_with fail
   all_goals
    refine F8 (S:=fun W'=>Below wr wr W') kR hB0 (fun hHeld=>?_);refine tk 1 (v:=?_) rfl rF hHeld ?_ ?_;rotate_left;·(intro w hSw;go_simp;try with_reducible rfl)
    (try simp only [ZF,pD,pE,pF,pA,pB,pC]);refine tk 2 (v:=?_) rfl rF hHeld ?_ ?_;rotate_left;·(intro w hSw;go_simp;try with_reducible rfl)
    (try simp only [ZF,pD,pE,pF,pA,pB,pC]);refine tk 3 (v:=?_) rfl rF hHeld ?_ ?_;rotate_left;·(intro w hSw;go_simp;try with_reducible rfl)
    (try simp only [ZF,pD,pE,pF,pA,pB,pC]);refine tk 5 (v:=?_) rfl rF hHeld ?_ ?_;rotate_left;·(intro w hSw;go_simp;try with_reducible rfl)
    (try simp only [ZF,pD,pE,pF,pA,pB,pC]);refine tk 8 (v:=?_) rfl rF hHeld ?_ ?_;rotate_left;·(intro w hSw;go_simp;try with_reducible rfl)
    (try simp only [ZF,pD,pE,pF,pA,pB,pC]);refine tk 9 (v:=?_) rfl rF hHeld ?_ ?_;rotate_left;·(intro w hSw;go_simp;try with_reducible rfl)
    (try simp only [ZF,pD,pE,pF,pA,pB,pC]);refine tk 10 (v:=?_) rfl rF hHeld ?_ ?_;rotate_left;·(intro w hSw;go_simp;try with_reducible rfl)
    (try simp only [ZF,pD,pE,pF,pA,pB,pC]);refine Fq (rs:=[0,6]) kR sM ?_;refine Ce (o:=_) rfl (fun K hK=>?_) ?_;focus
     go_simp;have hB1:Below wr wr (wr.alloc (.cells #[] 9)).drew:=((Ac _ wr).alloc nR _).drew;have hO1:Ay wr (wr.alloc (.cells #[] 9)).drew (.slice (some ⟨wr,0,none⟩) 0 0) []:=(Hd wr [] sM).below (Ac _ _).drew;have hg1:wr.heap.size<(wr.alloc (.cells #[] 9)).drew.heap.size:=by show _<(wr.alloc (.cells #[] 9)).heap.size;simp
     refine hK.out _ _ hB1 (fun hHeld=>?_);clear hK;generalize (wr.alloc (.cells #[] 9)).drew=W1 at *;(try simp only [ZF,pD,pE,pF,pA,pB,pC]);refine Fq (rs:=[4,6]) kR sM ?_;refine Ce (o:=_) rfl (fun K hK=>?_) ?_;focus rw [Ap rF];refine Cs _ _ rfl wr _ [] rfl hO1 wr _ LA rfl (hA.out W1 hB1) (by have:=hLn.out;simp;omega) hB1.size ?_;intro v2 w2 hO2 hg2;rw [Dp] at hO2;have hB2:Below wr wr w2:=hB1.grown hg2 hB1.size (fun j hj=>(D7 hO1 j hj).1);refine hK.out _ _ hB2 (fun hHeld=>?_);clear hK;(try simp only [ZF,pD,pE,pF,pA,pB,pC]);refine rk 6 rfl (fun K hK=>?_);go_simp;have hBx:Below wr wr (w2.alloc (.cells #[↑s] 9)):=hB2.alloc hB2.size _;have hOx:Ay wr (w2.alloc (.cells #[↑s] 9)) v2 LA:=hO2.below ((Ac _ w2).alloc nR _);have hXx:=V0 (Au w2 (.cells #[↑s] 9));refine hK.out _ _ hBx (fun hHeld=>?_);clear hK hB1 hO1 hO2 hg2 hB2 hg1;generalize (w2.alloc (.cells #[↑s] 9))=Wx at *;(try simp only [ZF,pD,pE,pF,pA,pB,pC])
     rotate_left;focus refine Ce (o:=_) rfl (fun K hK=>?_) Ey;go_simp;have hB2:Below wr wr (W1.alloc (.cells #[↑s] 9)):=hB1.alloc hB1.size _;have hO2:Ay wr (W1.alloc (.cells #[↑s] 9)) (.slice (some ⟨wr,0,none⟩) 0 0) []:=hO1.below ((Ac _ W1).alloc nR _);have hX2:=Au W1 (.cells #[↑s] 9);refine hK.out _ _ hB2 (fun hHeld=>?_);clear hK;(try simp only [ZF,pD,pE,pF,pA,pB,pC]);refine rk 4 rfl (fun K hK=>?_);rw [Ap rF];refine Cs _ _ rfl wr _ [] rfl hO2 wr _ LA rfl (hA.out _ hB2) (by have:=hLn.out;simp;omega) hB2.size ?_;intro v2 Wx hOx hg2;rw [Dp] at hOx;have hBx:Below wr wr Wx:=hB2.grown hg2 hB2.size (fun j hj=>(D7 hO2 j hj).1);have hXx:=V0 ((hg2.block W1 sM (fun e=>by injection e with e;dsimp only at e;omega)).trans hX2);refine hK.out _ _ hBx (fun hHeld=>?_);clear hK hB1 hO1 hO2 hg2 hB2 hX2 hg1;(try simp only [ZF,pD,pE,pF,pA,pB,pC])
     rotate_left
    rotate_left 2;focus
     refine Ce (o:=_) rfl (fun K hK=>?_) Ey;go_simp;have hB1:Below wr wr (wr.alloc (.cells #[↑s] 9)).drew:=((Ac _ wr).alloc nR _).drew;have hX1:(wr.alloc (.cells #[↑s] 9)).drew.heap[wr.heap.size]?=_:=Au wr (.cells #[↑s] 9);have hg1:wr.heap.size<(wr.alloc (.cells #[↑s] 9)).drew.heap.size:=by show _<(wr.alloc (.cells #[↑s] 9)).heap.size;simp
     refine hK.out _ _ hB1 (fun hHeld=>?_);clear hK;generalize (wr.alloc (.cells #[↑s] 9)).drew=W1 at *;(try simp only [ZF,pD,pE,pF,pA,pB,pC]);refine rk 0 rfl (fun K hK=>?_);go_simp;have hB2:Below wr wr (W1.alloc (.cells #[] 9)):=hB1.alloc hB1.size _;have hO2:Ay wr (W1.alloc (.cells #[] 9)) (.slice (some ⟨W1,0,none⟩) 0 0) []:=(Hd W1 [] sM).low hB1.size;have hX2:=(((Ac _ W1).alloc nR (.cells #[] 9)).block wr.heap.size hg1).trans hX1;refine hK.out _ _ hB2 (fun hHeld=>?_);clear hK;(try simp only [ZF,pD,pE,pF,pA,pB,pC]);refine rk 4 rfl (fun K hK=>?_);rw [Ap rF];refine Cs _ _ rfl wr _ [] rfl hO2 wr _ LA rfl (hA.out _ hB2) (by have:=hLn.out;simp;omega) hB2.size ?_;intro v2 Wx hOx hg2;rw [Dp] at hOx;have hBx:Below wr wr Wx:=hB2.grown hg2 hB2.size (fun j hj=>(D7 hO2 j hj).1);have hXx:=V0 ((hg2.block wr (by simp;omega) (fun e=>by injection e with e;dsimp only at e;omega)).trans hX2);refine hK.out _ _ hBx (fun hHeld=>?_);clear hK hB1 hO2 hg2 hB2 hX2 hX1 hg1;(try simp only [ZF,pD,pE,pF,pA,pB,pC])
    all_goals
     obtain⟨BX,hXx⟩:=hXx;refine rk 7 rfl (fun K hK=>?_);rw [Ap rF];refine Cs _ _ rfl wr _ LA rfl hOx BX _ [s] rfl hXx (by have:=hLn.out;simp;omega) hBx.size ?_;intro v4 w4 hO4 hg4;have hB4:Below wr wr w4:=hBx.grown hg4 hBx.size (fun j hj=>(D7 hOx j hj).1);refine hK.out _ _ hB4 (fun hHeld=>?_);clear hK;(try simp only [ZF,pD,pE,pF,pA,pB,pC]);refine rk 11 rfl (fun K hK=>?_);rw [Ap rF];refine Cs _ _ rfl wr _ (LA++[s]) rfl hO4 wr _ LB rfl (hD.out _ hB4) (by have:=hLn.out;simp;omega) hB4.size ?_;intro v5 w5 hO5 hg5;have hB5:Below wr wr w5:=hB4.grown hg5 hB4.size (fun j hj=>(D7 hO4 j hj).1);refine hK.out _ _ hB5 (fun hHeld=>?_);clear hK;(try simp only [ZF,pD,pE,pF,pA,pB,pC]);refine tk 12 (v:=?_) rfl rF hHeld ?_ ?_;rotate_left;·(intro w hSw;go_simp;try with_reducible rfl)
     (try simp only [ZF,pD,pE,pF,pA,pB,pC]);refine Eb kR ?_ _;go_wp2;all_goals go_ret;exact⟨v5,LA++[s]++LB,rfl,hO5.low (Bd _),by have:=hLn.out;simp;omega,hB5⟩
end
section
open Go.Lib Go.Proofs.Tryz Go.RowKit Go.Shelf Go.Sort CH
attribute [local irreducible] wpQuiet
theorem Ggw (h:aS) (vj:ZC) (w:ZB) (hv:Strs w w vj h.joint) (hen:h.stop = -1\/h.start<h.stop) : ZE prog 230 #[.agg (A5 h vj).toArray,↑h.start] w (Ret w (.bool true)):=by
 have hB0:=Aa fun o=>(Ac _ w).alloc nR o;obtain⟨_,_,rfl,_,_⟩:=hv.form;clear hv;generalize h.joint.length=n1 at *;dsimp only [A5,ay,aJ] at *;rcases hen with e|e;·rw [e];clear e;go_enter func230,ntmps230;exact FD108
 ·have q1:ZH (h.start<h.stop)=true:=Ak e;by_cases e1:h.stop = -1;·rw [e1];clear e e1 q1;go_enter func230,ntmps230;exact FD108
  ·have q2:(h.stop==-1)=false:=by simpa using e1
   clear e1;go_enter func230,ntmps230;exact FD108
theorem Ggv (h:aS) (vj:ZC) (g:Nat) (w:ZB) (hr:w.rangeAt g 0 (A5 h vj)) (hg:g<w.heap.size) (hv:Strs w w vj h.joint) (hen:h.stop = -1\/h.start<h.stop) (hc:0<=h.capital/\h.capital<=100) (hvo:0<=h.bZ/\h.bZ<=100) : ZE prog 169 #[.slice (some ⟨g,0,none⟩) 1 1] w (Ret w (.bool true)):=by
 have R:=Aa fun (W:ZB) (hb:Below w w W)=>Ggw h vj W ((hv.below hb nR).mono hb.size) hen;have HR:=Aa fun (W:ZB) (hb:Below w w W) (j:Nat) (u:ZC) (hj:(A5 h vj)[j]?=some u)=>(show W.cell? ⟨g,j,none⟩=some u from by have:=hr j u hj;rw [Bh] at this;exact (hb.cell (p:=⟨g,j,none⟩) hg).trans this)
 obtain⟨_,_,rfl,_,_⟩:=hv.form;clear hv hr;generalize h.joint.length=n1 at *;dsimp only [A5,ay,aJ] at *;go_enter func169,ntmps169;go_wp2_with fail;go_loopw [3] (fun iv wr=>(iv=.int .i64 0\/iv=.int .i64 1)/\Hid (Below w w wr)) (fun iv _=>1 - (ZG iv).toNat);case atStart=>exact⟨.inl rfl,Aa (Ac _ _)⟩
 case round =>
  obtain⟨rfl|rfl,hB⟩:=hrel
  ·go_wp2_with fail;go_loopw [4,5,6] (fun cv vv kv wr=>((kv=.int .i64 0/\cv=.int .i64 0/\vv=.int .i64 0)\/(kv=.int .i64 1/\cv=↑h.capital/\vv=↑h.bZ))/\Hid (Below w w wr)) (fun _ _ kv _=>1 - (ZG kv).toNat);case atStart=>exact⟨.inl ⟨rfl,rfl,rfl⟩,hB⟩
   case round =>
    obtain⟨⟨rfl,rfl,rfl⟩|⟨rfl,rfl,rfl⟩,hB⟩:=hrel
    ·have x:=HR.out _ hB.out;have x0:=x 0 _ rfl;have x1:=x 1 _ rfl;have x2:=x 2 _ rfl;have x3:=x 3 _ rfl;have x4:=x 4 _ rfl;have x5:=x 5 _ rfl;have x6:=x 6 _ rfl;have x7:=x 7 _ rfl;have x8:=x 8 _ rfl;have x9:=x 9 _ rfl;have y0:=@Ae _ _ _ x0;have y1:=@Ae _ _ _ x1;have y2:=@Ae _ _ _ x2;have y3:=@Ae _ _ _ x3;have y4:=@Ae _ _ _ x4;have y5:=@Ae _ _ _ x5;have y6:=@Ae _ _ _ x6;have y7:=@Ae _ _ _ x7;have y8:=@Ae _ _ _ x8;have y9:=@Ae _ _ _ x9;have RR:=Aa fun (W':ZB) (hb':Below _ _ W')=>R.out W' (hB.out.trans (hb'.mono hB.out.size));have eqc:((⟨h.company.toArray⟩:ByteArray)==⟨h.company.toArray⟩)=true:=by rw [Cw];simp
     clear x;go_wp2_with fail;refine Ba kR kR ?_;repeat (quiet_step ((with_reducible exact Bg (RR.out _ (Dx _ _ _)))))
     refine Cj ?_;intro wq hbq;replace hbq:=As hbq;clear y0 y1 y2 y3 y4 y5 y6 y7 y8 y9 x0 x1 x2 x3 x4 x5 x6 x7 x8 x9 RR;have hB2:=Aa (hB.out.trans (hbq.mono hB.out.size));have x6:=HR.out _ hB2.out 6 _ rfl;have x7:=HR.out _ hB2.out 7 _ rfl;go_wp2;go_roundw;case rel=>exact⟨.inr ⟨by go_num,by go_num,by go_num⟩,hB2⟩
     case measure=>simp [ZG]
    ·have q1:ZH (100<h.capital)=false:=Aq oM;have q2:ZH (100<h.bZ)=false:=Aq oM;go_wp2;go_roundw;case rel=>exact⟨.inr (by go_num),hB⟩
     case measure=>simp [ZG]
  ·exact FD118
end
section
open Go.Lib Go.Proofs.Tryz Go.RowKit Go.Shelf Go.Sort CH
attribute [local irreducible] wpQuiet
theorem J0 {w:ZB} {n:Nat} {e:Ending} {w':ZB} (h:H3l w n e w'):∃ v ls a c,e=.returned v/\v=.slice a ls.length c/\Ay 0 w' v ls/\ls.length<=n/\Below w w w':=by obtain⟨v,ls,rfl,hO,hl,hb⟩:=h;obtain⟨a,c,hv,_⟩:=hO.form;exact⟨v,ls,a,c,rfl,hv,hO,hl,hb⟩
theorem Y6 (h:aS) (vj:ZC) (g:Nat) (w:ZB) (hr:w.rangeAt g 0 (A5 h vj)) (hg:g<w.heap.size) (hv:Strs w w vj h.joint) (hj4:h.joint.length<=4) : ZE prog 168 #[.slice (some ⟨g,0,none⟩) 1 1] w (H3l w 8):=by
 have P:=Aa fun (v:ZC) (ls:List (List UInt8)) (s:List UInt8) (W:ZB) (hO:Ay 0 W v ls) (hl:ls.length<=7)=>Ggx v ls s W hO oM;have HR:=Aa fun (W:ZB) (hb:Below w w W) (j:Nat) (u:ZC) (hj:(A5 h vj)[j]?=some u)=>(show W.cell? ⟨g,j,none⟩=some u from by have:=hr j u hj;rw [Bh] at this;exact (hb.cell (p:=⟨g,j,none⟩) hg).trans this)
 obtain⟨aj,cj,rfl,hl,hcap,hne⟩:=hv;replace hne:=Aa hne;obtain⟨N,hN⟩:∃ N,h.joint.length=N:=⟨_,rfl⟩
 rw [hN] at hl hj4;clear hr;dsimp only [A5,ay,aJ] at *;rw [hN] at HR;replace hN:=Aa hN;go_enter func168,ntmps168;go_wp2_with fail;go_loopw [3,4] (fun ov iv wr=>((iv=.int .i64 0/\ov=.slice none 0 0)\/(iv=.int .i64 1/\∃ a n c,ov=.slice a n c/\Hid (∃ ls,Ay 0 wr ov ls/\ls.length<=8)))/\Hid (Below w w wr)) (fun _ iv _=>1 - (ZG iv).toNat);case atStart=>exact⟨.inl ⟨rfl,rfl⟩,Aa (Ac _ _)⟩
 case round =>
  obtain⟨⟨rfl,rfl⟩|⟨rfl,a,n,c,rfl,hO⟩,hB⟩:=hrel
  ·have x:=HR.out _ hB.out;have x0:=x 0 _ rfl;have x1:=x 1 _ rfl;have x2:=x 2 _ rfl;have x3:=x 3 _ rfl;have x4:=x 4 _ rfl;have x5:=x 5 _ rfl;have x6:=x 6 _ rfl;have x7:=x 7 _ rfl;have x8:=x 8 _ rfl;have x9:=x 9 _ rfl;clear x;go_wp2_with fail;generalize hWd:wr.alloc _=W at *;have hBW:Below w w W:=by rw [<- hWd];exact hB.out.alloc hB.out.size _
   have K:=Aa (Ct (C:=_) hWd);clear hWd x0 x1 x2 x3 x4 x5 x6 x7 x8 x9 hB;have hD:Below W W W.drew:=(Ac _ W).drew;refine F8 (S:=fun W'=>Below W W W') kR hD (fun hHeld=>?_);refine tk 0 (v:=?_) rfl rF hHeld ?_ ?_;rotate_left;·(intro w hSw;go_simp;try with_reducible rfl)
   (try simp only [ZF,pD,pE,pF,pA,pB,pC]);refine tk 1 (v:=?_) rfl rF hHeld ?_ ?_;rotate_left;·(intro w hSw;go_simp;try with_reducible rfl)
   (try simp only [ZF,pD,pE,pF,pA,pB,pC]);refine tk 2 (v:=?_) rfl rF hHeld ?_ ?_;rotate_left;·(intro w hSw;have q:=K.out w hSw 1 _ rfl;go_simp;try with_reducible rfl)
   (try simp only [ZF,pD,pE,pF,pA,pB,pC]);refine tk 4 (v:=?_) rfl rF hHeld ?_ ?_;rotate_left;·(intro w hSw;go_simp;try with_reducible rfl)
   (try simp only [ZF,pD,pE,pF,pA,pB,pC]);refine tk 5 (v:=?_) rfl rF hHeld ?_ ?_;rotate_left;·(intro w hSw;have q:=K.out w hSw 2 _ rfl;go_simp;try with_reducible rfl)
   (try simp only [ZF,pD,pE,pF,pA,pB,pC]);refine rk 3 rfl (fun Kx hK=>?_);go_simp;refine (P.out _ [] _ _ (Ay.nil _ _) sM).mono ?_;rintro e w2 hP;obtain⟨v2,l2,a2,c2,rfl,rfl,hO2,hl2,hb2⟩:=J0 hP;have hE2:Below W W w2:=hD.trans (hb2.mono hD.size);go_wp2_with fail;refine hK.out _ _ hE2 (fun hHeld=>?_);clear hK hP;(try simp only [ZF,pD,pE,pF,pA,pB,pC]);refine rk 6 rfl (fun Kx hK=>?_);go_simp;refine (P.out _ l2 _ _ hO2 (by simp at hl2;omega)).mono ?_;rintro e w3 hP;obtain⟨v3,l3,a3,c3,rfl,rfl,hO3,hl3,hb3⟩:=J0 hP;have hE3:Below W W w3:=hE2.trans (hb3.mono hE2.size);have hl3:l3.length<=2:=by simp at hl2;omega
   go_wp2_with fail;refine hK.out _ _ hE3 (fun hHeld=>?_);clear hK hP;(try simp only [ZF,pD,pE,pF,pA,pB,pC]);refine tk 7 (v:=?_) rfl rF hHeld ?_ ?_;rotate_left;·(intro w hSw;go_simp;try with_reducible rfl)
   (try simp only [ZF,pD,pE,pF,pA,pB,pC]);refine Eb kR ?_ _;replace hE3:=Aa hE3;clear hHeld hO2 hb2 hb3 hE2 hD;go_wp2_with fail;go_loopw [3,6] (fun ov kv wr=>∃ (k:Nat) (a:Option Addr) (n c:Nat),k<=N/\kv=↑k/\ov=.slice a n c/\Hid (∃ ls,Ay 0 wr ov ls/\ls.length<=2+k/\ls.length=n)/\Hid (Below W W wr)) (fun _ kv _=>N - (ZG kv).toNat);case atStart=>exact⟨0,_,_,_,Bd _,rfl,rfl,Aa ⟨l3,hO3,oM,rfl⟩,hE3⟩
   case round =>
    obtain⟨k,a,n,c,hk,rfl,rfl,⟨lo,hO,hlo,hln⟩,hB⟩:=hrel;have k5:=K.out _ hB.out 5 _ rfl;by_cases hlt:k<N
    ·obtain⟨b,off,rfl,hbl,hcells⟩:=hne.out (by intro e;have:=hN.out;rw [e] at this;simp at this;omega);obtain⟨x,hx⟩:∃ x,h.joint[k]?=some x:=⟨_,Ad (by rw [hN.out];exact hlt)⟩
     have hBw:=hBW.trans (hB.out.mono hBW.size);have e1:=(hBw.cell (p:=⟨b,off+k,none⟩) hbl).trans (hcells k x hx);have z0:(0:Int)<=(k:Int):=oM;have zk:((k:Int)).toNat=k:=oM;have hk':(k:Int)<(N:Int):=oM;have PP:=Aa (P.out _ lo x _ hO oM);clear hcells hx hBw hO;go_wp2_with fail;refine PP.out.mono ?_;rintro e w4 hP;obtain⟨v4,l4,a4,c4,rfl,rfl,hO4,hl4,hb4⟩:=J0 hP;have hB4:=Aa (hB.out.trans (hb4.mono hB.out.size));have hO4:=Aa (⟨l4,hO4,oM,rfl⟩:∃ ls,Ay 0 w4 (.slice a4 l4.length c4) ls/\ls.length<=2+(k+1)/\ls.length=l4.length);generalize l4.length=n4 at *;clear PP hP hb4 e1 k5;go_wp2;go_roundw;case rel=>exact⟨k+1,_,_,_,oM,by go_num,rfl,hO4,hB4⟩
     case measure=>simp [ZG];omega
    ·have hk':¬ (k:Int)<(N:Int):=oM;have k3:=K.out _ hB.out 3 _ rfl;have k4:=K.out _ hB.out 4 _ rfl;have JE:lo.length<=6:=oM;subst hln;replace hE3:=Aa (hBW.trans (hB.out.mono hBW.size));rcases Nat.eq_zero_or_pos h.ah.length with n0|n0 <;> rcases Nat.eq_zero_or_pos h.aB.length with p0|p0
     ·have e3:h.ah=[]:=Cb.1 n0;rw [e3] at k3;have e4:h.aB=[]:=Cb.1 p0;rw [e4] at k4;go_wp2;go_roundw;case rel=>exact⟨.inr ⟨by go_num,_,_,_,rfl,Aa ⟨_,hO,oM⟩⟩,Aa hE3.out⟩
      case measure=>simp [ZG]
     ·have e3:h.ah=[]:=Cb.1 n0;rw [e3] at k3;have y1:=Kl p0;have y2:=I6 p0;go_wp2_with fail;refine (P.out _ lo _ _ hO oM).mono ?_;rintro e w5 hP;obtain⟨v5,l5,a5,c5,rfl,rfl,hO5,hl5,hb5⟩:=J0 hP;have hb5:=hB.out.trans (hb5.mono hB.out.size);have k4:=K.out _ hb5 4 _ rfl;clear hP;exact FD92
     ·have x1:=Kl n0;have x2:=I6 n0;go_wp2_with fail;refine (P.out _ lo _ _ hO oM).mono ?_;rintro e w5 hP;obtain⟨v5,l5,a5,c5,rfl,rfl,hO5,hl5,hb5⟩:=J0 hP;have hb5:=hB.out.trans (hb5.mono hB.out.size);have k4:=K.out _ hb5 4 _ rfl;clear hP;have e4:h.aB=[]:=Cb.1 p0;rw [e4] at k4;exact FD92
     ·have x1:=Kl n0;have x2:=I6 n0;have y1:=Kl p0;have y2:=I6 p0;go_wp2_with fail;refine (P.out _ lo _ _ hO oM).mono ?_;rintro e w5 hP;obtain⟨v5,l5,a5,c5,rfl,rfl,hO5,hl5,hb5⟩:=J0 hP;have hb5:=hB.out.trans (hb5.mono hB.out.size);have k4:=K.out _ hb5 4 _ rfl;clear hP;go_wp2_with fail;refine (P.out _ l5 _ _ hO5 oM).mono ?_;rintro e w6 hP;obtain⟨v6,l6,a6,c6,rfl,rfl,hO6,hl6,hb6⟩:=J0 hP;have hb6:=hb5.trans (hb6.mono hb5.size);have k4:=K.out _ hb6 4 _ rfl;clear hP;go_wp2;go_roundw;case rel=>exact⟨.inr ⟨by go_num,_,_,_,rfl,Aa ⟨_,hO6,oM⟩⟩,Aa (hBW.trans (hb6.mono hBW.size))⟩
      case measure=>simp [ZG]
  ·obtain⟨ls,hO,hl⟩:=hO.out;go_wp2;go_ret;exact⟨_,ls,rfl,hO,hl,hB.out⟩
end
end Go.Proofs.YtpkjhpenpfcpfaaGreatDoor
