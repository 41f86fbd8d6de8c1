/-
  ChainMakes: the proof, part 9 of 34.
-/
import Derived.Test.YtdgmgjeoikcgbaaGreatDoorP04
import Derived.Test.YtdgmgjeoikcgbaaGreatDoorP05
set_option linter.unusedSimpArgs false
set_option linter.unusedVariables false
set_option maxHeartbeats 40000000
set_option maxRecDepth 100000
open Go renaming undef -> ZA, World -> ZB, Value -> ZC, Calls -> ZE, redrawn -> ZI
open Go.Act renaming put -> ZF
open Go.RowKit renaming intOf -> ZG
open Decidable renaming decide -> ZH
namespace Go.Proofs.YtdgmgjeoikcgbaaGreatDoor
section
open Go.Lib Go.Proofs.Tryz Go.RowKit Go.Shelf CH
attribute [local go_sem] Je
theorem Y4 (k:Int) (s:List UInt8) (w:ZB) : ZE prog 272 #[↑k,↑s] w (fun e w'=>e=.returned (.func (.func 304) #[] #[.pointer (some ⟨w,0,none⟩),.pointer (some ⟨w+1,0,none⟩)])/\w'=(w.alloc (.cells #[↑k] 3)).alloc (.cells #[↑s] 9)):=by go_enter func272,ntmps272;exact FD40
structure oz (w:ZB) (k:Int) (s:List UInt8) (pre:List (List UInt8)) (W:ZB):Prop where
 le:w.heap.size+4<=W.heap.size
 out:∃ v,W.heap[w.heap.size]?=some (.cells #[v] 25 (0,0))/\Ax (w+4) W v pre
 rest:W.heap[w.heap.size+1]?=some (.cells #[.string ⟨((CH.letters k pre.length s).2).toArray⟩] 9 (0,0))
 below:Below w w W
def Msk (w:ZB) (r:Int) (e:Ending) (w':ZB):Prop:=∃ v,e=.returned (.tuple #[v,↑r])/\Below w w w'
theorem oz.own (w:ZB) (k:Int) (s:List UInt8) (B:Nat) (hB:w.heap.size+4<=B):OwnFrom B (fun pre W=>oz w k s pre W):=by
 intro pre W W' row h hg hr;obtain⟨hle,⟨v,hv,hO⟩,hrest,hb⟩:=h;have hne:∀ j,j<w.heap.size+4->some j≠row:=fun j hj e=>by have:=(hr j e.symm).1;omega
 refine⟨Af hle hg.size,⟨v,(hg.block _ oM (hne _ oM)).trans hv,?_⟩,(hg.block _ oM (hne _ oM)).trans hrest,?_⟩;·exact Km hO hg (fun r e=>(hr r e).2)
 ·exact hb.grown hg hb.size (fun j e=>by have:=(hr j e).1;omega)
theorem oz.set (w:ZB) (k:Int) (s:List UInt8) (pre:List (List UInt8)) (W:ZB) (u:ZC) (h:oz w k s pre W):oz w k s pre (W.setCell ⟨w+3,0,none⟩ u):=by obtain⟨hle,⟨v,hv,hO⟩,hrest,hb⟩:=h;refine⟨by simp [World.setCell];exact hle,⟨v,(Bu _ _ _ _ (by show w.heap.size≠w.heap.size+3;omega)).trans hv,hO.fV oM _ _⟩,(Bu _ _ _ _ (by show w.heap.size+1≠w.heap.size+3;omega)).trans hrest,hb.setCell (by show w.heap.size<=w.heap.size+3;omega) _⟩
theorem S6 (w:ZB) (o1 o2 o3 o4:Obj) : ((((w.alloc o1).alloc o2).alloc o3).alloc o4).heap[w.heap.size]?=some o1/\((((w.alloc o1).alloc o2).alloc o3).alloc o4).heap[w.heap.size+1]?=some o2 /\ ((((w.alloc o1).alloc o2).alloc o3).alloc o4).heap[w.heap.size+2]?=some o3/\((((w.alloc o1).alloc o2).alloc o3).alloc o4).heap[w.heap.size+3]?=some o4:=by
 have e:((((w.alloc o1).alloc o2).alloc o3).alloc o4).heap=(((w.heap.push o1).push o2).push o3).push o4:=by simp only [World.alloc]
 rw [e];simp only [Dl,Ed];refine⟨?_,?_,?_,?_⟩;·rw [Ah oM,Ah oM,Ah oM,Ar trivial]
 ·rw [Ah oM,Ah oM,Ar trivial]
 ·rw [Ah oM,Ar trivial]
 ·rw [Ar trivial]
theorem Eqs (k:Int) (s:List UInt8) (w:ZB) (hG:Gc w) (hs:s.length<=1000000) : ZE prog 219 #[↑k,↑s] w (Msk w (if dH k s then 0 else 1)):=by
 obtain⟨r,hr⟩:∃ r:Int,Hid ((if dH k s then (0:Int) else 1)=r):=⟨_,Aa rfl⟩
 rw [hr.out];refine (Ir (n:=4)).1 ?_;refine callsIn_of_wp_marks func219 rfl trivial ?_ rfl;simp only [ntmps219,Hu,Ba,Bj,Nat.reduceAdd,Nat.reduceSub,Ho,Hg,H9,Hq,Dp,Dv];refine Lj.2 ?_;go_wp2_with fail;refine (Y4 k s _).mono ?_;rintro e w1 ⟨rfl,hw1⟩;simp only [Dn] at hw1 ⊢;have hB1:Below w w w1:=by rw [hw1];exact ((((Ac _ w).alloc nR _).alloc sM _).alloc (by simp;omega) _).alloc (by simp;omega) _
 have hsz:w1.heap.size=w.heap.size+4:=by rw [hw1];simp
 have e0:w1.heap[w.heap.size]?=some (.cells #[.slice none 0 0] 25 (0,0)):=by rw [hw1];exact (S6 w _ _ _ _).1
 have e1:w1.heap[w.heap.size+1]?=some (.cells #[↑s] 9 (0,0)):=by rw [hw1];exact (S6 w _ _ _ _).2.1
 have e2:w1.heap[w.heap.size+2]?=some (.cells #[↑k] 3 (0,0)):=by rw [hw1];exact (S6 w _ _ _ _).2.2.1
 have e3:w1.heap[w.heap.size+3]?=some (.cells #[↑s] 9 (0,0)):=by rw [hw1];exact (S6 w _ _ _ _).2.2.2
 clear hw1;go_wp2_with fail;refine (Lj (n:=4)).1 ?_;refine Cut (n:=4) (w.heap.size+3) oM rfl dC (gf:=304) (lb:=#[.pointer (some ⟨w+2,0,none⟩),.pointer (some ⟨w+3,0,none⟩)]) rfl trivial (enters_of func304 kR rfl) (Env k s hs 3 dC w (w+3) (w.heap.size+2) w w1 hG rfl hB1 oM oM oM e3 e2) (fun h1 h2=>⟨h1.1.trans h2.1,h2.2.1.trans h1.2.1,h2.2.2.trans h1.2.2⟩) (fun W l o o' hl ho _ _=>⟨(Ac _ W).grown (grownBy_putObj' W l o') (by have:=(aZ ho);omega) (fun j e=>by cases e;omega),World.putObj_heap_other oM,World.putObj_heap_other oM⟩) (Ac _ _) (fun _=>rfl) (fun pre W=>oz w k s pre W/\pre.length<=12) (fun c pre W=>c=.exit 0/\pre.length=13/\(CH.letters k 13 s).1=pre/\oz w k s pre W) (fun pre A B row h hg hr=>⟨oz.own w k s _ oM pre A B row h.1 hg hr,h.2⟩) (fun c pre A B row h hg hr=>⟨h.1,h.2.1,h.2.2.1,oz.own w k s _ oM pre A B row h.2.2.2 hg hr⟩) (fun pre A v h=>⟨oz.set w k s pre A v h.1,h.2⟩) ⟨⟨oM,⟨_,e0,Ax.nil _ _⟩,e1,hB1⟩,sM⟩ (fun x=>{ tmps:=#[↑k,↑s,ZA,ZA,.slice none 0 0,.int .i64 0,.pointer (some ⟨w,0,none⟩),.pointer (some ⟨w+1,0,none⟩),↑x,↑s,↑k,↑s,.func (.func 304) #[] #[.pointer (some ⟨w+2,0,none⟩),.pointer (some ⟨w+3,0,none⟩)],↑x,ZA,ZA,ZA,ZA,ZA,ZA,ZA,ZA,ZA,ZA,ZA,ZA,ZA,ZA,ZA,ZA,ZA,ZA,ZA,ZA,ZA,ZA,ZA,ZA],defers:=[] }) ?assign ?body ?done ?stop;case assign =>intro l x W K hK;gi_wp2;exact hK
 case body =>
  rintro l pre x W ⟨hLI,hlen⟩ ⟨hN1,hN2,hN3⟩;obtain⟨hle,⟨v,hv,hO⟩,hrest,hb⟩:=hLI;have hsl:=nN k (CH.letters k pre.length s).2;have hsu:=lU k pre.length s (by rw [hN1]) hN2;rw [hN1] at hsu;generalize hj:CH.slen k (CH.letters k pre.length s).2=j at *;have hrl:=pR k pre.length s;generalize hR:(CH.letters k pre.length s).2=R at *;have hxl:x.length=j:=by rw [hN3,Dz];omega
  have hrest':(CH.letters k (pre.length+1) s).2=R.drop j:=by rw [hsu]
  have hpre':(CH.letters k (pre.length+1) s).1=pre++[x]:=by rw [hsu,hN3]
  have HS:=Aa (And.intro hrest' hpre');have hxR:x.length<=R.length:=oM;obtain⟨av,cv,rfl,hf1,hf2,_⟩:=hO.form;clear hj;subst hxl;have hex:(ByteArray.mk R.toArray).extract x.length R.length=⟨(R.drop x.length).toArray⟩:=Fk R x.length;have JX:R.length<=1000000:=oM;generalize hPL:pre.length=pl at *;have ha:∀ W',Below (w+4) W W'->W'.cell? ⟨w,0,none⟩=some (.slice av pl cv)/\W'.cell? ⟨w+1,0,none⟩=some ↑R/\W'.frozen? ⟨w,0,none⟩=false/\W'.frozen? ⟨w+1,0,none⟩=false:=fun W' hb' =>⟨(hb'.cell (p:=⟨w,0,none⟩) sM).trans (Ab hv 0),(hb'.cell (p:=⟨w+1,0,none⟩) sM).trans (Ab hrest 0),(hb'.frozen (p:=⟨w,0,none⟩) sM).trans (A9 hv 0),(hb'.frozen (p:=⟨w+1,0,none⟩) sM).trans (A9 hrest 0)⟩
  have hBd:Below (w+4) W W.drew:=(Ac _ W).drew;have hBa:∀ o,Below (w+4) W (W.drew.alloc o):=fun o=>hBd.alloc hle o;obtain⟨d0,d1,d2,d3⟩:=ha _ hBd;have q0:=fun o=>(ha _ (hBa o)).1;have q1:=fun o=>(ha _ (hBa o)).2.1;have q0':∀ o,(W.alloc o).cell? ⟨w,0,none⟩=some (.slice av pl cv):=q0;have q1':∀ o,(W.alloc o).cell? ⟨w+1,0,none⟩=some ↑R:=q1;have hO2:∀ o,Ax (w+4) (W.drew.alloc o) (.slice av pl cv) pre:=fun o=>(hO.below (Ac _ W).drew).alloc o;have hblk:=hO.ownBlock;have n0:=World.new_ne W.drew ⟨w,0,none⟩ d0;have n1:=World.new_ne W.drew ⟨w+1,0,none⟩ d1;have HA:=Aa ha;clear ha hN1 hN2 hN3 hsu hrest' hpre' hsl;gi_wp2_with fail;refine L3 (fun _=>True) _ _ kR kR ?_ trivial (fun hHeld=>?_);·rintro⟨a,w,h⟩;exact h
  refine tj 1 rfl rF hHeld ?_;(try simp only [ZF,pA,pB,pC]);refine tj 5 rfl rF hHeld ?_;(try simp only [ZF,pA,pB,pC]);refine tj 6 rfl rF hHeld ?_;(try simp only [ZF,pA,pB,pC]);refine Eb (rs:=[0,2,4]) kR sM ?_;refine Bq (o:=_) rfl (fun K hK=>?_) ?_;focus
   go_simp;refine hK.out _ _ (trivial) (fun hHeld=>?_);clear hK K;(try simp only [ZF,pA,pB,pC]);refine Eb (rs:=[2,4]) kR sM ?_;refine Bq (o:=_) rfl (fun K hK=>?_) ?_;focus
    go_simp;refine hK.out _ _ (trivial) (fun hHeld=>?_);clear hK K;(try simp only [ZF,pA,pB,pC]);refine Eb (rs:=[3,4]) kR sM ?_;refine Bq (o:=_) rfl (fun K hK=>?_) ?_;focus
     rw [Ar rF];refine Cd _ _ rfl (w+4) _ pre rfl (hO2 _) W.heap.size _ x rfl (Bz _ _ _ _ _) oM (by simp;omega) ?_;intro v5 w5 hO5 hg5;obtain⟨a5,c5,rfl,mF,mD,mg⟩:=hO5.form;have hB5:Below (w+4) W w5:=(hBa _).grown hg5 (by simp;omega) (fun k e=>(hblk k e).1);have h5:=HA.out w5 hB5;obtain⟨h50,h51,h52,h53⟩:=h5;have h54:∀ u,(w5.setCell ⟨w,0,none⟩ u).cell? ⟨w+1,0,none⟩=some ↑R:=fun u=>(D6 _ ⟨w,0,none⟩ ⟨w+1,0,none⟩ _ (fun e=>by dsimp only at e;omega)).trans h51;refine hK.out _ _ (trivial) (fun hHeld=>?_);clear hK K;(try simp only [ZF,pA,pB,pC]);refine Eb (rs:=[4,8]) kR sM ?_;refine Bq (o:=_) rfl (fun K hK=>?_) ?_;focus go_simp;refine hK.out _ _ (trivial) (fun hHeld=>?_);clear hK K;(try simp only [ZF,pA,pB,pC]);refine tj 7 rfl rF hHeld ?_;(try simp only [ZF,pA,pB,pC]);refine rk 8 rfl (fun K hK=>?_);go_simp;refine hK.out _ _ (trivial) (fun hHeld=>?_);clear hK K;(try simp only [ZF,pA,pB,pC]);refine rk 9 rfl (fun K hK=>?_);go_simp;refine hK.out _ _ (trivial) (fun hHeld=>?_);clear hK K;(try simp only [ZF,pA,pB,pC]);refine D8 kR ?_ _
     rotate_left 1;refine Bq (o:=_) rfl (fun K hK=>?_) Eo;focus go_simp;refine hK.out _ _ (trivial) (fun hHeld=>?_);clear hK K;(try simp only [ZF,pA,pB,pC]);refine rk 4 rfl (fun K hK=>?_);go_simp;refine hK.out _ _ (trivial) (fun hHeld=>?_);clear hK K;(try simp only [ZF,pA,pB,pC]);refine tj 7 rfl rF hHeld ?_;(try simp only [ZF,pA,pB,pC]);refine rk 9 rfl (fun K hK=>?_);go_simp;refine hK.out _ _ (trivial) (fun hHeld=>?_);clear hK K;(try simp only [ZF,pA,pB,pC]);refine D8 kR ?_ _
    rotate_left 2;refine Bq (o:=_) rfl (fun K hK=>?_) Eo;focus go_simp;refine hK.out _ _ (trivial) (fun hHeld=>?_);clear hK K;(try simp only [ZF,pA,pB,pC]);refine tj 7 rfl rF hHeld ?_;(try simp only [ZF,pA,pB,pC]);refine rk 3 rfl (fun K hK=>?_);rw [Ar rF];refine Cd _ _ rfl (w+4) _ pre rfl (hO2 _) W.heap.size _ x rfl (Bz _ _ _ _ _) oM (by simp;omega) ?_;intro v5 w5 hO5 hg5;obtain⟨a5,c5,rfl,mF,mD,mg⟩:=hO5.form;have hB5:Below (w+4) W w5:=(hBa _).grown hg5 (by simp;omega) (fun k e=>(hblk k e).1);have h5:=HA.out w5 hB5;obtain⟨h50,h51,h52,h53⟩:=h5;have h54:∀ u,(w5.setCell ⟨w,0,none⟩ u).cell? ⟨w+1,0,none⟩=some ↑R:=fun u=>(D6 _ ⟨w,0,none⟩ ⟨w+1,0,none⟩ _ (fun e=>by dsimp only at e;omega)).trans h51;refine hK.out _ _ (trivial) (fun hHeld=>?_);clear hK K;(try simp only [ZF,pA,pB,pC]);refine rk 8 rfl (fun K hK=>?_);go_simp;refine hK.out _ _ (trivial) (fun hHeld=>?_);clear hK K;(try simp only [ZF,pA,pB,pC]);refine rk 9 rfl (fun K hK=>?_);go_simp;refine hK.out _ _ (trivial) (fun hHeld=>?_);clear hK K;(try simp only [ZF,pA,pB,pC]);refine D8 kR ?_ _
   rotate_left 3;refine Bq (o:=_) rfl (fun K hK=>?_) Eo;focus go_simp;refine hK.out _ _ (trivial) (fun hHeld=>?_);clear hK K;(try simp only [ZF,pA,pB,pC]);refine tj 7 rfl rF hHeld ?_;(try simp only [ZF,pA,pB,pC]);refine rk 2 rfl (fun K hK=>?_);go_simp;refine hK.out _ _ (trivial) (fun hHeld=>?_);clear hK K;(try simp only [ZF,pA,pB,pC]);refine rk 3 rfl (fun K hK=>?_);rw [Ar rF];refine Cd _ _ rfl (w+4) _ pre rfl (hO2 _) W.heap.size _ x rfl (Bz _ _ _ _ _) oM (by simp;omega) ?_;intro v5 w5 hO5 hg5;obtain⟨a5,c5,rfl,mF,mD,mg⟩:=hO5.form;have hB5:Below (w+4) W w5:=(hBa _).grown hg5 (by simp;omega) (fun k e=>(hblk k e).1);have h5:=HA.out w5 hB5;obtain⟨h50,h51,h52,h53⟩:=h5;have h54:∀ u,(w5.setCell ⟨w,0,none⟩ u).cell? ⟨w+1,0,none⟩=some ↑R:=fun u=>(D6 _ ⟨w,0,none⟩ ⟨w+1,0,none⟩ _ (fun e=>by dsimp only at e;omega)).trans h51;refine hK.out _ _ (trivial) (fun hHeld=>?_);clear hK K;(try simp only [ZF,pA,pB,pC]);refine rk 8 rfl (fun K hK=>?_);go_simp;refine hK.out _ _ (trivial) (fun hHeld=>?_);clear hK K;(try simp only [ZF,pA,pB,pC]);refine rk 9 rfl (fun K hK=>?_);go_simp;refine hK.out _ _ (trivial) (fun hHeld=>?_);clear hK K;(try simp only [ZF,pA,pB,pC]);refine D8 kR ?_ _
  rotate_left 4;refine Bq (o:=_) rfl (fun K hK=>?_) ?_;focus
   go_simp;refine hK.out _ _ (trivial) (fun hHeld=>?_);clear hK K;(try simp only [ZF,pA,pB,pC]);refine Eb (rs:=[0,4]) kR sM ?_;refine Bq (o:=_) rfl (fun K hK=>?_) ?_;focus
    go_simp;refine hK.out _ _ (trivial) (fun hHeld=>?_);clear hK K;(try simp only [ZF,pA,pB,pC]);refine Eb (rs:=[3,4]) kR sM ?_;refine Bq (o:=_) rfl (fun K hK=>?_) ?_;focus
     rw [Ar rF];refine Cd _ _ rfl (w+4) _ pre rfl (hO2 _) W.heap.size _ x rfl (Bz _ _ _ _ _) oM (by simp;omega) ?_;intro v5 w5 hO5 hg5;obtain⟨a5,c5,rfl,mF,mD,mg⟩:=hO5.form;have hB5:Below (w+4) W w5:=(hBa _).grown hg5 (by simp;omega) (fun k e=>(hblk k e).1);have h5:=HA.out w5 hB5;obtain⟨h50,h51,h52,h53⟩:=h5;have h54:∀ u,(w5.setCell ⟨w,0,none⟩ u).cell? ⟨w+1,0,none⟩=some ↑R:=fun u=>(D6 _ ⟨w,0,none⟩ ⟨w+1,0,none⟩ _ (fun e=>by dsimp only at e;omega)).trans h51;refine hK.out _ _ (trivial) (fun hHeld=>?_);clear hK K;(try simp only [ZF,pA,pB,pC]);refine Eb (rs:=[4,8]) kR sM ?_;refine Bq (o:=_) rfl (fun K hK=>?_) ?_;focus go_simp;refine hK.out _ _ (trivial) (fun hHeld=>?_);clear hK K;(try simp only [ZF,pA,pB,pC]);refine tj 7 rfl rF hHeld ?_;(try simp only [ZF,pA,pB,pC]);refine rk 8 rfl (fun K hK=>?_);go_simp;refine hK.out _ _ (trivial) (fun hHeld=>?_);clear hK K;(try simp only [ZF,pA,pB,pC]);refine rk 9 rfl (fun K hK=>?_);go_simp;refine hK.out _ _ (trivial) (fun hHeld=>?_);clear hK K;(try simp only [ZF,pA,pB,pC]);refine D8 kR ?_ _
     rotate_left 1;refine Bq (o:=_) rfl (fun K hK=>?_) Eo;focus go_simp;refine hK.out _ _ (trivial) (fun hHeld=>?_);clear hK K;(try simp only [ZF,pA,pB,pC]);refine rk 4 rfl (fun K hK=>?_);go_simp;refine hK.out _ _ (trivial) (fun hHeld=>?_);clear hK K;(try simp only [ZF,pA,pB,pC]);refine tj 7 rfl rF hHeld ?_;(try simp only [ZF,pA,pB,pC]);refine rk 9 rfl (fun K hK=>?_);go_simp;refine hK.out _ _ (trivial) (fun hHeld=>?_);clear hK K;(try simp only [ZF,pA,pB,pC]);refine D8 kR ?_ _
    rotate_left 2;refine Bq (o:=_) rfl (fun K hK=>?_) Eo;focus go_simp;refine hK.out _ _ (trivial) (fun hHeld=>?_);clear hK K;(try simp only [ZF,pA,pB,pC]);refine tj 7 rfl rF hHeld ?_;(try simp only [ZF,pA,pB,pC]);refine rk 3 rfl (fun K hK=>?_);rw [Ar rF];refine Cd _ _ rfl (w+4) _ pre rfl (hO2 _) W.heap.size _ x rfl (Bz _ _ _ _ _) oM (by simp;omega) ?_;intro v5 w5 hO5 hg5;obtain⟨a5,c5,rfl,mF,mD,mg⟩:=hO5.form;have hB5:Below (w+4) W w5:=(hBa _).grown hg5 (by simp;omega) (fun k e=>(hblk k e).1);have h5:=HA.out w5 hB5;obtain⟨h50,h51,h52,h53⟩:=h5;have h54:∀ u,(w5.setCell ⟨w,0,none⟩ u).cell? ⟨w+1,0,none⟩=some ↑R:=fun u=>(D6 _ ⟨w,0,none⟩ ⟨w+1,0,none⟩ _ (fun e=>by dsimp only at e;omega)).trans h51;refine hK.out _ _ (trivial) (fun hHeld=>?_);clear hK K;(try simp only [ZF,pA,pB,pC]);refine rk 8 rfl (fun K hK=>?_);go_simp;refine hK.out _ _ (trivial) (fun hHeld=>?_);clear hK K;(try simp only [ZF,pA,pB,pC]);refine rk 9 rfl (fun K hK=>?_);go_simp;refine hK.out _ _ (trivial) (fun hHeld=>?_);clear hK K;(try simp only [ZF,pA,pB,pC]);refine D8 kR ?_ _
   rotate_left 3;refine Bq (o:=_) rfl (fun K hK=>?_) Eo;focus go_simp;refine hK.out _ _ (trivial) (fun hHeld=>?_);clear hK K;(try simp only [ZF,pA,pB,pC]);refine tj 7 rfl rF hHeld ?_;(try simp only [ZF,pA,pB,pC]);refine rk 0 rfl (fun K hK=>?_);go_simp;refine hK.out _ _ (trivial) (fun hHeld=>?_);clear hK K;(try simp only [ZF,pA,pB,pC]);refine rk 3 rfl (fun K hK=>?_);rw [Ar rF];refine Cd _ _ rfl (w+4) _ pre rfl (hO2 _) W.heap.size _ x rfl (Bz _ _ _ _ _) oM (by simp;omega) ?_;intro v5 w5 hO5 hg5;obtain⟨a5,c5,rfl,mF,mD,mg⟩:=hO5.form;have hB5:Below (w+4) W w5:=(hBa _).grown hg5 (by simp;omega) (fun k e=>(hblk k e).1);have h5:=HA.out w5 hB5;obtain⟨h50,h51,h52,h53⟩:=h5;have h54:∀ u,(w5.setCell ⟨w,0,none⟩ u).cell? ⟨w+1,0,none⟩=some ↑R:=fun u=>(D6 _ ⟨w,0,none⟩ ⟨w+1,0,none⟩ _ (fun e=>by dsimp only at e;omega)).trans h51;refine hK.out _ _ (trivial) (fun hHeld=>?_);clear hK K;(try simp only [ZF,pA,pB,pC]);refine rk 8 rfl (fun K hK=>?_);go_simp;refine hK.out _ _ (trivial) (fun hHeld=>?_);clear hK K;(try simp only [ZF,pA,pB,pC]);refine rk 9 rfl (fun K hK=>?_);go_simp;refine hK.out _ _ (trivial) (fun hHeld=>?_);clear hK K;(try simp only [ZF,pA,pB,pC]);refine D8 kR ?_ _
  rotate_left 4;refine Bq (o:=_) rfl (fun K hK=>?_) Eo;focus
   go_simp;refine hK.out _ _ (trivial) (fun hHeld=>?_);clear hK K;(try simp only [ZF,pA,pB,pC]);refine tj 7 rfl rF hHeld ?_;(try simp only [ZF,pA,pB,pC]);refine Eb (rs:=[0,2]) kR sM ?_;refine Bq (o:=_) rfl (fun K hK=>?_) ?_;focus go_simp;refine hK.out _ _ (trivial) (fun hHeld=>?_);clear hK K;(try simp only [ZF,pA,pB,pC]);refine rk 2 rfl (fun K hK=>?_);go_simp;refine hK.out _ _ (trivial) (fun hHeld=>?_);clear hK K;(try simp only [ZF,pA,pB,pC]);refine rk 3 rfl (fun K hK=>?_);rw [Ar rF];refine Cd _ _ rfl (w+4) _ pre rfl (hO2 _) W.heap.size _ x rfl (Bz _ _ _ _ _) oM (by simp;omega) ?_;intro v5 w5 hO5 hg5;obtain⟨a5,c5,rfl,mF,mD,mg⟩:=hO5.form;have hB5:Below (w+4) W w5:=(hBa _).grown hg5 (by simp;omega) (fun k e=>(hblk k e).1);have h5:=HA.out w5 hB5;obtain⟨h50,h51,h52,h53⟩:=h5;have h54:∀ u,(w5.setCell ⟨w,0,none⟩ u).cell? ⟨w+1,0,none⟩=some ↑R:=fun u=>(D6 _ ⟨w,0,none⟩ ⟨w+1,0,none⟩ _ (fun e=>by dsimp only at e;omega)).trans h51;refine hK.out _ _ (trivial) (fun hHeld=>?_);clear hK K;(try simp only [ZF,pA,pB,pC]);refine rk 8 rfl (fun K hK=>?_);go_simp;refine hK.out _ _ (trivial) (fun hHeld=>?_);clear hK K;(try simp only [ZF,pA,pB,pC]);refine rk 9 rfl (fun K hK=>?_);go_simp;refine hK.out _ _ (trivial) (fun hHeld=>?_);clear hK K;(try simp only [ZF,pA,pB,pC]);refine D8 kR ?_ _
   rotate_left 1;refine Bq (o:=_) rfl (fun K hK=>?_) Eo;focus go_simp;refine hK.out _ _ (trivial) (fun hHeld=>?_);clear hK K;(try simp only [ZF,pA,pB,pC]);refine rk 0 rfl (fun K hK=>?_);go_simp;refine hK.out _ _ (trivial) (fun hHeld=>?_);clear hK K;(try simp only [ZF,pA,pB,pC]);refine rk 3 rfl (fun K hK=>?_);rw [Ar rF];refine Cd _ _ rfl (w+4) _ pre rfl (hO2 _) W.heap.size _ x rfl (Bz _ _ _ _ _) oM (by simp;omega) ?_;intro v5 w5 hO5 hg5;obtain⟨a5,c5,rfl,mF,mD,mg⟩:=hO5.form;have hB5:Below (w+4) W w5:=(hBa _).grown hg5 (by simp;omega) (fun k e=>(hblk k e).1);have h5:=HA.out w5 hB5;obtain⟨h50,h51,h52,h53⟩:=h5;have h54:∀ u,(w5.setCell ⟨w,0,none⟩ u).cell? ⟨w+1,0,none⟩=some ↑R:=fun u=>(D6 _ ⟨w,0,none⟩ ⟨w+1,0,none⟩ _ (fun e=>by dsimp only at e;omega)).trans h51;refine hK.out _ _ (trivial) (fun hHeld=>?_);clear hK K;(try simp only [ZF,pA,pB,pC]);refine rk 8 rfl (fun K hK=>?_);go_simp;refine hK.out _ _ (trivial) (fun hHeld=>?_);clear hK K;(try simp only [ZF,pA,pB,pC]);refine rk 9 rfl (fun K hK=>?_);go_simp;refine hK.out _ _ (trivial) (fun hHeld=>?_);clear hK K;(try simp only [ZF,pA,pB,pC]);refine D8 kR ?_ _
  all_goals
   have hbd:Below W W W.drew:=(Ac _ W).drew;have hko:∀ u u',KeepsOthers W ((w5.setCell ⟨w,0,none⟩ u).setCell ⟨w+1,0,none⟩ u'):=fun u u' =>((((Kb hbd).trans (KeepsOthers.alloc _ _)).trans (KeepsOthers.of_grownBy hg5 (fun j o hj ho=>by obtain⟨_,cs,t,fr,hcs⟩:=(hO2 _).ownBlock j hj;rw [ho] at hcs;cases hcs;rfl))).trans (KeepsOthers.setCell _ _ _)).trans (KeepsOthers.setCell _ _ _);have y0:=Be w5 w 0 (.slice a5 (pl+1) c5) _ _ _ ((hB5.block _ oM).trans hv);have y1:=(Bu w5 ⟨w,0,none⟩ (.slice a5 (pl+1) c5) (w.heap.size+1) (by show w.heap.size+1≠w.heap.size;omega)).trans ((hB5.block _ oM).trans hrest);have z0:=(Bu (w5.setCell ⟨w,0,none⟩ (.slice a5 (pl+1) c5)) ⟨w+1,0,none⟩ (.string ⟨(R.drop x.length).toArray⟩) w.heap.size (by show w.heap.size≠w.heap.size+1;omega)).trans y0;have z1:=Be _ (w+1) 0 (.string ⟨(R.drop x.length).toArray⟩) _ _ _ y1;simp only [List.setIfInBounds_toArray,List.set_cons_zero] at z0 z1;have hOX:Ax (w+4) ((w5.setCell ⟨w,0,none⟩ (.slice a5 (pl+1) c5)).setCell ⟨w+1,0,none⟩ (.string ⟨(R.drop x.length).toArray⟩)) (.slice a5 (pl+1) c5) (pre++[x]):=by have h0:=hO5;simp only [Au,hPL,Ba,Bj,Bh] at h0;exact (h0.fV (g:=w.heap.size) oM _ _).fV (g:=w.heap.size+1) oM _ _
   have hBX:Below w W ((w5.setCell ⟨w,0,none⟩ (.slice a5 (pl+1) c5)).setCell ⟨w+1,0,none⟩ (.string ⟨(R.drop x.length).toArray⟩)) := ((hB5.mono (show w.heap.size<=w.heap.size+4 by omega)).setCell (p:=⟨w,0,none⟩) nR _).setCell (p:=⟨w+1,0,none⟩) (by show w.heap.size<=w.heap.size+1;omega) _;have hpq:∀ j,j=w.heap.size+2\/j=w.heap.size+3->((w5.setCell ⟨w,0,none⟩ (.slice a5 (pl+1) c5)).setCell ⟨w+1,0,none⟩ (.string ⟨(R.drop x.length).toArray⟩)).heap[j]?=W.heap[j]?:=fun j hj=>by rw [Bu _ _ _ _ (by show j≠w.heap.size+1;omega),Bu _ _ _ _ (by show j≠w.heap.size;omega)];exact hB5.block j oM
   have xk:=hko (.slice a5 (pl+1) c5) (.string ⟨(R.drop x.length).toArray⟩);generalize hX:(w5.setCell ⟨w,0,none⟩ (.slice a5 (pl+1) c5)).setCell ⟨w+1,0,none⟩ (.string ⟨(R.drop x.length).toArray⟩)=X at *;have c0:X.cell? ⟨w,0,none⟩=some (.slice a5 (pl+1) c5):=Ab z0 0;have hLX:oz w k s (pre++[x]) X:=⟨Af hle xk.size,⟨_,z0,hOX⟩,by rw [show (pre++[x]).length=pl+1 from by simp [hPL],HS.out.1];exact z1,hb.trans hBX⟩
   clear hko h50 h51 h52 h53 h54 d0 d1 d2 d3 q0 q1 q0' q1' hO2 hO5 hOX y0 y1 z0 z1;by_cases h12:pl+1<=12
   ·have d:ZH ((12:Int)<(pl:Int)+1)=false:=by simp;omega
    gi_wp2;exact⟨xk.from _,⟨hBX,hpq _ (.inr rfl),hpq _ (.inl rfl)⟩,hLX,by simp [hPL];omega⟩
   ·have d:ZH ((12:Int)<(pl:Int)+1)=true:=by simp;omega
    gi_wp2;exact⟨xk.from _,rfl,by simp [hPL];omega,by rw [<- HS.out.2,show pl+1=13 from by omega],hLX⟩
 case done =>
  rintro D xs W hD ⟨hS1,hS2⟩ ⟨hLI,hlen⟩ hdef;have h13:=pO k xs.length s hS2 13 oM;have hpre:(CH.letters k 13 s).1=xs:=by rw [h13];exact hS1
  have hbD:=Bw (r:=D) hLI.below oM (.deferred none);obtain⟨hle,⟨v,hv,hO⟩,hrest,hb⟩:=hLI;obtain⟨av,cv,rfl,hf1,hf2,_⟩:=hO.form;rw [<- h13] at hrest;have hword:Hid (dH k s=((CH.letters k 13 s).2==[]&&!(xs==[])&&ZH (xs.length<=12))):=Aa (by unfold dH;rw [hpre]);generalize hR:(CH.letters k 13 s).2=R at *;generalize hN:xs.length=N at *;have c0:W.cell? ⟨w,0,none⟩=some (.slice av N cv):=Ab hv 0;have c1:W.cell? ⟨w+1,0,none⟩=some ↑R:=Ab hrest 0;clear hO;cases hRe:List.isEmpty R with
  |false =>exact FD103
  |true =>
   have hR0:R=[]:=by cases R with|nil=>rfl|cons _ _=>cases hRe
   by_cases hN0:N=0
   ·have hr1:r=1:=by
     have h0:(xs==[])=true:=by have:xs=[]:=Ce.1 (hN.trans hN0);rw [this];rfl
     rw [<- hr.out,hword.out,h0,hR0];rfl
    subst hr1;have z0:((N:Int)==0)=true:=by simp;omega
    exact FD24
   ·have z0:((N:Int)==0)=false:=by simp;omega
    have h0:(xs==[])=false:=by
     cases hq:xs with
     |nil=>rw [hq] at hN;simp at hN;omega
     |cons _ _=>rfl
    exact FD45
 case stop =>
  rintro D c pre W hD _ ⟨rfl,hlen,hpre,hLI⟩ hdef;refine Lj.2 ?_;have hbD:=Bw (r:=D) hLI.below oM (.deferred none);obtain⟨hle,⟨v,hv,hO⟩,hrest,hb⟩:=hLI;obtain⟨av,cv,rfl,hf1,hf2,_⟩:=hO.form;rw [hlen] at hrest;clear hlen;have hword:Hid (dH k s=((CH.letters k 13 s).2==[]&&!(pre==[])&&ZH (pre.length<=12))):=Aa (by unfold dH;rw [hpre]);generalize hR:(CH.letters k 13 s).2=R at *;generalize hN:pre.length=N at *;have c0:W.cell? ⟨w,0,none⟩=some (.slice av N cv):=Ab hv 0;have c1:W.cell? ⟨w+1,0,none⟩=some ↑R:=Ab hrest 0;clear hO;cases hRe:List.isEmpty R with
  |false =>exact FD103
  |true =>
   have hR0:R=[]:=by cases R with|nil=>rfl|cons _ _=>cases hRe
   by_cases hN0:N=0
   ·have hr1:r=1:=by
     have h0:(pre==[])=true:=by have:pre=[]:=Ce.1 (hN.trans hN0);rw [this];rfl
     rw [<- hr.out,hword.out,h0,hR0];rfl
    subst hr1;have z0:((N:Int)==0)=true:=by simp;omega
    exact FD24
   ·have z0:((N:Int)==0)=false:=by simp;omega
    have h0:(pre==[])=false:=by
     cases hq:pre with
     |nil=>rw [hq] at hN;simp at hN;omega
     |cons _ _=>rfl
    exact FD45
end
section
open Go.Lib Go.Proofs.Tryz Go.RowKit Go.Shelf Go.Sort CH
def L3c (B:Nat) (w:ZB) (cs:List ZC) (n:CH.Name):Prop:=∃ vw,cs=[aJ n.script,vw]/\Strs B w vw n.words
theorem Ox (cs:List ZC) (n:CH.Name) (w:ZB) (hG:Gc w) (hn:L3c w w cs n) (hS:Fd n.words) : ZE prog 159 #[.agg cs.toArray] w (Ret w (.bool (bH n))):=by
 obtain⟨vw,rfl,hw⟩:=hn;obtain⟨r,hr⟩:∃ r,Hid (bH n=r):=⟨_,Aa rfl⟩
 rw [hr.out];obtain⟨aw,cw,rfl,hc1,hc2,hcell⟩:=hw;obtain⟨hS1,hS2⟩:=hS;have gQ:=Ap w (.cells #[↑n.script,.slice aw n.words.length cw] 158);have hB0:=(Ac _ w).alloc nR (.cells #[↑n.script,.slice aw n.words.length cw] 158);generalize hN:n.words.length=N at *;have HF:=Aa hcell;clear hcell;have hlt0:w.heap.size<(w.alloc (.cells #[↑n.script,.slice aw N cw] 158)).heap.size:=sM;go_enter func159,ntmps159;go_wp2_with fail;generalize hW:w.alloc (.cells #[↑n.script,.slice aw N cw] 158)=W at *;go_loopw [10] (fun iv wr=>∃ k:Nat,k<=N/\iv=↑k/\Hid ((n.words.take k).all (dH n.script)=true)/\Below W W wr) (fun iv _=>N - (ZG iv).toNat);case atStart=>exact⟨0,Bg _,rfl,Aa rfl,Ac _ _⟩
 case round =>
  obtain⟨k,hk,rfl,hu,hbW⟩:=hrel;have hb:Below w w wr:=hB0.trans (hbW.mono (G9 hlt0));have hblk:=(hbW.block w hlt0).trans gQ;have c0:wr.cell? ⟨w,0,none⟩=some ↑n.script:=Ab hblk 0;have c1:wr.cell? ⟨w,1,none⟩=some (.slice aw N cw):=Ab hblk 1;by_cases hlt:k<N
  ·obtain⟨x,hx⟩:∃ x,n.words[k]?=some x:=⟨_,Ad oM⟩
   have hxl:=hS2 x (Aq hx);obtain⟨b,off,rfl,hblt,hcs⟩:=HF.out (fun e=>by rw [e] at hN;simp at hN;omega);have hck:=(hb.cell (p:=⟨b,off+k,none⟩) hblt).trans (hcs k x hx);have hts:n.words.take (k+1)=n.words.take k++[x]:=by rw [Ee,hx];rfl
   have hno:(n.words.take (k+1)).all (dH n.script)=dH n.script x:=by rw [hts,I9,hu.out];simp
   have A:=Eqs n.script x wr (hG.below hb) oM;have HN:=Aa hno;have hmem:Hid (x∈n.words):=Aa (Aq hx);clear hno hts hcs hx;cases hin:dH n.script x with
   |false =>
    rw [hin] at A;have A:=Aa A;have hr1:r=false:=by rw [<- hr.out];unfold bH;rw [show n.words.all (dH n.script)=false from by rw [Jw];exact⟨x,hmem.out,by rw [hin];decide⟩];rfl
    subst hr1;go_wp2_with fail;refine A.out.mono ?_;rintro e w1 ⟨v1,rfl,hb1⟩;clear A;go_wp2;go_ret;exact⟨rfl,hb.trans (hb1.mono hb.size)⟩
   |true =>
    rw [hin] at A;have A:=Aa A;have HR:Hid ((n.words.take (k+1)).all (dH n.script)=true):=Aa (by rw [HN.out,hin]);clear HN;go_wp2_with fail;refine A.out.mono ?_;rintro e w1 ⟨v1,rfl,hb1⟩;clear A;go_wp2;go_roundw;case rel=>exact⟨k+1,oM,by go_num,HR,hbW.trans (hb1.mono hbW.size)⟩
    case measure=>simp [ZG];omega
  ·have e:N=k:=oM;subst e;have hall:n.words.all (dH n.script)=true:=by rw [<- hu.out,<- hN,Dw]
   have hr1:r=(ZH (0<N)&&ZH (N<=6)):=by rw [<- hr.out];unfold bH;rw [hall,hN];rfl
   subst hr1;by_cases h0:0<N
   ·have d0:ZH ((0:Int)<(N:Int))=true:=by simp;omega
    go_wp2;go_ret;refine⟨?_,hb⟩;rw [Aj h0,a_Bool_true_and,show ZH (N<=6)=ZH ((N:Int)<=6) from Ey.2 oM];rfl
   ·have d0:ZH ((0:Int)<(N:Int))=false:=by simp;omega
    go_wp2;go_ret;refine⟨?_,hb⟩;simp [h0]
theorem Ins (sep:List UInt8):∀ ls:List (List UInt8),Lib.join ls sep=CH.join sep ls:=by
 intro ls;induction ls with
 |nil=>rfl
 |cons x l ih =>
  cases l with
  |nil=>exact Lib.join_one x sep
  |cons y l =>rw [Lib.join_cons,CH.join,<- ih,Lib.join_cons];simp [Lib.joinTail]
theorem Ml (v:ZC) (ls:List (List UInt8)) (sep:List UInt8) (w:ZB) (hv:Strs w w v ls) (hN:ls.length<=1000000) (hlen:(CH.join sep ls).length<=140737488355328) : ZE prog 103 #[v,↑sep] w (Ret w (.string ⟨(CH.join sep ls).toArray⟩)):=by
 obtain⟨a,cap,rfl,h1,h2,h3⟩:=hv;by_cases hne:ls=[]
 ·subst hne;exact (Tryz.strings_Join_none a cap ⟨sep.toArray⟩ w).mono fun e w' ⟨he,hw⟩=>⟨he,by rw [hw];exact Ac _ _⟩
 ·obtain⟨b,off,rfl,hb,hc⟩:=h3 hne;have hmap:(ls.map fun l=>ByteArray.mk l.toArray).map (·.data.toList)=ls:=by rw [Nu];exact (List.map_congr_left (fun a _=>rfl)).trans (List.map_id ls)
  have hJ:=Tryz.strings_Join b off cap (ls.map fun l=>ByteArray.mk l.toArray) ⟨sep.toArray⟩ w (fun j x hx=>by
   rw [Fv] at hx;cases hl:ls[j]? with
   |none=>rw [hl] at hx;cases hx
   |some l=>rw [hl] at hx;cases hx;exact hc j l hl) hb (by simp;omega) (by simpa using h1) (by rw [hmap];show (Lib.join ls sep).length<=_;rw [Ins];exact hlen)
  rw [hmap,Dt] at hJ;have e2:Lib.join ls (ByteArray.mk sep.toArray).data.toList=CH.join sep ls:=Ins sep ls;rw [e2] at hJ;exact hJ
def Jn:Array ZC:=#[.string ⟨#[]⟩,.string ⟨([112,108,97,105,110]:List UInt8).toArray⟩,.string ⟨([99,97,115,101,100]:List UInt8).toArray⟩,.string ⟨([97,98,106,97,100]:List UInt8).toArray⟩,.string ⟨([115,121,108,108,97,98]:List UInt8).toArray⟩]
theorem Ggl (w:ZB):ZE prog 160 #[] w (Ret w (.agg Jn)):=by
 go_enter func160,ntmps160;go_wp2;refine Ag (Kl (p:=0) (ty:=206) rfl _ _ ⟨w,0,none⟩ _ rfl (Fg _ w 0 206 Jn.toList _ (fun j v hv=>?_) underlying206 rfl kR)) rfl ?_
 ·rw [Bh,Bz];have hv':Jn[j]?=some v:=by simpa using hv
  exact hv'
 ·exact FD132
theorem Alt {n:CH.Name} (h:bH n=true):1<=n.script/\n.script<=4:=by
 unfold bH at h;simp only [Aw,Bl] at h;obtain⟨hall,h0,_⟩:=h;cases hw:n.words with
 |nil=>rw [hw] at h0;simp at h0
 |cons x l =>
  rw [hw] at hall;have hx:dH n.script x=true:=Dk.1 hall x sM;apply Fh;intro hn;have hs:CH.slen n.script x=0:=by unfold CH.slen;rw [Ah oM,Ah oM,Ah oM,Ah oM]
  have hl:CH.letters n.script 13 x=([],x):=bM _ _ _ hs;unfold dH at hx;rw [hl] at hx;simp at hx
theorem K7 (sep:List UInt8) (m:Nat):∀ ls:List (List UInt8),(∀ l∈ls,l.length<=m)->(CH.join sep ls).length<=ls.length*(m+sep.length):=by
 intro ls;induction ls with
 |nil=>intro _;simp [CH.join]
 |cons x l ih =>
  intro h;have hx:=h x sM;cases l with
  |nil=>simp [CH.join];omega
  |cons y l =>have:=ih (fun z hz=>h z (by simp at hz ⊢;right;exact hz));rw [CH.join];simp only [Au,Ba] at this ⊢;have e:(l.length+1+1)*(m+sep.length)=(l.length+1)*(m+sep.length)+(m+sep.length):=Nat.succ_mul _ _;omega
theorem Ni (cs:List ZC) (n:CH.Name) (w:ZB) (hG:Gc w) (hn:L3c w w cs n) (hS:Fd n.words) (hok:bH n=true) : ZE prog 102 #[.agg cs.toArray] w (Ret w (.tuple #[.string ⟨(aV n).toArray⟩,.int .i64 0])):=by
 have hsc:=Alt hok;have hV:=fun (w':ZB) (hb:Below w w w')=>Ox cs n w' (hG.below hb) (by obtain⟨vw,h1,h2⟩:=hn;exact⟨vw,h1,(h2.below hb nR).mono hb.size⟩) hS;obtain⟨vw,rfl,hw⟩:=hn;have hJl:(CH.join [32] n.words).length<=1000000000000:=by have h1:=K7 [32] 10000 n.words hS.2;have h2:=hS.1;have h3:n.words.length*(10000+1)<=100000*(10000+1):=Dh _ h2;simp only [Ba,Bj,Bh] at h1;omega
 have hJ:=fun (w':ZB) (hb:Below w w w')=>Ml vw n.words [32] w' ((hw.below hb nR).mono hb.size) (by have:=hS.1;omega) oM;rw [hok] at hV;obtain⟨aw,cw,rfl,hc1,hc2⟩:=hw.form;obtain⟨res,hres⟩:∃ r,Hid (aV n=r):=⟨_,Aa rfl⟩
 rw [hres.out];have hres':Hid (CH.title n.script++[58]++CH.join [32] n.words=res):=Aa hres.out;clear hres hw;generalize CH.join [32] n.words=J at *;generalize hN:n.words.length=N at *;have HV:=Aa hV;have HJ:=Aa hJ;clear hV hJ;have hB0:=fun o=>(Ac _ w).alloc nR o;go_enter func102,ntmps102;go_wp2_with fail;refine (HV.out _ (hB0 _)).mono ?_;rintro e w1 ⟨rfl,hb1⟩;have hB1:Below w w w1:=(hB0 _).trans (hb1.mono sM);have hblk:=(hb1.block w sM).trans (Ap w _);have hlt:w.heap.size<w1.heap.size:=(aZ hblk)
 clear hb1 HV;have c0:w1.cell? ⟨w,0,none⟩=some ↑n.script:=Ab hblk 0;have c1:w1.cell? ⟨w,1,none⟩=some (.slice aw N cw):=Ab hblk 1;go_wp2_with fail;have cT:∀ W',Below w1 w1 W'->ZE prog 160 #[] W' (fun e w'=>e=.returned (.agg Jn)/\Below W' W' w'):=fun W' _=>Ggl W';have cJ:∀ W',Below w1 w1 W'->ZE prog 103 #[.slice aw N cw,.string ⟨#[32]⟩] W' (fun e w'=>e=.returned ↑J/\Below W' W' w'):=fun W' hb=>HJ.out W' (hB1.trans (hb.mono hB1.size));have g1:∀ (d:Nat) (os:Array Obj),(grow (ZI w1 d) os).cell? ⟨w,1,none⟩=some (.slice aw N cw):=Ae c1;have hk:n.script=1\/n.script=2\/n.script=3\/n.script=4:=oM;clear HJ hblk;rcases hk with hk|hk|hk|hk
 ·rw [hk] at c0 hres';have g0:∀ (d:Nat) (os:Array Obj),(grow (ZI w1 d) os).cell? ⟨w,0,none⟩=_:=Ae c0;clear hsc hk c0 c1;dsimp only [Jn] at cT;have hix:∀ w,(Instr.index 206 (.agg #[.string ⟨#[]⟩,.string ⟨#[112,108,97,105,110]⟩,.string ⟨#[99,97,115,101,100]⟩,.string ⟨#[97,98,106,97,100]⟩,.string ⟨#[115,121,108,108,97,98]⟩]) (.int .i64 1)).run prog w=.ok (.string ⟨#[112,108,97,105,110]⟩) w:=fun w=>by simp [Instr.index,Eh underlying206,go_sem]
  have xE:((⟨#[112,108,97,105,110]⟩:ByteArray)++⟨#[58]⟩)=⟨#[112,108,97,105,110,58]⟩:=rfl;exact FD122
 ·rw [hk] at c0 hres';have g0:∀ (d:Nat) (os:Array Obj),(grow (ZI w1 d) os).cell? ⟨w,0,none⟩=_:=Ae c0;clear hsc hk c0 c1;dsimp only [Jn] at cT;have hix:∀ w,(Instr.index 206 (.agg #[.string ⟨#[]⟩,.string ⟨#[112,108,97,105,110]⟩,.string ⟨#[99,97,115,101,100]⟩,.string ⟨#[97,98,106,97,100]⟩,.string ⟨#[115,121,108,108,97,98]⟩]) (.int .i64 2)).run prog w=.ok (.string ⟨#[99,97,115,101,100]⟩) w:=fun w=>by simp [Instr.index,Eh underlying206,go_sem]
  have xE:((⟨#[99,97,115,101,100]⟩:ByteArray)++⟨#[58]⟩)=⟨#[99,97,115,101,100,58]⟩:=rfl;exact FD122
 ·rw [hk] at c0 hres';have g0:∀ (d:Nat) (os:Array Obj),(grow (ZI w1 d) os).cell? ⟨w,0,none⟩=_:=Ae c0;clear hsc hk c0 c1;dsimp only [Jn] at cT;have hix:∀ w,(Instr.index 206 (.agg #[.string ⟨#[]⟩,.string ⟨#[112,108,97,105,110]⟩,.string ⟨#[99,97,115,101,100]⟩,.string ⟨#[97,98,106,97,100]⟩,.string ⟨#[115,121,108,108,97,98]⟩]) (.int .i64 3)).run prog w=.ok (.string ⟨#[97,98,106,97,100]⟩) w:=fun w=>by simp [Instr.index,Eh underlying206,go_sem]
  have xE:((⟨#[97,98,106,97,100]⟩:ByteArray)++⟨#[58]⟩)=⟨#[97,98,106,97,100,58]⟩:=rfl;exact FD122
 ·rw [hk] at c0 hres';have g0:∀ (d:Nat) (os:Array Obj),(grow (ZI w1 d) os).cell? ⟨w,0,none⟩=_:=Ae c0;clear hsc hk c0 c1;dsimp only [Jn] at cT;have hix:∀ w,(Instr.index 206 (.agg #[.string ⟨#[]⟩,.string ⟨#[112,108,97,105,110]⟩,.string ⟨#[99,97,115,101,100]⟩,.string ⟨#[97,98,106,97,100]⟩,.string ⟨#[115,121,108,108,97,98]⟩]) (.int .i64 4)).run prog w=.ok (.string ⟨#[115,121,108,108,97,98]⟩) w:=fun w=>by simp [Instr.index,Eh underlying206,go_sem]
  have xE:((⟨#[115,121,108,108,97,98]⟩:ByteArray)++⟨#[58]⟩)=⟨#[115,121,108,108,97,98,58]⟩:=rfl;have l4:¬ (9223372036854775807<7+List.length J):=oM;exact FD21
def Ds (B:Nat) (w:ZB) (v:ZC) (ns:List CH.Name):Prop := ∃ a cap,v=.slice a ns.length cap/\ns.length<=cap/\cap<=9223372036854775807 /\ (ns≠[]->∃ b off,a=some ⟨b,off,none⟩/\b<B/\∀ j n,ns[j]?=some n->∃ vw,w.cell? ⟨b,off+j*2,none⟩=some ↑n.script/\w.cell? ⟨b,off+j*2+1,none⟩=some vw/\Strs B w vw n.words)
theorem Ds.below {B B':Nat} {w w':ZB} {v:ZC} {ns:List CH.Name} (h:Ds B w v ns) (hb:Below B' w w') (hB:B<=B'):Ds B w' v ns:=by obtain⟨a,cap,h1,h2,h3,h4⟩:=h;refine⟨a,cap,h1,h2,h3,fun hne=>?_⟩;obtain⟨b,off,e,hlt,hc⟩:=h4 hne;refine⟨b,off,e,hlt,fun j n hj=>?_⟩;obtain⟨vw,c1,c2,c3⟩:=hc j n hj;exact⟨vw,(hb.cell (p:=⟨b,off+j*2,none⟩) (Ai hlt hB)).trans c1,(hb.cell (p:=⟨b,off+j*2+1,none⟩) (Ai hlt hB)).trans c2,c3.below hb hB⟩
theorem Ds.mono {B B':Nat} {w:ZB} {v:ZC} {ns:List CH.Name} (h:Ds B w v ns) (hB:B<=B'):Ds B' w v ns:=by obtain⟨a,cap,h1,h2,h3,h4⟩:=h;refine⟨a,cap,h1,h2,h3,fun hne=>?_⟩;obtain⟨b,off,e,hlt,hc⟩:=h4 hne;refine⟨b,off,e,Ai hlt hB,fun j n hj=>?_⟩;obtain⟨vw,c1,c2,c3⟩:=hc j n hj;exact⟨vw,c1,c2,c3.mono hB⟩
theorem Yc (vw:ZC) (n:CH.Name) (w:ZB) (hG:Gc w) (hn:Strs w w vw n.words) (hS:Fd n.words) : ZE prog 215 #[.agg #[↑n.script,vw]] w (Ret w (.bool (!bH n))):=by have hB0:=fun o=>(Ac _ w).alloc nR o;have A:=Aa fun o=>Ox [aJ n.script,vw] n (w.alloc o) (hG.below (hB0 o)) ⟨vw,rfl,(hn.below (hB0 o) nR).mono (hB0 o).size⟩ hS;obtain⟨aw,cw,rfl,_,_⟩:=hn.form;generalize n.words.length=N at *;go_enter func215,ntmps215;go_wp2_with fail;refine (A.out _).mono ?_;rintro e w1 ⟨rfl,hb1⟩;clear A;go_wp2;go_ret;exact FD106
theorem Xn (v:ZC) (ns:List CH.Name) (w:ZB) (hG:Gc w) (hv:Ds w w v ns) (hl:ns.length<=100000) (hS:∀ n∈ns,Fd n.words) : ZE prog 269 #[v,.func (.func 215) #[] #[]] w (fun e w'=>∃ i:Int,e=.returned ↑i/\ZH (0<=i)=(ns.any fun n=>!bH n)/\Below w w w'):=by
 obtain⟨a,cap,rfl,hc1,hc2,hcell⟩:=hv;generalize hN:ns.length=N at *;have HF:=Aa hcell;clear hcell;go_enter func269,ntmps269;go_wp2_with fail;go_loopw [8] (fun iv wr=>∃ k:Nat,k<=N/\iv=↑k/\Hid (((ns.take k).any fun n=>!bH n)=false)/\Below w w wr) (fun iv _=>N - (ZG iv).toNat);case atStart=>exact⟨0,Bg _,rfl,Aa rfl,Ac _ _⟩
 case round =>
  obtain⟨k,hk,rfl,hu,hb⟩:=hrel;by_cases hlt:k<N
  ·obtain⟨x,hx⟩:∃ x,ns[k]?=some x:=⟨_,Ad oM⟩
   obtain⟨b,off,rfl,hblt,hcs⟩:=HF.out (fun e=>by rw [e] at hN;simp at hN;omega);obtain⟨vw,c1,c2,c3⟩:=hcs k x hx;have d1:=(hb.cell (p:=⟨b,off+k*2,none⟩) hblt).trans c1;have d2:=(hb.cell (p:=⟨b,off+k*2+1,none⟩) hblt).trans c2;have A:=Yc vw x wr (hG.below hb) ((c3.below hb nR).mono hb.size) (hS x (Aq hx));have hts:ns.take (k+1)=ns.take k++[x]:=by rw [Ee,hx];rfl
   have hno:Hid (((ns.take (k+1)).any fun n=>!bH n)=!bH x):=Aa (by rw [hts,List.any_append,hu.out];simp);have hmem:Hid (x∈ns):=Aa (Aq hx);obtain⟨aw,cw,rfl,_,_⟩:=c3.form;generalize x.words.length=xn at *;clear hts hcs hx c1 c2 c3;cases hin:bH x with
   |true =>
    rw [hin] at A;have A:=Aa A;have HR:Hid (((ns.take (k+1)).any fun n=>!bH n)=false):=Aa (by rw [hno.out,hin];rfl);go_wp2_with fail;refine A.out.mono ?_;rintro e w1 ⟨rfl,hb1⟩;clear A;go_wp2;go_roundw;case rel=>exact⟨k+1,oM,by go_num,HR,hb.trans (hb1.mono hb.size)⟩
    case measure=>simp [ZG];omega
   |false =>rw [hin] at A;have A:=Aa A;have HR:Hid ((ns.any fun n=>!bH n)=true):=Aa (by rw [Iy];exact⟨x,hmem.out,by rw [hin];rfl⟩);go_wp2_with fail;refine A.out.mono ?_;rintro e w1 ⟨rfl,hb1⟩;clear A;go_wp2;go_ret;exact⟨_,rfl,by rw [HR.out];simp,hb.trans (hb1.mono hb.size)⟩
  ·have e:N=k:=oM;subst e;have HR:Hid ((ns.any fun n=>!bH n)=false):=Aa (by rw [<- hu.out,<- hN,Dw]);go_wp2;go_ret;exact⟨_,rfl,by rw [HR.out];decide,hb⟩
theorem Ro (v:ZC) (ns:List CH.Name) (w:ZB) (hG:Gc w) (hv:Ds w w v ns) (hl:ns.length<=100000) (hS:∀ n∈ns,Fd n.words) : ZE prog 216 #[v,.func (.func 215) #[] #[]] w (Ret w (.bool (ns.any fun n=>!bH n))):=by
 have A:=Aa (Xn v ns w hG hv hl hS);obtain⟨r,hr⟩:∃ r,Hid ((ns.any fun n=>!bH n)=r):=⟨_,Aa rfl⟩
 rw [hr.out] at A ⊢;obtain⟨a,cap,rfl,_,_,_⟩:=hv;generalize ns.length=N at *;go_enter func216,ntmps216;go_wp2_with fail;refine A.out.mono ?_;rintro e w1 ⟨i,rfl,hi,hb1⟩;clear A;subst hi;exact FD41
theorem Ds.form {B:Nat} {w:ZB} {v:ZC} {ns:List CH.Name} (h:Ds B w v ns):∃ a cap,v=.slice a ns.length cap/\ns.length<=cap/\cap<=9223372036854775807:=by exact FD134
structure oC (e:CH.Entry):Prop where
 id:e.id.length<=10000
 len:e.names.length<=100000
 names:∀ n∈e.names,Fd n.words
theorem U9 (vn:ZC) (e:CH.Entry) (w:ZB) (hG:Gc w) (hv:Ds w w vn e.names) (hS:oC e) : ZE prog 156 #[.agg #[↑e.id,vn]] w (Ret w (.bool (dL e))):=by
 obtain⟨r,hr⟩:∃ r,Hid (dL e=r):=⟨_,Aa rfl⟩
 rw [hr.out];have hB0:=fun o=>(Ac _ w).alloc nR o;have I:=fun w'=>Oy e.id w' (Af hS.id dC);have C:=Aa fun (w':ZB) (hb:Below w w w')=>Ro vn e.names w' (hG.below hb) ((hv.below hb nR).mono hb.size) hS.len hS.names;obtain⟨an,cn,rfl,_,_⟩:=hv.form;have hW:=fun o=>Ap w o;generalize hN:e.names.length=N at *;clear hv;cases hi:CH.ident e.id with
 |false =>
  rw [hi] at I;have I:=Aa I;have hr1:r=false:=by rw [<- hr.out];unfold dL;rw [hi];rfl
  subst hr1;go_enter func156,ntmps156;go_wp2_with fail;refine (I.out _).mono ?_;rintro e w1 ⟨rfl,hb1⟩;clear I;go_wp2;go_ret;exact FD106
 |true =>
  rw [hi] at I;have I:=Aa I;have hr2:Hid (r=(ZH (0<N)&&(ZH (N<=8)&&!(e.names.any fun n=>!bH n)))):=Aa (by rw [<- hr.out];unfold dL;rw [hi,hN];rfl);go_enter func156,ntmps156;go_wp2_with fail;refine (I.out _).mono ?_;rintro e' w1 ⟨rfl,hb1⟩;have hB1:Below w w w1:=(hB0 _).trans (hb1.mono sM);have hblk:=(hb1.block w sM).trans (hW _);have c1:w1.cell? ⟨w,1,none⟩=some (.slice an N cn):=Ab hblk 1;clear I hb1 hblk hW hB0 hr;by_cases h0:0<N
  ·have d0:ZH ((0:Int)<(N:Int))=true:=by simp;omega
   by_cases h8:N<=8
   ·have d8:ZH ((N:Int)<=8)=true:=by simp;omega
    have hr3:r=!(e.names.any fun n=>!bH n):=by rw [hr2.out,Aj h0,Aj h8];rfl
    clear hr2;subst hr3;go_wp2_with fail;refine (C.out w1 hB1).mono ?_;rintro e' w2 ⟨rfl,hb2⟩;clear C;go_wp2;go_ret;exact FD82
   ·have d8:ZH ((N:Int)<=8)=false:=by simp;omega
    have hr3:r=false:=by rw [hr2.out,Ak h8];simp
    clear hr2 C;subst hr3;exact FD30
  ·have d0:ZH ((0:Int)<(N:Int))=false:=by simp;omega
   have hr3:r=false:=by rw [hr2.out,Ak h0];rfl
   clear hr2 C;subst hr3;exact FD30
theorem Zv (w:ZB):ZE prog 99 #[] w (fun e w'=>e=.returned (.slice (some ⟨w,0,none⟩) 5 5)/\w'=w.alloc (.cells #[.string ⟨#[]⟩,.string ⟨([97,100,100]:List UInt8).toArray⟩,.string ⟨([114,101,109,111,118,101]:List UInt8).toArray⟩,.string ⟨([99,111,114,114,101,99,116]:List UInt8).toArray⟩,.string ⟨([118,111,105,100]:List UInt8).toArray⟩] 9)):=by go_enter func99,ntmps99;exact FD40
structure iQ (c:CH.Change):Prop where
 id:c.id.length<=10000
 entry:oC c.entry
def Bb (c:CH.Change) (vn:ZC):List ZC:=[↑c.kind,↑c.id,↑c.entry.id,vn,↑c.pos]
theorem Htw (vn:ZC) (c:CH.Change) (w:ZB) (hG:Gc w) (hv:Ds w w vn c.entry.names) (hS:iQ c) : ZE prog 98 #[.agg (Bb c vn).toArray] w (Ret w (.bool (dh c))):=by
 obtain⟨r,hr⟩:∃ r,dh c=r:=⟨_,rfl⟩
 rw [hr];have hB0:=fun o=>(Ac _ w).alloc nR o;have I:=fun w'=>Oy c.id w' (Af hS.id dC);have E:=fun (w':ZB) (hb:Below w w w')=>U9 vn c.entry w' (hG.below hb) ((hv.below hb nR).mono hb.size) hS.entry;have T:=fun (w':ZB) (hb:Below w w w')=>U5 c.pos w' (hG.gl.below hb);obtain⟨an,cn,rfl,_,_⟩:=hv.form;have hW:=fun o=>Ap w o;obtain⟨kd,cid,en,ps⟩:=c;dsimp only at *;have hbe:=Hk en.id;have hne:=Cy en.id cid;generalize hN:en.names.length=N at *;clear hv hS;dsimp only [Bb];obtain⟨bi,hbi⟩:∃ b,CH.ident cid=b:=⟨_,rfl⟩
 obtain⟨be,hbp⟩:∃ b,dL en=b:=⟨_,rfl⟩
 obtain⟨bt,hbt⟩:∃ b,aW ps=b:=⟨_,rfl⟩
 rw [hbi] at I;rw [hbp] at E;rw [hbt] at T;replace I:=Aa I;replace E:=Aa E;replace T:=Aa T;unfold dh at hr;dsimp only at hr;rw [hbi,hbp,hbt,hN] at hr;clear hbi hbp hbt;by_cases h1:kd=1\/kd=3
 ·rcases h1 with rfl|rfl
  ·cases bi with
   |false =>
    have hr1:r=false:=by rw [<- hr];simp
    clear hr;subst hr1;go_enter func98,ntmps98;go_wp2_with fail;refine (I.out _).mono ?_;rintro e w1 ⟨rfl,hb1⟩;have hB1:Below w w w1:=(hB0 _).trans (hb1.mono sM);have hblk:=(hb1.block w sM).trans (hW _);have hlt1:w.heap.size<w1.heap.size:=(aZ hblk)
    clear I hb1 hW hB0;have k0:w1.cell? ⟨w,0,none⟩=some (.int .i64 1):=Ab hblk 0;exact FD11
   |true =>
    go_enter func98,ntmps98;go_wp2_with fail;refine (I.out _).mono ?_;rintro e w1 ⟨rfl,hb1⟩;have hB1:Below w w w1:=(hB0 _).trans (hb1.mono sM);have hblk:=(hb1.block w sM).trans (hW _);have hlt1:w.heap.size<w1.heap.size:=(aZ hblk)
    clear I hb1 hW hB0;have k0:w1.cell? ⟨w,0,none⟩=some (.int .i64 1):=Ab hblk 0;have k1:w1.cell? ⟨w,1,none⟩=some ↑cid:=Ab hblk 1;have k2:w1.cell? ⟨w,2,none⟩=some ↑en.id:=Ab hblk 2;have k3:w1.cell? ⟨w,3,none⟩=some (.slice an N cn):=Ab hblk 3;have k4:w1.cell? ⟨w,4,none⟩=some ↑ps:=Ab hblk 4;cases hx:(en.id==cid) with
    |false =>exact FD94
    |true =>
     rw [hx] at hne;rw [show (en.id != cid)=false from by rw [bne,hx];rfl] at hr;go_wp2_with fail;refine (E.out w1 hB1).mono ?_;rintro e w2 ⟨rfl,hb2⟩;clear E;have hB2:Below w w w2:=hB1.trans (hb2.mono hB1.size);have hblk2:=(hb2.block w hlt1).trans hblk;clear hb2 k0 k1 k2 k3 k4;have k0:w2.cell? ⟨w,0,none⟩=some (.int .i64 1):=Ab hblk2 0;have k1:w2.cell? ⟨w,1,none⟩=some ↑cid:=Ab hblk2 1;have k2:w2.cell? ⟨w,2,none⟩=some ↑en.id:=Ab hblk2 2;have k3:w2.cell? ⟨w,3,none⟩=some (.slice an N cn):=Ab hblk2 3;have k4:w2.cell? ⟨w,4,none⟩=some ↑ps:=Ab hblk2 4;cases be with
     |false =>
      have hr1:r=false:=by rw [<- hr];simp
      clear hr;subst hr1;clear T;exact FD119
     |true =>
      have hr1:r=bt:=by rw [<- hr];simp
      clear hr;subst hr1;go_wp2_with fail;refine (T.out w2 hB2).mono ?_;rintro e w9 ⟨rfl,hb9⟩;clear T;cases r with
      |true =>go_wp2;go_ret;exact⟨rfl,hB2.trans (hb9.mono hB2.size)⟩
      |false =>go_wp2;go_ret;exact⟨rfl,hB2.trans (hb9.mono hB2.size)⟩
  ·cases bi with
   |false =>
    have hr1:r=false:=by rw [<- hr];simp
    clear hr;subst hr1;go_enter func98,ntmps98;go_wp2_with fail;refine (I.out _).mono ?_;rintro e w1 ⟨rfl,hb1⟩;have hB1:Below w w w1:=(hB0 _).trans (hb1.mono sM);have hblk:=(hb1.block w sM).trans (hW _);have hlt1:w.heap.size<w1.heap.size:=(aZ hblk)
    clear I hb1 hW hB0;have k0:w1.cell? ⟨w,0,none⟩=some (.int .i64 3):=Ab hblk 0;exact FD11
   |true =>
    go_enter func98,ntmps98;go_wp2_with fail;refine (I.out _).mono ?_;rintro e w1 ⟨rfl,hb1⟩;have hB1:Below w w w1:=(hB0 _).trans (hb1.mono sM);have hblk:=(hb1.block w sM).trans (hW _);have hlt1:w.heap.size<w1.heap.size:=(aZ hblk)
    clear I hb1 hW hB0;have k0:w1.cell? ⟨w,0,none⟩=some (.int .i64 3):=Ab hblk 0;have k1:w1.cell? ⟨w,1,none⟩=some ↑cid:=Ab hblk 1;have k2:w1.cell? ⟨w,2,none⟩=some ↑en.id:=Ab hblk 2;have k3:w1.cell? ⟨w,3,none⟩=some (.slice an N cn):=Ab hblk 3;have k4:w1.cell? ⟨w,4,none⟩=some ↑ps:=Ab hblk 4;cases hx:(en.id==cid) with
    |false =>exact FD94
    |true =>
     rw [hx] at hne;rw [show (en.id != cid)=false from by rw [bne,hx];rfl] at hr;go_wp2_with fail;refine (E.out w1 hB1).mono ?_;rintro e w2 ⟨rfl,hb2⟩;clear E;have hB2:Below w w w2:=hB1.trans (hb2.mono hB1.size);have hblk2:=(hb2.block w hlt1).trans hblk;clear hb2 k0 k1 k2 k3 k4;have k0:w2.cell? ⟨w,0,none⟩=some (.int .i64 3):=Ab hblk2 0;have k1:w2.cell? ⟨w,1,none⟩=some ↑cid:=Ab hblk2 1;have k2:w2.cell? ⟨w,2,none⟩=some ↑en.id:=Ab hblk2 2;have k3:w2.cell? ⟨w,3,none⟩=some (.slice an N cn):=Ab hblk2 3;have k4:w2.cell? ⟨w,4,none⟩=some ↑ps:=Ab hblk2 4;cases be with
     |false =>
      have hr1:r=false:=by rw [<- hr];simp
      clear hr;subst hr1;clear T;exact FD119
     |true =>
      have hr1:r=(ps==0):=by rw [<- hr];simp
      clear hr T;subst hr1;exact FD119
 by_cases h2:kd=2\/kd=4
 ·rcases h2 with rfl|rfl
  ·cases bi with
   |false =>
    have hr1:r=false:=by rw [<- hr];simp
    clear hr;subst hr1;go_enter func98,ntmps98;go_wp2_with fail;refine (I.out _).mono ?_;rintro e w1 ⟨rfl,hb1⟩;have hB1:Below w w w1:=(hB0 _).trans (hb1.mono sM);have hblk:=(hb1.block w sM).trans (hW _);have hlt1:w.heap.size<w1.heap.size:=(aZ hblk)
    clear I hb1 hW hB0;have k0:w1.cell? ⟨w,0,none⟩=some (.int .i64 2):=Ab hblk 0;exact FD11
   |true =>
    go_enter func98,ntmps98;go_wp2_with fail;refine (I.out _).mono ?_;rintro e w1 ⟨rfl,hb1⟩;have hB1:Below w w w1:=(hB0 _).trans (hb1.mono sM);have hblk:=(hb1.block w sM).trans (hW _);have hlt1:w.heap.size<w1.heap.size:=(aZ hblk)
    clear I hb1 hW hB0;have k0:w1.cell? ⟨w,0,none⟩=some (.int .i64 2):=Ab hblk 0;have k1:w1.cell? ⟨w,1,none⟩=some ↑cid:=Ab hblk 1;have k2:w1.cell? ⟨w,2,none⟩=some ↑en.id:=Ab hblk 2;have k3:w1.cell? ⟨w,3,none⟩=some (.slice an N cn):=Ab hblk 3;have k4:w1.cell? ⟨w,4,none⟩=some ↑ps:=Ab hblk 4;clear E;cases hx:(en.id != []) with
    |true =>rw [hx] at hr hbe;replace hbe:List.isEmpty en.id=false:=hbe;exact FD71
    |false =>
     rw [hx] at hr hbe;replace hbe:List.isEmpty en.id=true:=hbe;by_cases h0:0<N
     ·have d0:ZH ((0:Int)<(N:Int))=true:=by simp;omega
      rw [Aj h0] at hr;exact FD71
     ·have d0:ZH ((0:Int)<(N:Int))=false:=by simp;omega
      rw [Ak h0] at hr;have hr1:r=bt:=by rw [<- hr];simp
      clear hr;subst hr1;go_wp2_with fail;refine (T.out w1 hB1).mono ?_;rintro e w9 ⟨rfl,hb9⟩;clear T;cases r with
      |true =>go_wp2;go_ret;exact⟨rfl,hB1.trans (hb9.mono hB1.size)⟩
      |false =>go_wp2;go_ret;exact⟨rfl,hB1.trans (hb9.mono hB1.size)⟩
  ·cases bi with
   |false =>
    have hr1:r=false:=by rw [<- hr];simp
    clear hr;subst hr1;go_enter func98,ntmps98;go_wp2_with fail;refine (I.out _).mono ?_;rintro e w1 ⟨rfl,hb1⟩;have hB1:Below w w w1:=(hB0 _).trans (hb1.mono sM);have hblk:=(hb1.block w sM).trans (hW _);have hlt1:w.heap.size<w1.heap.size:=(aZ hblk)
    clear I hb1 hW hB0;have k0:w1.cell? ⟨w,0,none⟩=some (.int .i64 4):=Ab hblk 0;exact FD11
   |true =>
    go_enter func98,ntmps98;go_wp2_with fail;refine (I.out _).mono ?_;rintro e w1 ⟨rfl,hb1⟩;have hB1:Below w w w1:=(hB0 _).trans (hb1.mono sM);have hblk:=(hb1.block w sM).trans (hW _);have hlt1:w.heap.size<w1.heap.size:=(aZ hblk)
    clear I hb1 hW hB0;have k0:w1.cell? ⟨w,0,none⟩=some (.int .i64 4):=Ab hblk 0;have k1:w1.cell? ⟨w,1,none⟩=some ↑cid:=Ab hblk 1;have k2:w1.cell? ⟨w,2,none⟩=some ↑en.id:=Ab hblk 2;have k3:w1.cell? ⟨w,3,none⟩=some (.slice an N cn):=Ab hblk 3;have k4:w1.cell? ⟨w,4,none⟩=some ↑ps:=Ab hblk 4;clear E;cases hx:(en.id != []) with
    |true =>rw [hx] at hr hbe;replace hbe:List.isEmpty en.id=false:=hbe;exact FD71
    |false =>
     rw [hx] at hr hbe;replace hbe:List.isEmpty en.id=true:=hbe;by_cases h0:0<N
     ·have d0:ZH ((0:Int)<(N:Int))=true:=by simp;omega
      rw [Aj h0] at hr;exact FD71
     ·have d0:ZH ((0:Int)<(N:Int))=false:=by simp;omega
      rw [Ak h0] at hr;have hr1:r=(ps==0):=by rw [<- hr];simp
      clear hr T;subst hr1;exact FD30
 have z1:(kd==1)=false:=by simp;omega
 have z2:(kd==2)=false:=by simp;omega
 have z3:(kd==3)=false:=by simp;omega
 have hr1:r=false:=by
  rw [<- hr];rw [Ar];by_cases hlt:kd<1;·simp [hlt]
  ·have:kd > 4:=oM;simp [this]
 clear hr;subst hr1;by_cases hlt:kd<1
 ·have d1:ZH (kd<1)=true:=by simpa using hlt
  cases bi with
  |false =>exact FD19
  |true =>exact FD19
 ·have d1:ZH (kd<1)=false:=by simpa using hlt
  have d4:ZH (4<kd)=true:=by simp;omega
  cases bi with
  |false =>exact FD19
  |true =>exact FD19
def Cx (base p:Nat) (w:ZB) (ls:List (List UInt8)):Prop:=∃ v,w.heap[p]?=some (.cells #[v] 25 (0,0))/\Ax base w v ls/\v.ownBlock≠some p/\base<=p
def I04 (base p:Nat) (w:ZB) (ls:List (List UInt8)) (e:Ending) (w':ZB):Prop:=e=.returned (.tuple #[])/\Cx base p w' ls/\Below base w w'/\w.heap.size<=w'.heap.size
theorem Cx.below {base p:Nat} {w w':ZB} {ls:List (List UInt8)} (h:Cx base p w ls) (hb:Below w w w'):Cx base p w' ls:=by obtain⟨v,h1,h2,h3,h4⟩:=h;exact⟨v,(hb.block p (aZ h1)).trans h1,h2.below hb,h3,h4⟩
theorem Vj {base p:Nat} {w:ZB} {ls:List (List UInt8)} (h:Cx base p w ls):p<w.heap.size:=by obtain⟨v,h1,_⟩:=h;exact (aZ h1)
theorem K5 (vx:ZC) (lx ls:List (List UInt8)) (base p B:Nat) (w:ZB) (hW:Cx base p w ls) (hX:Strs B w vx lx) (hl:ls.length+lx.length<=1000000) : ZE prog 100 #[vx,.pointer (some ⟨p,0,none⟩)] w (I04 base p w (ls++lx)):=by have hpl:=Vj hW;obtain⟨v,hv,hO,hne,hbp⟩:=hW;obtain⟨av,cv,rfl,hf1,hf2,_⟩:=hO.form;have hblk:=Q3 hO;have c0:w.cell? ⟨p,0,none⟩=some (.slice av ls.length cv):=Ab hv 0;obtain⟨ax,cx,rfl,_,_⟩:=hX.form;generalize hN:ls.length=N at *;generalize hM:lx.length=M at *;go_enter func100,ntmps100;exact FD23
theorem Hnl {c:CH.Change} (h:dh c=true):c.kind=1\/c.kind=2\/c.kind=3\/c.kind=4:=by
 apply Fh;intro hn;have hlt:c.kind<1\/c.kind > 4:=oM;unfold dh at h;dsimp only at h;rw [Ar] at h;·cases h
 ·rcases hlt with hlt|hlt;·simp [hlt]
  ·simp [hlt]
theorem M3 {c:CH.Change} (h:dh c=true):∀ n∈c.entry.names,bH n=true:=by
 intro n hn;have hlen:0<c.entry.names.length:=Nc hn;have hok:dL c.entry=true:=by
  apply Fh;intro hne;have hne':dL c.entry=false:=by simpa using hne
  unfold dh at h;dsimp only at h;rw [hne',Aj hlen] at h;cases he:(c.kind==1||c.kind==3) <;> rw [he] at h <;> simp at h
 unfold dL at hok;simp only [Aw,Fz,Iq] at hok;have:=hok.2.2.2 n hn;exact FD151
theorem Si (w:ZB) (o1 o2 o3:Obj) (i j:Nat) (hij:i≠j/\i<3/\j<3) (a b:List UInt8) (hbox:[o1,o2,o3][i]?=some (.cells #[.slice (some ⟨w.heap.size+j,0,none⟩) 2 2] 25)) (hrow:[o1,o2,o3][j]?=some (.cells #[↑a,↑b] 9)) : Cx w (w.heap.size+i) (((w.alloc o1).alloc o2).alloc o3).drew [a,b]/\Below w w (((w.alloc o1).alloc o2).alloc o3).drew:=by
 have hb:Below w w (((w.alloc o1).alloc o2).alloc o3).drew:=((((Ac _ w).alloc nR _).alloc sM _).alloc (by simp;omega) _).drew;have hat:∀ k,k<3->(((w.alloc o1).alloc o2).alloc o3).drew.heap[w.heap.size+k]?=[o1,o2,o3][k]?:=fun k hk=>by
  have e:(((w.alloc o1).alloc o2).alloc o3).drew.heap=((w.heap.push o1).push o2).push o3:=by simp only [World.alloc,World.drew]
  rw [e];simp only [Dl,Ed];rcases (oM:k=0\/k=1\/k=2) with rfl|rfl|rfl;·rw [Ah oM,Ah oM,Ar oM];rfl
  ·rw [Ah oM,Ar oM];rfl
  ·rw [Ar oM];rfl
 refine⟨⟨_,(hat i hij.2.1).trans hbox,⟨rfl,.inr ⟨w.heap.size+j,2,#[↑a,↑b],rfl,Nat.le_add_right _ _,(hat j hij.2.2).trans hrow,Bv _,by unfold maxLen;omega,rfl,rfl⟩⟩,?_,Nat.le_add_right _ _⟩,hb⟩;intro e;simp [Value.ownBlock] at e;omega
theorem Cx.alloc {base p:Nat} {w:ZB} {ls:List (List UInt8)} (h:Cx base p w ls) (o:Obj):Cx base p (w.alloc o) ls:=h.below ((Ac _ w).alloc nR o)
theorem G3 {c:CH.Change} (h:dh c=true):c.entry.names.length<=8:=by
 by_cases hl:0<c.entry.names.length
 ·have hok:dL c.entry=true:=by
   apply Fh;intro hne;have hne':dL c.entry=false:=by simpa using hne
   unfold dh at h;dsimp only at h;rw [hne',Aj hl] at h;cases he:(c.kind==1||c.kind==3) <;> rw [he] at h <;> simp at h
  unfold dL at hok;simp only [Aw,Bl] at hok;exact hok.2.2.1
 ·omega
theorem Qz (k:Int):(CH.kindWord k).length<=7:=by unfold CH.kindWord;exact FD146
def Cf (n:CH.Name):List UInt8:=[34]++aV n++[34]
theorem Mi (n:CH.Name) (hS:Fd n.words):(aV n).length<=1000000000010:=by have h1:=K7 [32] 10000 n.words hS.2;have h2:=hS.1;have h3:n.words.length*(10000+1)<=100000*(10000+1):=Dh _ h2;exact FD101
def dU (n:Nat) (ls:List (List UInt8)):Prop:=∀ l∈ls,l.length<=n
theorem dU.one {n:Nat} {a:List UInt8} (h:a.length<=n):dU n [a]:=fun l hl=>by cases Ci.1 hl;exact h
theorem dU.cons {n:Nat} {a:List UInt8} {ls:List (List UInt8)} (h:a.length<=n) (h2:dU n ls):dU n (a::ls):=fun l hl=>by
 rcases A8.1 hl with rfl|hl;·exact h
 ·exact h2 l hl
theorem Mm (c:CH.Change) (hok:dh c=true) (hS:∀ n∈c.entry.names,Fd n.words) (pre:List (List UInt8)) (hpl:pre.length<=3) (hpre:dU 1000000000100 pre):(CH.join [32] (pre++c.entry.names.map Cf)).length<=140737488355300:=by
 have h1:=K7 [32] 1000000000100 (pre++c.entry.names.map Cf) (fun l hl=>by
  rcases Ea.1 hl with h|h;·exact hpre l h
  ·obtain⟨n,hn,rfl⟩:=Ej.1 h;have:=Mi n (hS n hn);unfold Cf;simp;omega)
 have h2:=G3 hok;have h3:(pre++c.entry.names.map Cf).length*(1000000000100+[(32:UInt8)].length)<=11*(1000000000100+1):=Dh _ (by rw [Au,Dt];omega);omega
def Bfp (s:List UInt8):List UInt8:=if s=[] then [45] else s
theorem Hdy (s:List UInt8) (w:ZB) (b:Nat) (h0:w.cell? ⟨b,0,none⟩=some (aA s)) (h1:w.cell? ⟨b,1,none⟩=some (aA [45])) : ZE prog 111 #[.slice (some ⟨b,0,none⟩) 2 2] w (Ret w (aA (Bfp s))):=by
 unfold Bfp;by_cases hs:s=[]
 ·subst hs;rw [Ar rfl];go_enter func111,ntmps111;go_wp2_with fail;go_loopw [8] (fun iv wr=>∃ j:Nat,j<2/\iv=↑j/\wr=w) (fun iv _=>2 - (ZG iv).toNat);case atStart=>exact⟨0,oM,rfl,rfl⟩
  case round =>
   obtain⟨j,hj,rfl,rfl⟩:=hrel;rcases (oM:j=0\/j=1) with rfl|rfl
   ·go_wp2;go_roundw;case rel=>exact⟨1,oM,by first|rfl|go_num,by first|rfl|trivial⟩
    case measure=>simp [ZG]
   ·exact FD34
 ·rw [Ah hs];have te:List.isEmpty s=false:=by cases s with|nil=>exact absurd rfl hs|cons _ _=>rfl
  go_enter func111,ntmps111;go_wp2_with fail;go_loopw [8] (fun iv wr=>iv=.int .i64 0/\wr=w) (fun _ _=>0);case atStart=>exact⟨rfl,rfl⟩
  case round =>obtain⟨rfl,rfl⟩:=hrel;exact FD34
theorem zn (n:Int) (w:ZB):(Instr.typeAssert (.iface 3 ↑n) 20 3 true).run prog w=.ok (.tuple #[↑n,.bool true]) w:=kR
theorem yZ (s:ByteArray) (w:ZB):(Instr.typeAssert (.iface 9 (.string s)) 20 3 true).run prog w=.ok (.tuple #[.int .i64 0,.bool false]) w:=kR
theorem yY (s:ByteArray) (w:ZB):(Instr.typeAssert (.iface 9 (.string s)) 20 9 true).run prog w=.ok (.tuple #[.string s,.bool true]) w:=kR
theorem zl (a:Option Addr) (n c:Nat) (w:ZB):(Instr.typeAssert (.iface 25 (.slice a n c)) 20 3 true).run prog w=.ok (.tuple #[.int .i64 0,.bool false]) w:=kR
theorem zf (a:Option Addr) (n c:Nat) (w:ZB):(Instr.typeAssert (.iface 25 (.slice a n c)) 20 9 true).run prog w=.ok (.tuple #[.string ⟨#[]⟩,.bool false]) w:=kR
theorem zh (a:Option Addr) (n c:Nat) (w:ZB):(Instr.typeAssert (.iface 25 (.slice a n c)) 20 25 true).run prog w=.ok (.tuple #[.slice a n c,.bool true]) w:=kR
def No (B:Nat) (w:ZB):CH.Word->ZC->Prop
 |.int n,v=>v=.iface 3 ↑n/\-9223372036854775808<=n/\n<=9223372036854775807
 |.str s,v=>v=.iface 9 (aA s)
 |.strs l,v=>∃ sv,v=.iface 25 sv/\Strs B w sv l/\l.length<=5000
theorem No.below {B B':Nat} {w w':ZB} {x:CH.Word} {v:ZC} (h:No B w x v) (hb:Below B' w w') (hB:B<=B'):No B w' x v:=by
 cases x with
 |int n=>exact h
 |str s=>exact h
 |strs l =>obtain⟨sv,h1,h2,h3⟩:=h;exact⟨sv,h1,h2.below hb hB,h3⟩
theorem Gcd (ws:List CH.Word) (k:Nat) (x:CH.Word) (h:ws[k]?=some x):(ws.take (k+1)).flatMap CH.Word.texts=(ws.take k).flatMap CH.Word.texts++x.texts:=by rw [aI ws k x h,Ja];simp
theorem I20 (s:List UInt8):(CH.Word.str s).texts=[Bfp s]:=rfl
set_option maxRecDepth 5000 in
theorem I05 (ws:List CH.Word) (b:Nat) (w:ZB) (hG:Gl w) (hb:b<w.heap.size) (hrow:∀ j x,ws[j]?=some x->∃ v,w.cell? ⟨b,j,none⟩=some v/\No w w x v) (hl:ws.length<=100) (hJ:(CH.words ws).length<=140737488355328) : ZE prog 46 #[.slice (some ⟨b,0,none⟩) ws.length ws.length] w (Ret w (aA (CH.words ws))):=by
 obtain⟨R,hR⟩:∃ R,Hid (CH.words ws=R):=⟨_,Aa rfl⟩
 have hJ:=Aa hJ;rw [hR.out];replace hrow:=Aa hrow;generalize hN:ws.length=N at *;replace hN:=Aa hN;go_enter func46,ntmps46;go_wp2_with fail;go_loopw [3,11] (fun lv iv wr=>∃ k:Nat,k<=N/\iv=↑k/\Hid (Ax w wr lv ((ws.take k).flatMap CH.Word.texts))/\Hid (((ws.take k).flatMap CH.Word.texts).length<=k*5000)/\Hid (Below w w wr)) (fun _ iv _=>N - (ZG iv).toNat);case atStart=>exact⟨0,Bg _,rfl,Aa (Ax.nil _ _),Aa sM,Aa (Ac _ _)⟩
 case round =>
  obtain⟨k,hk,rfl,hO,hLe,hB⟩:=hrel;obtain⟨a3,c3,rfl,hf1,hf2,hf3⟩:=hO.out.form;clear hf3;by_cases hlt:k<N
  ·obtain⟨x,hx⟩:∃ x,ws[k]?=some x:=⟨_,Ad (by rw [hN.out];omega)⟩
   obtain⟨v,c0,hv⟩:=hrow.out k x hx;have e0:=(hB.out.cell (p:=⟨b,k,none⟩) hb).trans c0;have hv:=hv.below hB.out nR;have hts:=Aa (Gcd ws k x hx);clear c0 hx;generalize hL:(ws.take k).flatMap CH.Word.texts=L at *;clear hL;have hsz:=hB.out.size;have hLk:L.length<=500000:=by have:=hLe.out;have:k*5000<=100*5000:=Dh _ oM;omega
   cases x with
   |int n =>
    obtain⟨rfl,hn0,hn1⟩:=hv;have T1:=fun W=>zn n W;by_cases hn:n = -1
    ·subst hn;go_wp2_with (at_builtin;refine Cs rfl _ _ rfl w _ L rfl (hO.out.alloc _) wr.heap.size 1 [45] rfl ?c1 ?c2 ?c3 ?_)
     case c1=>rw [Cj _ _ _ _ rfl];rfl
     case c2=>omega
     case c3=>simp;omega
     intro v3 w3 hO3 hg3 _;have hO4:Hid (Ax w w3 v3 ((ws.take (k+1)).flatMap CH.Word.texts)):=Aa (by rw [hts.out];exact hO3);have hB4:Hid (Below w w w3):=Aa (((hB.out).alloc oM _).grown hg3 (by simp;omega) (fun j hj=>(Dj hO.out j hj).1));have rD:Hid (((ws.take (k+1)).flatMap CH.Word.texts).length<=(k+1)*5000):=Aa (by rw [hts.out,Au];have h9:=hLe.out;have h8:([[45]]:List (List UInt8)).length=1:=rfl;show L.length+([[45]]:List (List UInt8)).length<=_;omega);exact FD68
    ·have hne:(n==-1)=false:=by simpa using hn
     have hte:(CH.Word.int n).texts=[Lib.itoa n]:=by show (if n = -1 then _ else _)=_;rw [Ah hn]
     rw [hte] at hts;have I:=Aa (Hd n wr hn0 hn1 (hG.below hB.out));clear hte;go_wp2_with fail;refine I.out.mono ?_;rintro e w2 ⟨rfl,hb2⟩;have hO2:=hO.out.below hb2;have hB2:Below w w w2:=hB.out.trans (hb2.mono hB.out.size);have hs2:=hB2.size;clear I hb2 T1;go_wp2_with (at_builtin;refine Cs rfl _ _ rfl w _ L rfl (hO2.alloc _) w2.heap.size 1 (Lib.itoa n) rfl ?c1 ?c2 ?c3 ?_)
     case c1=>rw [Cj _ _ _ _ rfl];rfl
     case c2=>omega
     case c3=>simp;omega
     intro v3 w3 hO3 hg3 _;exact FD36
   |str s =>
    obtain rfl:=hv;have T1:=fun W=>yZ ⟨s.toArray⟩ W;have T2:=fun W=>yY ⟨s.toArray⟩ W;rw [I20] at hts;have O:=Aa fun (W:ZB) (bb:Nat) h0 h1=>Hdy s W bb h0 h1;generalize Bfp s=ds at *;go_wp2_with fail;refine (O.out _ _ (by rw [Cj _ _ _ _ rfl];rfl) (by rw [Cj _ _ _ _ rfl];rfl)).mono ?_;rintro e w2 ⟨rfl,hb2⟩;have hO2:=(hO.out.alloc _).below hb2;have hB2:Below w w w2:=(hB.out.alloc hB.out.size _).trans (hb2.mono (by simp;omega));have hs2:=hB2.size;clear O hb2 T1 T2
    ·go_wp2_with (at_builtin;refine Cs rfl _ _ rfl w _ L rfl (hO2.alloc _) w2.heap.size 1 ds rfl ?c1 ?c2 ?c3 ?_)
     case c1=>rw [Cj _ _ _ _ rfl];rfl
     case c2=>omega
     case c3=>simp;omega
     intro v3 w3 hO3 hg3 _;exact FD36
   |strs l =>
    obtain⟨sv,rfl,hsv,hsl⟩:=hv;obtain⟨sa,sc,rfl,_,_⟩:=hsv.form;have T1:=fun W=>zl sa l.length sc W;have T2:=fun W=>zf sa l.length sc W;have T3:=fun W=>zh sa l.length sc W;generalize hM:l.length=M at *;have hMM:=Aa hM;clear hM
    ·go_wp2_with (at_builtin;refine M4 rfl _ _ rfl w _ L rfl hO.out w _ l rfl hsv (by have:=hMM.out;omega) hsz ?_)
     intro v3 w3 hO3 hg3 _;have hO4:Hid (Ax w w3 v3 ((ws.take (k+1)).flatMap CH.Word.texts)):=Aa (by rw [hts.out];exact hO3);have hB4:Hid (Below w w w3):=Aa ((hB.out).grown hg3 hsz (fun j hj=>(Dj hO.out j hj).1));have rD:Hid (((ws.take (k+1)).flatMap CH.Word.texts).length<=(k+1)*5000):=Aa (by rw [hts.out,Au];have h9:=hLe.out;have h8:=hMM.out;show L.length+l.length<=_;omega);exact FD68
  ·obtain rfl:k=N:=oM;have htk:ws.take k=ws:=by rw [<- hN.out,Dw]
   rw [htk] at hO hLe hf1 ⊢;clear htk;have J:=Aa (Ml _ (ws.flatMap CH.Word.texts) [32] wr hO.out.strs (by have:=hLe.out;have:k*5000<=100*5000:=Dh _ oM;omega) hJ.out);have hRf:Hid (CH.join [32] (ws.flatMap CH.Word.texts)=R):=Aa hR.out;generalize CH.join [32] (ws.flatMap CH.Word.texts)=JJ at *;generalize (ws.flatMap CH.Word.texts).length=LL at *;clear hO;go_wp2_with fail;refine J.out.mono ?_;rintro e w2 ⟨rfl,hb2⟩;clear J;go_wp2;go_ret;exact⟨by rw [<- hRf.out];rfl,hB.out.trans (hb2.mono hB.out.size)⟩
end
end Go.Proofs.YtdgmgjeoikcgbaaGreatDoor
