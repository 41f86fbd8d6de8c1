/- ChainMatch, part 8 of 26. -/
import Derived.Test.YtajmjabodcmonaaGreatDoorP03
import Derived.Test.YtajmjabodcmonaaGreatDoorP04
set_option linter.all false
set_option maxHeartbeats 40000000
set_option maxRecDepth 100000
open Go renaming undef -> ZA, World -> ZB, Value -> ZC, Calls -> ZE, redrawn -> ZI
open Go.RowKit renaming intOf -> ZG
open Decidable renaming decide -> ZH
namespace Go.Proofs.Y
section
open Go.Lib Go.Proofs.Tryz Go.RowKit Go.Shelf CH
attribute [local go_sem] Jt
theorem Alt (k:Int) (s:Q00) (w:ZB) : ZE prog 294 #[↑k,↑s] w (fun e w'=>e=.returned (.func (.func 320) #[] #[.pointer (some ⟨w,0,none⟩),.pointer (some ⟨w+1,0,none⟩)])/\w'=(w.alloc (.cells #[↑k] 3)).alloc (.cells #[↑s] 9)):=by go_enter func294,ntmps294;exact FD35
structure pU (w:ZB) (k:Int) (s:Q00) (pre:List Q00) (W:ZB):Prop where
 le:w.heap.size+4<=W.heap.size
 out:∃ v,W.heap[w.heap.size]?=some (.cells #[v] 22 (0,0))/\At (w+4) W v pre
 rest:W.heap[w.heap.size+1]?=some (.cells #[.string ⟨((CH.letters k pre.length s).2).toArray⟩] 9 (0,0))
 below:Below w w W
def Pwc (w:ZB) (r:Int) (e:Ending) (w':ZB):Prop:=∃ v,e=.returned (.tuple #[v,↑r])/\Below w w w'
theorem pU.own (w:ZB) (k:Int) (s:Q00) (B:Nat) (hB:w.heap.size+4<=B):OwnFrom B (fun pre W=>pU w k s pre W):=by
 intro pre W W' row h hg hr;obtain⟨hle,⟨v,hv,hO⟩,hrest,hb⟩:=h;have hne:∀ j,j<w.heap.size+4->some j≠row:=fun j hj e=>by have:=(hr j e.symm).1;omega
 refine⟨Af hle hg.size,⟨v,(hg.block _ oM (hne _ oM)).trans hv,?_⟩,(hg.block _ oM (hne _ oM)).trans hrest,?_⟩;·exact Jn hO hg (fun r e=>(hr r e).2)
 ·exact hb.grown hg hb.size (fun j e=>by have:=(hr j e).1;omega)
theorem pU.set (w:ZB) (k:Int) (s:Q00) (pre:List Q00) (W:ZB) (u:ZC) (h:pU w k s pre W):pU w k s pre (W.setCell ⟨w+3,0,none⟩ u):=by obtain⟨hle,⟨v,hv,hO⟩,hrest,hb⟩:=h;refine⟨by simp [World.setCell];exact hle,⟨v,(Bt _ _ _ _ (by show w.heap.size≠w.heap.size+3;omega)).trans hv,hO.kJ oM _ _⟩,(Bt _ _ _ _ (by show w.heap.size+1≠w.heap.size+3;omega)).trans hrest,hb.setCell (by show w.heap.size<=w.heap.size+3;omega) _⟩
theorem Sq (w:ZB) (o1 o2 o3 o4:Obj) : ((((w.alloc o1).alloc o2).alloc o3).alloc o4).heap[w.heap.size]?=some o1/\((((w.alloc o1).alloc o2).alloc o3).alloc o4).heap[w.heap.size+1]?=some o2 /\ ((((w.alloc o1).alloc o2).alloc o3).alloc o4).heap[w.heap.size+2]?=some o3/\((((w.alloc o1).alloc o2).alloc o3).alloc o4).heap[w.heap.size+3]?=some o4:=by
 have e:((((w.alloc o1).alloc o2).alloc o3).alloc o4).heap=(((w.heap.push o1).push o2).push o3).push o4:=by simp only [World.alloc]
 rw [e];simp only [Dk,Ef];refine⟨?_,?_,?_,?_⟩;·rw [Ai oM,Ai oM,Ai oM,Au trivial]
 ·rw [Ai oM,Ai oM,Au trivial]
 ·rw [Ai oM,Au trivial]
 ·rw [Au trivial]
theorem Ggi (k:Int) (s:Q00) (w:ZB) (hG:Gc w) (hs:s.length<=1000000) : ZE prog 239 #[↑k,↑s] w (Pwc w (if dK k s then 0 else 1)):=by
 obtain⟨r,hr⟩:∃ r:Int,Hid ((if dK k s then (0:Int) else 1)=r):=⟨_,Aa rfl⟩
 rw [hr.out];refine (Jj (n:=4)).1 ?_;refine callsIn_of_wp_marks func239 rfl trivial ?_ rfl;simp only [ntmps239,Ip,A8,Bj,Nat.reduceAdd,Nat.reduceSub,Ig,Ie,I7,Il,Dl,Ea];refine Np.2 ?_;go_wp2_with fail;refine CmZ (Alt k s _) fun w1 hw1=>?_;simp only [Dt] at hw1 ⊢;have hB1:Below w w w1:=by rw [hw1];exact ((((Ac _ w).alloc nR _).alloc sM _).alloc (by simp;omega) _).alloc (by simp;omega) _
 have hsz:w1.heap.size=w.heap.size+4:=by rw [hw1];simp
 have e0:w1.heap[w.heap.size]?=some (.cells #[.slice none 0 0] 22 (0,0)):=by rw [hw1];exact (Sq w _ _ _ _).1
 have e1:w1.heap[w.heap.size+1]?=some (.cells #[↑s] 9 (0,0)):=by rw [hw1];exact (Sq w _ _ _ _).2.1
 have e2:w1.heap[w.heap.size+2]?=some (.cells #[↑k] 3 (0,0)):=by rw [hw1];exact (Sq w _ _ _ _).2.2.1
 have e3:w1.heap[w.heap.size+3]?=some (.cells #[↑s] 9 (0,0)):=by rw [hw1];exact (Sq w _ _ _ _).2.2.2
 clear hw1;go_wp2_with fail;refine (Np (n:=4)).1 ?_;refine Ffi (n:=4) (w.heap.size+3) oM rfl dC (gf:=320) (lb:=#[.pointer (some ⟨w+2,0,none⟩),.pointer (some ⟨w+3,0,none⟩)]) rfl trivial (enters_of func320 kR rfl) (Gge k s hs 3 dC w (w+3) (w.heap.size+2) w w1 hG rfl hB1 oM oM oM e3 e2) (fun h1 h2=>⟨h1.1.trans h2.1,h2.2.1.trans h1.2.1,h2.2.2.trans h1.2.2⟩) (fun W l o o' hl ho _ _=>⟨(Ac _ W).grown (grownBy_putObj' W l o') (by have:=(aZ ho);omega) (fun j e=>by cases e;omega),World.putObj_heap_other oM,World.putObj_heap_other oM⟩) (Ac _ _) (fun _=>rfl) (fun pre W=>pU w k s pre W/\pre.length<=12) (fun c pre W=>c=.exit 0/\pre.length=13/\(CH.letters k 13 s).1=pre/\pU w k s pre W) (fun pre A B row h hg hr=>⟨pU.own w k s _ oM pre A B row h.1 hg hr,h.2⟩) (fun c pre A B row h hg hr=>⟨h.1,h.2.1,h.2.2.1,pU.own w k s _ oM pre A B row h.2.2.2 hg hr⟩) (fun pre A v h=>⟨pU.set w k s pre A v h.1,h.2⟩) ⟨⟨oM,⟨_,e0,At.nil _ _⟩,e1,hB1⟩,sM⟩ (fun x=>{ tmps:=#[↑k,↑s,ZA,ZA,.slice none 0 0,.int .i64 0,.pointer (some ⟨w,0,none⟩),.pointer (some ⟨w+1,0,none⟩),↑x,↑s,↑k,↑s,.func (.func 320) #[] #[.pointer (some ⟨w+2,0,none⟩),.pointer (some ⟨w+3,0,none⟩)],↑x,ZA,ZA,ZA,ZA,ZA,ZA,ZA,ZA,ZA,ZA,ZA,ZA,ZA,ZA,ZA,ZA,ZA,ZA,ZA,ZA,ZA,ZA,ZA,ZA],defers:=[] }) ?assign ?body ?done ?stop;case assign =>intro l x W K hK;gi_wp2;exact hK
 case body =>
  rintro l pre x W ⟨hLI,hlen⟩ ⟨hN1,hN2,hN3⟩;obtain⟨hle,⟨v,hv,hO⟩,hrest,hb⟩:=hLI;have hsl:=oN k (CH.letters k pre.length s).2;have hsu:=mW k pre.length s (by rw [hN1]) hN2;rw [hN1] at hsu;generalize hj:CH.slen k (CH.letters k pre.length s).2=j at *;have hrl:=qK k pre.length s;generalize hR:(CH.letters k pre.length s).2=R at *;have hxl:x.length=j:=by rw [hN3,C9];omega
  have hrest':(CH.letters k (pre.length+1) s).2=R.drop j:=by rw [hsu]
  have hpre':(CH.letters k (pre.length+1) s).1=pre++[x]:=by rw [hsu,hN3]
  have HS:=Aa (And.intro hrest' hpre');have hxR:x.length<=R.length:=oM;obtain⟨av,cv,rfl,hf1,hf2,_⟩:=hO.form;clear hj;subst hxl;have hex:(ByteArray.mk R.toArray).extract x.length R.length=⟨(R.drop x.length).toArray⟩:=Eg R x.length;have OI:R.length<=1000000:=oM;generalize hPL:pre.length=pl at *;have ha:∀ W',Below (w+4) W W'->W'.cell? ⟨w,0,none⟩=some (.slice av pl cv)/\W'.cell? ⟨w+1,0,none⟩=some ↑R/\W'.frozen? ⟨w,0,none⟩=false/\W'.frozen? ⟨w+1,0,none⟩=false:=fun W' hb' =>⟨(hb'.cell (p:=⟨w,0,none⟩) sM).trans (Ab hv 0),(hb'.cell (p:=⟨w+1,0,none⟩) sM).trans (Ab hrest 0),(hb'.frozen (p:=⟨w,0,none⟩) sM).trans (Bb hv 0),(hb'.frozen (p:=⟨w+1,0,none⟩) sM).trans (Bb hrest 0)⟩
  have hBd:Below (w+4) W W.drew:=(Ac _ W).drew;have hBa:∀ o,Below (w+4) W (W.drew.alloc o):=fun o=>hBd.alloc hle o;obtain⟨d0,d1,d2,d3⟩:=ha _ hBd;have q0:=fun o=>(ha _ (hBa o)).1;have q1:=fun o=>(ha _ (hBa o)).2.1;have q0':∀ o,(W.alloc o).cell? ⟨w,0,none⟩=some (.slice av pl cv):=q0;have q1':∀ o,(W.alloc o).cell? ⟨w+1,0,none⟩=some ↑R:=q1;have hO2:∀ o,At (w+4) (W.drew.alloc o) (.slice av pl cv) pre:=fun o=>(hO.below (Ac _ W).drew).alloc o;have hblk:=hO.ownBlock;have n0:=World.new_ne W.drew ⟨w,0,none⟩ d0;have n1:=World.new_ne W.drew ⟨w+1,0,none⟩ d1;have HA:=Aa ha;clear ha hN1 hN2 hN3 hsu hrest' hpre' hsl;gi_wp2_with fail;refine Li (fun _=>True) _ _ kR kR ?_ trivial fun kz=>?_;·rintro⟨a,w,h⟩;exact h
  refine tj 1 ?_;push_cast;refine tj 5 ?_;push_cast;refine tj 6 ?_;push_cast;refine Ew (rs:=[0,2,4]) kR sM ?_;refine Cc (o:=_) rfl (fun K hK=>?_) ?_;focus
   go_simp;refine hK.out _ _ (trivial) fun kz=>?_;clear hK K;push_cast;refine Ew (rs:=[2,4]) kR sM ?_;refine Cc (o:=_) rfl (fun K hK=>?_) ?_;focus
    go_simp;refine hK.out _ _ (trivial) fun kz=>?_;clear hK K;push_cast;refine Ew (rs:=[3,4]) kR sM ?_;refine Cc (o:=_) rfl (fun K hK=>?_) ?_;focus
     rw [Au rF];refine Ca _ _ rfl (w+4) _ pre rfl (hO2 _) W.heap.size _ x rfl (Cm _ _ _ _ _) oM (by simp;omega) ?_;intro v5 w5 hO5 hg5;obtain⟨a5,c5,rfl,nH,nG,nD⟩:=hO5.form;have hB5:Below (w+4) W w5:=(hBa _).grown hg5 (by simp;omega) (fun k e=>(hblk k e).1);have h5:=HA.out w5 hB5;obtain⟨h50,h51,h52,h53⟩:=h5;have h54:∀ u,(w5.setCell ⟨w,0,none⟩ u).cell? ⟨w+1,0,none⟩=some ↑R:=fun u=>(D9 _ ⟨w,0,none⟩ ⟨w+1,0,none⟩ _ (fun e=>by dsimp only at e;omega)).trans h51;refine hK.out _ _ (trivial) fun kz=>?_;clear hK K;push_cast;refine Ew (rs:=[4,8]) kR sM ?_;refine Cc (o:=_) rfl (fun K hK=>?_) ?_;focus go_simp;refine hK.out _ _ (trivial) fun kz=>?_;clear hK K;push_cast;refine tj 7 ?_;push_cast;refine rk 8 rfl fun K hK=>?_;go_simp;refine hK.out _ _ (trivial) fun kz=>?_;clear hK K;push_cast;refine rk 9 rfl fun K hK=>?_;go_simp;refine hK.out _ _ (trivial) fun kz=>?_;clear hK K;push_cast;refine Dy kR ?_ _
     rotate_left 1;refine Cc (o:=_) rfl (fun K hK=>?_) Eo;focus go_simp;refine hK.out _ _ (trivial) fun kz=>?_;clear hK K;push_cast;refine rk 4 rfl fun K hK=>?_;go_simp;refine hK.out _ _ (trivial) fun kz=>?_;clear hK K;push_cast;refine tj 7 ?_;push_cast;refine rk 9 rfl fun K hK=>?_;go_simp;refine hK.out _ _ (trivial) fun kz=>?_;clear hK K;push_cast;refine Dy kR ?_ _
    rotate_left 2;refine Cc (o:=_) rfl (fun K hK=>?_) Eo;focus go_simp;refine hK.out _ _ (trivial) fun kz=>?_;clear hK K;push_cast;refine tj 7 ?_;push_cast;refine rk 3 rfl fun K hK=>?_;rw [Au rF];refine Ca _ _ rfl (w+4) _ pre rfl (hO2 _) W.heap.size _ x rfl (Cm _ _ _ _ _) oM (by simp;omega) ?_;intro v5 w5 hO5 hg5;obtain⟨a5,c5,rfl,nH,nG,nD⟩:=hO5.form;have hB5:Below (w+4) W w5:=(hBa _).grown hg5 (by simp;omega) (fun k e=>(hblk k e).1);have h5:=HA.out w5 hB5;obtain⟨h50,h51,h52,h53⟩:=h5;have h54:∀ u,(w5.setCell ⟨w,0,none⟩ u).cell? ⟨w+1,0,none⟩=some ↑R:=fun u=>(D9 _ ⟨w,0,none⟩ ⟨w+1,0,none⟩ _ (fun e=>by dsimp only at e;omega)).trans h51;refine hK.out _ _ (trivial) fun kz=>?_;clear hK K;push_cast;refine rk 8 rfl fun K hK=>?_;go_simp;refine hK.out _ _ (trivial) fun kz=>?_;clear hK K;push_cast;refine rk 9 rfl fun K hK=>?_;go_simp;refine hK.out _ _ (trivial) fun kz=>?_;clear hK K;push_cast;refine Dy kR ?_ _
   rotate_left 3;refine Cc (o:=_) rfl (fun K hK=>?_) Eo;focus go_simp;refine hK.out _ _ (trivial) fun kz=>?_;clear hK K;push_cast;refine tj 7 ?_;push_cast;refine rk 2 rfl fun K hK=>?_;go_simp;refine hK.out _ _ (trivial) fun kz=>?_;clear hK K;push_cast;refine rk 3 rfl fun K hK=>?_;rw [Au rF];refine Ca _ _ rfl (w+4) _ pre rfl (hO2 _) W.heap.size _ x rfl (Cm _ _ _ _ _) oM (by simp;omega) ?_;intro v5 w5 hO5 hg5;obtain⟨a5,c5,rfl,nH,nG,nD⟩:=hO5.form;have hB5:Below (w+4) W w5:=(hBa _).grown hg5 (by simp;omega) (fun k e=>(hblk k e).1);have h5:=HA.out w5 hB5;obtain⟨h50,h51,h52,h53⟩:=h5;have h54:∀ u,(w5.setCell ⟨w,0,none⟩ u).cell? ⟨w+1,0,none⟩=some ↑R:=fun u=>(D9 _ ⟨w,0,none⟩ ⟨w+1,0,none⟩ _ (fun e=>by dsimp only at e;omega)).trans h51;refine hK.out _ _ (trivial) fun kz=>?_;clear hK K;push_cast;refine rk 8 rfl fun K hK=>?_;go_simp;refine hK.out _ _ (trivial) fun kz=>?_;clear hK K;push_cast;refine rk 9 rfl fun K hK=>?_;go_simp;refine hK.out _ _ (trivial) fun kz=>?_;clear hK K;push_cast;refine Dy kR ?_ _
  rotate_left 4;refine Cc (o:=_) rfl (fun K hK=>?_) ?_;focus
   go_simp;refine hK.out _ _ (trivial) fun kz=>?_;clear hK K;push_cast;refine Ew (rs:=[0,4]) kR sM ?_;refine Cc (o:=_) rfl (fun K hK=>?_) ?_;focus
    go_simp;refine hK.out _ _ (trivial) fun kz=>?_;clear hK K;push_cast;refine Ew (rs:=[3,4]) kR sM ?_;refine Cc (o:=_) rfl (fun K hK=>?_) ?_;focus
     rw [Au rF];refine Ca _ _ rfl (w+4) _ pre rfl (hO2 _) W.heap.size _ x rfl (Cm _ _ _ _ _) oM (by simp;omega) ?_;intro v5 w5 hO5 hg5;obtain⟨a5,c5,rfl,nH,nG,nD⟩:=hO5.form;have hB5:Below (w+4) W w5:=(hBa _).grown hg5 (by simp;omega) (fun k e=>(hblk k e).1);have h5:=HA.out w5 hB5;obtain⟨h50,h51,h52,h53⟩:=h5;have h54:∀ u,(w5.setCell ⟨w,0,none⟩ u).cell? ⟨w+1,0,none⟩=some ↑R:=fun u=>(D9 _ ⟨w,0,none⟩ ⟨w+1,0,none⟩ _ (fun e=>by dsimp only at e;omega)).trans h51;refine hK.out _ _ (trivial) fun kz=>?_;clear hK K;push_cast;refine Ew (rs:=[4,8]) kR sM ?_;refine Cc (o:=_) rfl (fun K hK=>?_) ?_;focus go_simp;refine hK.out _ _ (trivial) fun kz=>?_;clear hK K;push_cast;refine tj 7 ?_;push_cast;refine rk 8 rfl fun K hK=>?_;go_simp;refine hK.out _ _ (trivial) fun kz=>?_;clear hK K;push_cast;refine rk 9 rfl fun K hK=>?_;go_simp;refine hK.out _ _ (trivial) fun kz=>?_;clear hK K;push_cast;refine Dy kR ?_ _
     rotate_left 1;refine Cc (o:=_) rfl (fun K hK=>?_) Eo;focus go_simp;refine hK.out _ _ (trivial) fun kz=>?_;clear hK K;push_cast;refine rk 4 rfl fun K hK=>?_;go_simp;refine hK.out _ _ (trivial) fun kz=>?_;clear hK K;push_cast;refine tj 7 ?_;push_cast;refine rk 9 rfl fun K hK=>?_;go_simp;refine hK.out _ _ (trivial) fun kz=>?_;clear hK K;push_cast;refine Dy kR ?_ _
    rotate_left 2;refine Cc (o:=_) rfl (fun K hK=>?_) Eo;focus go_simp;refine hK.out _ _ (trivial) fun kz=>?_;clear hK K;push_cast;refine tj 7 ?_;push_cast;refine rk 3 rfl fun K hK=>?_;rw [Au rF];refine Ca _ _ rfl (w+4) _ pre rfl (hO2 _) W.heap.size _ x rfl (Cm _ _ _ _ _) oM (by simp;omega) ?_;intro v5 w5 hO5 hg5;obtain⟨a5,c5,rfl,nH,nG,nD⟩:=hO5.form;have hB5:Below (w+4) W w5:=(hBa _).grown hg5 (by simp;omega) (fun k e=>(hblk k e).1);have h5:=HA.out w5 hB5;obtain⟨h50,h51,h52,h53⟩:=h5;have h54:∀ u,(w5.setCell ⟨w,0,none⟩ u).cell? ⟨w+1,0,none⟩=some ↑R:=fun u=>(D9 _ ⟨w,0,none⟩ ⟨w+1,0,none⟩ _ (fun e=>by dsimp only at e;omega)).trans h51;refine hK.out _ _ (trivial) fun kz=>?_;clear hK K;push_cast;refine rk 8 rfl fun K hK=>?_;go_simp;refine hK.out _ _ (trivial) fun kz=>?_;clear hK K;push_cast;refine rk 9 rfl fun K hK=>?_;go_simp;refine hK.out _ _ (trivial) fun kz=>?_;clear hK K;push_cast;refine Dy kR ?_ _
   rotate_left 3;refine Cc (o:=_) rfl (fun K hK=>?_) Eo;focus go_simp;refine hK.out _ _ (trivial) fun kz=>?_;clear hK K;push_cast;refine tj 7 ?_;push_cast;refine rk 0 rfl fun K hK=>?_;go_simp;refine hK.out _ _ (trivial) fun kz=>?_;clear hK K;push_cast;refine rk 3 rfl fun K hK=>?_;rw [Au rF];refine Ca _ _ rfl (w+4) _ pre rfl (hO2 _) W.heap.size _ x rfl (Cm _ _ _ _ _) oM (by simp;omega) ?_;intro v5 w5 hO5 hg5;obtain⟨a5,c5,rfl,nH,nG,nD⟩:=hO5.form;have hB5:Below (w+4) W w5:=(hBa _).grown hg5 (by simp;omega) (fun k e=>(hblk k e).1);have h5:=HA.out w5 hB5;obtain⟨h50,h51,h52,h53⟩:=h5;have h54:∀ u,(w5.setCell ⟨w,0,none⟩ u).cell? ⟨w+1,0,none⟩=some ↑R:=fun u=>(D9 _ ⟨w,0,none⟩ ⟨w+1,0,none⟩ _ (fun e=>by dsimp only at e;omega)).trans h51;refine hK.out _ _ (trivial) fun kz=>?_;clear hK K;push_cast;refine rk 8 rfl fun K hK=>?_;go_simp;refine hK.out _ _ (trivial) fun kz=>?_;clear hK K;push_cast;refine rk 9 rfl fun K hK=>?_;go_simp;refine hK.out _ _ (trivial) fun kz=>?_;clear hK K;push_cast;refine Dy kR ?_ _
  rotate_left 4;refine Cc (o:=_) rfl (fun K hK=>?_) Eo;focus
   go_simp;refine hK.out _ _ (trivial) fun kz=>?_;clear hK K;push_cast;refine tj 7 ?_;push_cast;refine Ew (rs:=[0,2]) kR sM ?_;refine Cc (o:=_) rfl (fun K hK=>?_) ?_;focus go_simp;refine hK.out _ _ (trivial) fun kz=>?_;clear hK K;push_cast;refine rk 2 rfl fun K hK=>?_;go_simp;refine hK.out _ _ (trivial) fun kz=>?_;clear hK K;push_cast;refine rk 3 rfl fun K hK=>?_;rw [Au rF];refine Ca _ _ rfl (w+4) _ pre rfl (hO2 _) W.heap.size _ x rfl (Cm _ _ _ _ _) oM (by simp;omega) ?_;intro v5 w5 hO5 hg5;obtain⟨a5,c5,rfl,nH,nG,nD⟩:=hO5.form;have hB5:Below (w+4) W w5:=(hBa _).grown hg5 (by simp;omega) (fun k e=>(hblk k e).1);have h5:=HA.out w5 hB5;obtain⟨h50,h51,h52,h53⟩:=h5;have h54:∀ u,(w5.setCell ⟨w,0,none⟩ u).cell? ⟨w+1,0,none⟩=some ↑R:=fun u=>(D9 _ ⟨w,0,none⟩ ⟨w+1,0,none⟩ _ (fun e=>by dsimp only at e;omega)).trans h51;refine hK.out _ _ (trivial) fun kz=>?_;clear hK K;push_cast;refine rk 8 rfl fun K hK=>?_;go_simp;refine hK.out _ _ (trivial) fun kz=>?_;clear hK K;push_cast;refine rk 9 rfl fun K hK=>?_;go_simp;refine hK.out _ _ (trivial) fun kz=>?_;clear hK K;push_cast;refine Dy kR ?_ _
   rotate_left 1;refine Cc (o:=_) rfl (fun K hK=>?_) Eo;focus go_simp;refine hK.out _ _ (trivial) fun kz=>?_;clear hK K;push_cast;refine rk 0 rfl fun K hK=>?_;go_simp;refine hK.out _ _ (trivial) fun kz=>?_;clear hK K;push_cast;refine rk 3 rfl fun K hK=>?_;rw [Au rF];refine Ca _ _ rfl (w+4) _ pre rfl (hO2 _) W.heap.size _ x rfl (Cm _ _ _ _ _) oM (by simp;omega) ?_;intro v5 w5 hO5 hg5;obtain⟨a5,c5,rfl,nH,nG,nD⟩:=hO5.form;have hB5:Below (w+4) W w5:=(hBa _).grown hg5 (by simp;omega) (fun k e=>(hblk k e).1);have h5:=HA.out w5 hB5;obtain⟨h50,h51,h52,h53⟩:=h5;have h54:∀ u,(w5.setCell ⟨w,0,none⟩ u).cell? ⟨w+1,0,none⟩=some ↑R:=fun u=>(D9 _ ⟨w,0,none⟩ ⟨w+1,0,none⟩ _ (fun e=>by dsimp only at e;omega)).trans h51;refine hK.out _ _ (trivial) fun kz=>?_;clear hK K;push_cast;refine rk 8 rfl fun K hK=>?_;go_simp;refine hK.out _ _ (trivial) fun kz=>?_;clear hK K;push_cast;refine rk 9 rfl fun K hK=>?_;go_simp;refine hK.out _ _ (trivial) fun kz=>?_;clear hK K;push_cast;refine Dy kR ?_ _
  all_goals
   have hbd:Below W W W.drew:=(Ac _ W).drew;have hko:∀ u u',KeepsOthers W ((w5.setCell ⟨w,0,none⟩ u).setCell ⟨w+1,0,none⟩ u'):=fun u u' =>((((H0 hbd).trans (KeepsOthers.alloc _ _)).trans (KeepsOthers.of_grownBy hg5 (fun j o hj ho=>by obtain⟨_,cs,t,fr,hcs⟩:=(hO2 _).ownBlock j hj;rw [ho] at hcs;cases hcs;rfl))).trans (KeepsOthers.setCell _ _ _)).trans (KeepsOthers.setCell _ _ _);have y0:=A7 w5 w 0 (.slice a5 (pl+1) c5) _ _ _ ((hB5.block _ oM).trans hv);have y1:=(Bt w5 ⟨w,0,none⟩ (.slice a5 (pl+1) c5) (w.heap.size+1) (by show w.heap.size+1≠w.heap.size;omega)).trans ((hB5.block _ oM).trans hrest);have z0:=(Bt (w5.setCell ⟨w,0,none⟩ (.slice a5 (pl+1) c5)) ⟨w+1,0,none⟩ (.string ⟨(R.drop x.length).toArray⟩) w.heap.size (by show w.heap.size≠w.heap.size+1;omega)).trans y0;have z1:=A7 _ (w+1) 0 (.string ⟨(R.drop x.length).toArray⟩) _ _ _ y1;simp only [List.setIfInBounds_toArray,List.set_cons_zero] at z0 z1;have hOX:At (w+4) ((w5.setCell ⟨w,0,none⟩ (.slice a5 (pl+1) c5)).setCell ⟨w+1,0,none⟩ (.string ⟨(R.drop x.length).toArray⟩)) (.slice a5 (pl+1) c5) (pre++[x]):=by have h0:=hO5;simp only [Ah,hPL,A8,Bj,Bf] at h0;exact (h0.kJ (g:=w.heap.size) oM _ _).kJ (g:=w.heap.size+1) oM _ _
   have hBX:Below w W ((w5.setCell ⟨w,0,none⟩ (.slice a5 (pl+1) c5)).setCell ⟨w+1,0,none⟩ (.string ⟨(R.drop x.length).toArray⟩)) := ((hB5.mono (show w.heap.size<=w.heap.size+4 by omega)).setCell (p:=⟨w,0,none⟩) nR _).setCell (p:=⟨w+1,0,none⟩) (by show w.heap.size<=w.heap.size+1;omega) _;have hpq:∀ j,j=w.heap.size+2\/j=w.heap.size+3->((w5.setCell ⟨w,0,none⟩ (.slice a5 (pl+1) c5)).setCell ⟨w+1,0,none⟩ (.string ⟨(R.drop x.length).toArray⟩)).heap[j]?=W.heap[j]?:=fun j hj=>by rw [Bt _ _ _ _ (by show j≠w.heap.size+1;omega),Bt _ _ _ _ (by show j≠w.heap.size;omega)];exact hB5.block j oM
   have zo:=hko (.slice a5 (pl+1) c5) (.string ⟨(R.drop x.length).toArray⟩);generalize hX:(w5.setCell ⟨w,0,none⟩ (.slice a5 (pl+1) c5)).setCell ⟨w+1,0,none⟩ (.string ⟨(R.drop x.length).toArray⟩)=X at *;have c0:X.cell? ⟨w,0,none⟩=some (.slice a5 (pl+1) c5):=Ab z0 0;have hLX:pU w k s (pre++[x]) X:=⟨Af hle zo.size,⟨_,z0,hOX⟩,by rw [show (pre++[x]).length=pl+1 from by simp [hPL],HS.out.1];exact z1,hb.trans hBX⟩
   clear hko h50 h51 h52 h53 h54 d0 d1 d2 d3 q0 q1 q0' q1' hO2 hO5 hOX y0 y1 z0 z1;by_cases h12:pl+1<=12
   ·have d:ZH ((12:Int)<(pl:Int)+1)=false:=by simp;omega
    gi_wp2;exact⟨zo.from _,⟨hBX,hpq _ (.inr rfl),hpq _ (.inl rfl)⟩,hLX,by simp [hPL];omega⟩
   ·have d:ZH ((12:Int)<(pl:Int)+1)=true:=by simp;omega
    gi_wp2;exact⟨zo.from _,rfl,by simp [hPL];omega,by rw [<- HS.out.2,show pl+1=13 from by omega],hLX⟩
 case done =>
  rintro D xs W hD ⟨hS1,hS2⟩ ⟨hLI,hlen⟩ hdef;have h13:=qJ k xs.length s hS2 13 oM;have hpre:(CH.letters k 13 s).1=xs:=by rw [h13];exact hS1
  have hbD:=B8 (r:=D) hLI.below oM (.deferred none);obtain⟨hle,⟨v,hv,hO⟩,hrest,hb⟩:=hLI;obtain⟨av,cv,rfl,hf1,hf2,_⟩:=hO.form;rw [<- h13] at hrest;have hword:Hid (dK k s=((CH.letters k 13 s).2==[]&&!(xs==[])&&ZH (xs.length<=12))):=Aa (by unfold dK;rw [hpre]);generalize hR:(CH.letters k 13 s).2=R at *;generalize hN:xs.length=N at *;have c0:W.cell? ⟨w,0,none⟩=some (.slice av N cv):=Ab hv 0;have c1:W.cell? ⟨w+1,0,none⟩=some ↑R:=Ab hrest 0;clear hO;cases hRe:List.isEmpty R with
  |false =>exact FD103
  |true =>
   have hR0:R=[]:=by cases R with|nil=>rfl|cons _ _=>cases hRe
   by_cases hN0:N=0
   ·have hr1:r=1:=by
     have h0:(xs==[])=true:=by have:xs=[]:=Bo.1 (hN.trans hN0);rw [this];rfl
     rw [<- hr.out,hword.out,h0,hR0];rfl
    subst hr1;have z0:((N:Int)==0)=true:=by simp;omega
    exact FD20
   ·have z0:((N:Int)==0)=false:=by simp;omega
    have h0:(xs==[])=false:=by
     cases hq:xs with
     |nil=>rw [hq] at hN;simp at hN;omega
     |cons _ _=>rfl
    exact FD41
 case stop =>
  rintro D c pre W hD _ ⟨rfl,hlen,hpre,hLI⟩ hdef;refine Np.2 ?_;have hbD:=B8 (r:=D) hLI.below oM (.deferred none);obtain⟨hle,⟨v,hv,hO⟩,hrest,hb⟩:=hLI;obtain⟨av,cv,rfl,hf1,hf2,_⟩:=hO.form;rw [hlen] at hrest;clear hlen;have hword:Hid (dK k s=((CH.letters k 13 s).2==[]&&!(pre==[])&&ZH (pre.length<=12))):=Aa (by unfold dK;rw [hpre]);generalize hR:(CH.letters k 13 s).2=R at *;generalize hN:pre.length=N at *;have c0:W.cell? ⟨w,0,none⟩=some (.slice av N cv):=Ab hv 0;have c1:W.cell? ⟨w+1,0,none⟩=some ↑R:=Ab hrest 0;clear hO;cases hRe:List.isEmpty R with
  |false =>exact FD103
  |true =>
   have hR0:R=[]:=by cases R with|nil=>rfl|cons _ _=>cases hRe
   by_cases hN0:N=0
   ·have hr1:r=1:=by
     have h0:(pre==[])=true:=by have:pre=[]:=Bo.1 (hN.trans hN0);rw [this];rfl
     rw [<- hr.out,hword.out,h0,hR0];rfl
    subst hr1;have z0:((N:Int)==0)=true:=by simp;omega
    exact FD20
   ·have z0:((N:Int)==0)=false:=by simp;omega
    have h0:(pre==[])=false:=by
     cases hq:pre with
     |nil=>rw [hq] at hN;simp at hN;omega
     |cons _ _=>rfl
    exact FD41
end
section
open Go.Lib Go.Proofs.Tryz Go.RowKit Go.Shelf Go.Sort CH
variable {B:Nat} {w:ZB} {ns:List Q05} {ls:List Q00} {c:CH.Change}
def Pbd (B:Nat) (w:ZB) (cs:List ZC) (n:Q05):Prop:=∃ vw,cs=[aJ n.script,vw]/\Strs B w vw n.words
theorem O4 (cs:List ZC) (n:Q05) (w:ZB) (hG:Gc w) (hn:Pbd w w cs n) (hS:Fx n.words) : ZE prog 163 #[.agg cs.toArray] w (Ret w (.bool (bP n))):=by
 obtain⟨vw,rfl,hw⟩:=hn;obtain⟨r,hr⟩:∃ r,Hid (bP n=r):=⟨_,Aa rfl⟩
 rw [hr.out];obtain⟨aw,cw,rfl,hc1,hc2,hcell⟩:=hw;obtain⟨hS1,hS2⟩:=hS;have uD:=Aw w (.cells #[↑n.script,.slice aw n.words.length cw] 165);have hB0:=(Ac _ w).alloc nR (.cells #[↑n.script,.slice aw n.words.length cw] 165);generalize hN:n.words.length=N at *;have HF:=Aa hcell;clear hcell;have hlt0:w.heap.size<(w.alloc (.cells #[↑n.script,.slice aw N cw] 165)).heap.size:=sM;go_enter func163,ntmps163;go_wp2_with fail;generalize hW:w.alloc (.cells #[↑n.script,.slice aw N cw] 165)=W at *;go_loopw [10] (fun iv wr=>∃ k:Nat,k<=N/\iv=↑k/\Hid ((n.words.take k).all (dK n.script)=true)/\Below W W wr) (fun iv _=>N - (ZG iv).toNat);case atStart=>exact⟨0,Az _,rfl,Aa rfl,Ac _ _⟩
 case round =>
  obtain⟨k,hk,rfl,hu,hbW⟩:=hrel;have hb:Below w w wr:=hB0.trans (hbW.mono (Gw hlt0));have hblk:=(hbW.block w hlt0).trans uD;have c0:wr.cell? ⟨w,0,none⟩=some ↑n.script:=Ab hblk 0;have c1:wr.cell? ⟨w,1,none⟩=some (.slice aw N cw):=Ab hblk 1;by_cases hlt:k<N
  ·obtain⟨x,hx⟩:∃ x,n.words[k]?=some x:=⟨_,Ad oM⟩
   have hxl:=hS2 x (Ap hx);obtain⟨b,off,rfl,hblt,hcs⟩:=HF.out (fun e=>by rw [e] at hN;simp at hN;omega);have hck:=(hb.cell (p:=⟨b,off+k,none⟩) hblt).trans (hcs k x hx);have hts:n.words.take (k+1)=n.words.take k++[x]:=by rw [D7,hx];rfl
   have hno:(n.words.take (k+1)).all (dK n.script)=dK n.script x:=by rw [hts,Jg,hu.out];simp
   have A:=Ggi n.script x wr (hG.below hb) oM;have HN:=Aa hno;have hmem:Hid (x∈n.words):=Aa (Ap hx);clear hno hts hcs hx;cases hin:dK n.script x with
   |false =>
    rw [hin] at A;have A:=Aa A;have hr1:r=false:=by rw [<- hr.out];unfold bP;rw [show n.words.all (dK n.script)=false from by rw [J9];exact⟨x,hmem.out,by rw [hin];decide⟩];rfl
    subst hr1;go_wp2_with fail;refine A.out.mono ?_;rintro e w1 ⟨v1,rfl,hb1⟩;clear A;go_wp2;go_ret;exact⟨rfl,hb.trans (hb1.mono hb.size)⟩
   |true =>
    rw [hin] at A;have A:=Aa A;have HR:Hid ((n.words.take (k+1)).all (dK n.script)=true):=Aa (by rw [HN.out,hin]);clear HN;go_wp2_with fail;refine A.out.mono ?_;rintro e w1 ⟨v1,rfl,hb1⟩;clear A;go_wp2;go_roundw;case rel=>exact⟨k+1,oM,by go_num,HR,hbW.trans (hb1.mono hbW.size)⟩
    case measure=>simp [ZG];omega
  ·have e:N=k:=oM;subst e;have hall:n.words.all (dK n.script)=true:=by rw [<- hu.out,<- hN,Dn]
   have hr1:r=(ZH (0<N)&&ZH (N<=6)):=by rw [<- hr.out];unfold bP;rw [hall,hN];rfl
   subst hr1;by_cases h0:0<N
   ·have d0:ZH ((0:Int)<(N:Int))=true:=by simp;omega
    go_wp2;go_ret;refine⟨?_,hb⟩;rw [Am h0,a_Bool_true_and,show ZH (N<=6)=ZH ((N:Int)<=6) from Eh.2 oM];rfl
   ·have d0:ZH ((0:Int)<(N:Int))=false:=by simp;omega
    go_wp2;go_ret;refine⟨?_,hb⟩;simp [h0]
theorem I52 (sep:Q00):∀ ls:List Q00,Lib.join ls sep=CH.join sep ls:=by
 intro ls;induction ls with
 |nil=>rfl
 |cons x l ih =>
  cases l with
  |nil=>exact Lib.join_one x sep
  |cons y l =>rw [Lib.join_cons,CH.join,<- ih,Lib.join_cons];simp [Lib.joinTail]
theorem Lx (v:ZC) (ls:List Q00) (sep:Q00) (w:ZB) (hv:Strs w w v ls) (hN:ls.length<=1000000) (hlen:(CH.join sep ls).length<=140737488355328) : ZE prog 102 #[v,↑sep] w (Ret w (.string ⟨(CH.join sep ls).toArray⟩)):=by
 obtain⟨a,cap,rfl,h1,h2,h3⟩:=hv;by_cases hne:ls=[]
 ·subst hne;exact (Tryz.strings_Join_none a cap ⟨sep.toArray⟩ w).mono fun e w' ⟨he,hw⟩=>⟨he,by rw [hw];exact Ac _ _⟩
 ·obtain⟨b,off,rfl,hb,hc⟩:=h3 hne;have hmap:(ls.map fun l=>ByteArray.mk l.toArray).map (·.data.toList)=ls:=by rw [Nq];exact (List.map_congr_left (fun a _=>rfl)).trans (List.map_id ls)
  have hJ:=Tryz.strings_Join b off cap (ls.map fun l=>ByteArray.mk l.toArray) ⟨sep.toArray⟩ w (fun j x hx=>by
   rw [Dq] at hx;cases hl:ls[j]? with
   |none=>rw [hl] at hx;cases hx
   |some l=>rw [hl] at hx;cases hx;exact hc j l hl) hb (by simp;omega) (by simpa using h1) (by rw [hmap];show (Lib.join ls sep).length<=_;rw [I52];exact hlen)
  rw [hmap,Bh] at hJ;have e2:Lib.join ls (ByteArray.mk sep.toArray).data.toList=CH.join sep ls:=I52 sep ls;rw [e2] at hJ;exact hJ
def Hm:Array ZC:=#[.string ⟨#[]⟩,.string ⟨([112,108,97,105,110]:Q00).toArray⟩,.string ⟨([99,97,115,101,100]:Q00).toArray⟩,.string ⟨([97,98,106,97,100]:Q00).toArray⟩,.string ⟨([115,121,108,108,97,98]:Q00).toArray⟩]
theorem Hl2 (w:ZB):ZE prog 164 #[] w (Ret w (.agg Hm)):=by
 go_enter func164,ntmps164;go_wp2;refine Aj (I6 (p:=0) (ty:=215) rfl _ _ ⟨w,0,none⟩ _ rfl (H7 _ w 0 215 Hm.toList _ (fun j v hv=>?_) underlying215 rfl kR)) rfl ?_
 ·rw [Bf,Cm];have hv':Hm[j]?=some v:=by simpa using hv
  exact hv'
 ·exact FD140
theorem B7b {n:Q05} (h:bP n=true):1<=n.script/\n.script<=4:=by
 unfold bP at h;simp only [Ba,Bq] at h;obtain⟨hall,h0,_⟩:=h;cases hw:n.words with
 |nil=>rw [hw] at h0;simp at h0
 |cons x l =>
  rw [hw] at hall;have hx:dK n.script x=true:=Df.1 hall x sM;apply Gp;intro hn;have hs:CH.slen n.script x=0:=by unfold CH.slen;rw [Ai oM,Ai oM,Ai oM,Ai oM]
  have hl:CH.letters n.script 13 x=([],x):=bT _ _ _ hs;unfold dK at hx;rw [hl] at hx;simp at hx
theorem Kj (sep:Q00) (m:Nat):∀ ls:List Q00,(∀ l∈ls,l.length<=m)->(CH.join sep ls).length<=ls.length*(m+sep.length):=by
 intro ls;induction ls with
 |nil=>intro _;simp [CH.join]
 |cons x l ih =>
  intro h;have hx:=h x sM;cases l with
  |nil=>simp [CH.join];omega
  |cons y l =>have:=ih (fun z hz=>h z (by simp at hz ⊢;right;exact hz));rw [CH.join];simp only [Ah,A8] at this ⊢;have e:(l.length+1+1)*(m+sep.length)=(l.length+1)*(m+sep.length)+(m+sep.length):=Nat.succ_mul _ _;omega
theorem Mw (cs:List ZC) (n:Q05) (w:ZB) (hG:Gc w) (hn:Pbd w w cs n) (hS:Fx n.words) (hok:bP n=true) : ZE prog 101 #[.agg cs.toArray] w (Ret w (.tuple #[.string ⟨(aV n).toArray⟩,.int .i64 0])):=by
 have hsc:=B7b hok;have hV:=fun (w':ZB) (hb:Below w w w')=>O4 cs n w' (hG.below hb) (by obtain⟨vw,h1,h2⟩:=hn;exact⟨vw,h1,(h2.below hb nR).mono hb.size⟩) hS;obtain⟨vw,rfl,hw⟩:=hn;have hJl:(CH.join [32] n.words).length<=1000000000000:=by have h1:=Kj [32] 10000 n.words hS.2;have h2:=hS.1;have h3:n.words.length*(10000+1)<=100000*(10000+1):=Dh _ h2;simp only [A8,Bj,Bf] at h1;omega
 have hJ:=fun (w':ZB) (hb:Below w w w')=>Lx vw n.words [32] w' ((hw.below hb nR).mono hb.size) (by have:=hS.1;omega) oM;rw [hok] at hV;obtain⟨aw,cw,rfl,hc1,hc2⟩:=hw.form;obtain⟨res,hres⟩:∃ r,Hid (aV n=r):=⟨_,Aa rfl⟩
 rw [hres.out];have hres':Hid (CH.title n.script++[58]++CH.join [32] n.words=res):=Aa hres.out;clear hres hw;generalize CH.join [32] n.words=J at *;generalize hN:n.words.length=N at *;have HV:=Aa hV;have HJ:=Aa hJ;clear hV hJ;have hB0:=fun o=>(Ac _ w).alloc nR o;go_enter func101,ntmps101;go_wp2_with fail;refine CmZ (HV.out _ (hB0 _)) fun w1 hb1=>?_;have hB1:Below w w w1:=(hB0 _).trans (hb1.mono sM);have hblk:=(hb1.block w sM).trans (Aw w _);have hlt:w.heap.size<w1.heap.size:=(aZ hblk)
 clear hb1 HV;have c0:w1.cell? ⟨w,0,none⟩=some ↑n.script:=Ab hblk 0;have c1:w1.cell? ⟨w,1,none⟩=some (.slice aw N cw):=Ab hblk 1;go_wp2_with fail;have cT:∀ W',Below w1 w1 W'->ZE prog 164 #[] W' (fun e w'=>e=.returned (.agg Hm)/\Below W' W' w'):=fun W' _=>Hl2 W';have cJ:∀ W',Below w1 w1 W'->ZE prog 102 #[.slice aw N cw,.string ⟨#[32]⟩] W' (fun e w'=>e=.returned ↑J/\Below W' W' w'):=fun W' hb=>HJ.out W' (hB1.trans (hb.mono hB1.size));have g1:∀ (d:Nat) (os:Array Obj),(grow (ZI w1 d) os).cell? ⟨w,1,none⟩=some (.slice aw N cw):=Ag c1;have hk:n.script=1\/n.script=2\/n.script=3\/n.script=4:=oM;clear HJ hblk;rcases hk with hk|hk|hk|hk
 ·rw [hk] at c0 hres';have g0:∀ (d:Nat) (os:Array Obj),(grow (ZI w1 d) os).cell? ⟨w,0,none⟩=_:=Ag c0;clear hsc hk c0 c1;dsimp only [Hm] at cT;have hix:∀ w,(Instr.index 215 (.agg #[.string ⟨#[]⟩,.string ⟨#[112,108,97,105,110]⟩,.string ⟨#[99,97,115,101,100]⟩,.string ⟨#[97,98,106,97,100]⟩,.string ⟨#[115,121,108,108,97,98]⟩]) (.int .i64 1)).run prog w=.ok (.string ⟨#[112,108,97,105,110]⟩) w:=fun w=>by simp [Instr.index,Ej underlying215,go_sem]
  have zB:((⟨#[112,108,97,105,110]⟩:ByteArray)++⟨#[58]⟩)=⟨#[112,108,97,105,110,58]⟩:=rfl;exact FD128
 ·rw [hk] at c0 hres';have g0:∀ (d:Nat) (os:Array Obj),(grow (ZI w1 d) os).cell? ⟨w,0,none⟩=_:=Ag c0;clear hsc hk c0 c1;dsimp only [Hm] at cT;have hix:∀ w,(Instr.index 215 (.agg #[.string ⟨#[]⟩,.string ⟨#[112,108,97,105,110]⟩,.string ⟨#[99,97,115,101,100]⟩,.string ⟨#[97,98,106,97,100]⟩,.string ⟨#[115,121,108,108,97,98]⟩]) (.int .i64 2)).run prog w=.ok (.string ⟨#[99,97,115,101,100]⟩) w:=fun w=>by simp [Instr.index,Ej underlying215,go_sem]
  have zB:((⟨#[99,97,115,101,100]⟩:ByteArray)++⟨#[58]⟩)=⟨#[99,97,115,101,100,58]⟩:=rfl;exact FD128
 ·rw [hk] at c0 hres';have g0:∀ (d:Nat) (os:Array Obj),(grow (ZI w1 d) os).cell? ⟨w,0,none⟩=_:=Ag c0;clear hsc hk c0 c1;dsimp only [Hm] at cT;have hix:∀ w,(Instr.index 215 (.agg #[.string ⟨#[]⟩,.string ⟨#[112,108,97,105,110]⟩,.string ⟨#[99,97,115,101,100]⟩,.string ⟨#[97,98,106,97,100]⟩,.string ⟨#[115,121,108,108,97,98]⟩]) (.int .i64 3)).run prog w=.ok (.string ⟨#[97,98,106,97,100]⟩) w:=fun w=>by simp [Instr.index,Ej underlying215,go_sem]
  have zB:((⟨#[97,98,106,97,100]⟩:ByteArray)++⟨#[58]⟩)=⟨#[97,98,106,97,100,58]⟩:=rfl;exact FD128
 ·rw [hk] at c0 hres';have g0:∀ (d:Nat) (os:Array Obj),(grow (ZI w1 d) os).cell? ⟨w,0,none⟩=_:=Ag c0;clear hsc hk c0 c1;dsimp only [Hm] at cT;have hix:∀ w,(Instr.index 215 (.agg #[.string ⟨#[]⟩,.string ⟨#[112,108,97,105,110]⟩,.string ⟨#[99,97,115,101,100]⟩,.string ⟨#[97,98,106,97,100]⟩,.string ⟨#[115,121,108,108,97,98]⟩]) (.int .i64 4)).run prog w=.ok (.string ⟨#[115,121,108,108,97,98]⟩) w:=fun w=>by simp [Instr.index,Ej underlying215,go_sem]
  have zB:((⟨#[115,121,108,108,97,98]⟩:ByteArray)++⟨#[58]⟩)=⟨#[115,121,108,108,97,98,58]⟩:=rfl;have l4:¬ (9223372036854775807<7+List.length J):=oM;exact FD17
def C6 (B:Nat) (w:ZB) (v:ZC) (ns:List Q05):Prop := ∃ a cap,v=.slice a ns.length cap/\ns.length<=cap/\cap<=9223372036854775807 /\ (ns≠[]->∃ b off,a=some ⟨b,off,none⟩/\b<B/\∀ j n,ns[j]?=some n->∃ vw,w.cell? ⟨b,off+j*2,none⟩=some ↑n.script/\w.cell? ⟨b,off+j*2+1,none⟩=some vw/\Strs B w vw n.words)
theorem C6.below {B':Nat} {w':ZB} {v:ZC} (h:C6 B w v ns) (hb:Below B' w w') (hB:B<=B'):C6 B w' v ns:=by obtain⟨a,cap,h1,h2,h3,h4⟩:=h;refine⟨a,cap,h1,h2,h3,fun hne=>?_⟩;obtain⟨b,off,e,hlt,hc⟩:=h4 hne;refine⟨b,off,e,hlt,fun j n hj=>?_⟩;obtain⟨vw,c1,c2,c3⟩:=hc j n hj;exact⟨vw,(hb.cell (p:=⟨b,off+j*2,none⟩) (Ae hlt hB)).trans c1,(hb.cell (p:=⟨b,off+j*2+1,none⟩) (Ae hlt hB)).trans c2,c3.below hb hB⟩
theorem C6.mono {B':Nat} {v:ZC} (h:C6 B w v ns) (hB:B<=B'):C6 B' w v ns:=by obtain⟨a,cap,h1,h2,h3,h4⟩:=h;refine⟨a,cap,h1,h2,h3,fun hne=>?_⟩;obtain⟨b,off,e,hlt,hc⟩:=h4 hne;refine⟨b,off,e,Ae hlt hB,fun j n hj=>?_⟩;obtain⟨vw,c1,c2,c3⟩:=hc j n hj;exact⟨vw,c1,c2,c3.mono hB⟩
theorem Ze (vw:ZC) (n:Q05) (w:ZB) (hG:Gc w) (hn:Strs w w vw n.words) (hS:Fx n.words) : ZE prog 235 #[.agg #[↑n.script,vw]] w (Ret w (.bool (!bP n))):=by have hB0:=fun o=>(Ac _ w).alloc nR o;have A:=Aa fun o=>O4 [aJ n.script,vw] n (w.alloc o) (hG.below (hB0 o)) ⟨vw,rfl,(hn.below (hB0 o) nR).mono (hB0 o).size⟩ hS;obtain⟨aw,cw,rfl,_,_⟩:=hn.form;generalize n.words.length=N at *;go_enter func235,ntmps235;go_wp2_with fail;refine CmZ (A.out _) fun w1 hb1=>?_;clear A;go_wp2;go_ret;exact FD106
theorem Yj (v:ZC) (ns:List Q05) (w:ZB) (hG:Gc w) (hv:C6 w w v ns) (hl:ns.length<=100000) (hS:∀ n∈ns,Fx n.words) : ZE prog 291 #[v,.func (.func 235) #[] #[]] w (fun e w'=>∃ i:Int,e=.returned ↑i/\ZH (0<=i)=(ns.any fun n=>!bP n)/\Below w w w'):=by
 obtain⟨a,cap,rfl,hc1,hc2,hcell⟩:=hv;generalize hN:ns.length=N at *;have HF:=Aa hcell;clear hcell;go_enter func291,ntmps291;go_wp2_with fail;go_loopw [8] (fun iv wr=>∃ k:Nat,k<=N/\iv=↑k/\Hid (((ns.take k).any fun n=>!bP n)=false)/\Below w w wr) (fun iv _=>N - (ZG iv).toNat);case atStart=>exact⟨0,Az _,rfl,Aa rfl,Ac _ _⟩
 case round =>
  obtain⟨k,hk,rfl,hu,hb⟩:=hrel;by_cases hlt:k<N
  ·obtain⟨x,hx⟩:∃ x,ns[k]?=some x:=⟨_,Ad oM⟩
   obtain⟨b,off,rfl,hblt,hcs⟩:=HF.out (fun e=>by rw [e] at hN;simp at hN;omega);obtain⟨vw,c1,c2,c3⟩:=hcs k x hx;have d1:=(hb.cell (p:=⟨b,off+k*2,none⟩) hblt).trans c1;have d2:=(hb.cell (p:=⟨b,off+k*2+1,none⟩) hblt).trans c2;have A:=Ze vw x wr (hG.below hb) ((c3.below hb nR).mono hb.size) (hS x (Ap hx));have hts:ns.take (k+1)=ns.take k++[x]:=by rw [D7,hx];rfl
   have hno:Hid (((ns.take (k+1)).any fun n=>!bP n)=!bP x):=Aa (by rw [hts,List.any_append,hu.out];simp);have hmem:Hid (x∈ns):=Aa (Ap hx);obtain⟨aw,cw,rfl,_,_⟩:=c3.form;generalize x.words.length=xn at *;clear hts hcs hx c1 c2 c3;cases hin:bP x with
   |true =>
    rw [hin] at A;have A:=Aa A;have HR:Hid (((ns.take (k+1)).any fun n=>!bP n)=false):=Aa (by rw [hno.out,hin];rfl);go_wp2_with fail;refine CmZ A.out fun w1 hb1=>?_;clear A;go_wp2;go_roundw;case rel=>exact⟨k+1,oM,by go_num,HR,hb.trans (hb1.mono hb.size)⟩
    case measure=>simp [ZG];omega
   |false =>rw [hin] at A;have A:=Aa A;have HR:Hid ((ns.any fun n=>!bP n)=true):=Aa (by rw [Jc];exact⟨x,hmem.out,by rw [hin];rfl⟩);go_wp2_with fail;refine CmZ A.out fun w1 hb1=>?_;clear A;go_wp2;go_ret;exact⟨_,rfl,by rw [HR.out];simp,hb.trans (hb1.mono hb.size)⟩
  ·have e:N=k:=oM;subst e;have HR:Hid ((ns.any fun n=>!bP n)=false):=Aa (by rw [<- hu.out,<- hN,Dn]);go_wp2;go_ret;exact⟨_,rfl,by rw [HR.out];decide,hb⟩
theorem Sz (v:ZC) (ns:List Q05) (w:ZB) (hG:Gc w) (hv:C6 w w v ns) (hl:ns.length<=100000) (hS:∀ n∈ns,Fx n.words) : ZE prog 236 #[v,.func (.func 235) #[] #[]] w (Ret w (.bool (ns.any fun n=>!bP n))):=by
 have A:=Aa (Yj v ns w hG hv hl hS);obtain⟨r,hr⟩:∃ r,Hid ((ns.any fun n=>!bP n)=r):=⟨_,Aa rfl⟩
 rw [hr.out] at A ⊢;obtain⟨a,cap,rfl,_,_,_⟩:=hv;generalize ns.length=N at *;go_enter func236,ntmps236;go_wp2_with fail;refine A.out.mono ?_;rintro e w1 ⟨i,rfl,hi,hb1⟩;clear A;subst hi;exact FD39
theorem C6.form {v:ZC} (h:C6 B w v ns):∃ a cap,v=.slice a ns.length cap/\ns.length<=cap/\cap<=9223372036854775807:=by exact FD142
structure pV (e:CH.Entry):Prop where
 id:e.id.length<=10000
 len:e.names.length<=100000
 names:∀ n∈e.names,Fx n.words
theorem Vx (vn:ZC) (e:CH.Entry) (w:ZB) (hG:Gc w) (hv:C6 w w vn e.names) (hS:pV e) : ZE prog 160 #[.agg #[↑e.id,vn]] w (Ret w (.bool (dN e))):=by
 obtain⟨r,hr⟩:∃ r,Hid (dN e=r):=⟨_,Aa rfl⟩
 rw [hr.out];have hB0:=fun o=>(Ac _ w).alloc nR o;have I:=fun w'=>O5 e.id w' (Af hS.id dC);have C:=Aa fun (w':ZB) (hb:Below w w w')=>Sz vn e.names w' (hG.below hb) ((hv.below hb nR).mono hb.size) hS.len hS.names;obtain⟨an,cn,rfl,_,_⟩:=hv.form;have hW:=fun o=>Aw w o;generalize hN:e.names.length=N at *;clear hv;cases hi:CH.ident e.id with
 |false =>
  rw [hi] at I;have I:=Aa I;have hr1:r=false:=by rw [<- hr.out];unfold dN;rw [hi];rfl
  subst hr1;go_enter func160,ntmps160;go_wp2_with fail;refine CmZ (I.out _) fun w1 hb1=>?_;clear I;go_wp2;go_ret;exact FD106
 |true =>
  rw [hi] at I;have I:=Aa I;have hr2:Hid (r=(ZH (0<N)&&(ZH (N<=8)&&!(e.names.any fun n=>!bP n)))):=Aa (by rw [<- hr.out];unfold dN;rw [hi,hN];rfl);go_enter func160,ntmps160;go_wp2_with fail;refine (I.out _).mono ?_;rintro e' w1 ⟨rfl,hb1⟩;have hB1:Below w w w1:=(hB0 _).trans (hb1.mono sM);have hblk:=(hb1.block w sM).trans (hW _);have c1:w1.cell? ⟨w,1,none⟩=some (.slice an N cn):=Ab hblk 1;clear I hb1 hblk hW hB0 hr;by_cases h0:0<N
  ·have d0:ZH ((0:Int)<(N:Int))=true:=by simp;omega
   by_cases h8:N<=8
   ·have d8:ZH ((N:Int)<=8)=true:=by simp;omega
    have hr3:r=!(e.names.any fun n=>!bP n):=by rw [hr2.out,Am h0,Am h8];rfl
    clear hr2;subst hr3;go_wp2_with fail;refine (C.out w1 hB1).mono ?_;rintro e' w2 ⟨rfl,hb2⟩;clear C;go_wp2;go_ret;exact FD81
   ·have d8:ZH ((N:Int)<=8)=false:=by simp;omega
    have hr3:r=false:=by rw [hr2.out,Ak h8];simp
    clear hr2 C;subst hr3;exact FD25
  ·have d0:ZH ((0:Int)<(N:Int))=false:=by simp;omega
   have hr3:r=false:=by rw [hr2.out,Ak h0];rfl
   clear hr2 C;subst hr3;exact FD25
theorem Bln (w:ZB):ZE prog 98 #[] w (fun e w'=>e=.returned (.slice (some ⟨w,0,none⟩) 5 5)/\w'=w.alloc (.cells #[.string ⟨#[]⟩,.string ⟨([97,100,100]:Q00).toArray⟩,.string ⟨([114,101,109,111,118,101]:Q00).toArray⟩,.string ⟨([99,111,114,114,101,99,116]:Q00).toArray⟩,.string ⟨([118,111,105,100]:Q00).toArray⟩] 9)):=by go_enter func98,ntmps98;exact FD35
structure iT (c:CH.Change):Prop where
 id:c.id.length<=10000
 entry:pV c.entry
def A5 (c:CH.Change) (vn:ZC):List ZC:=[↑c.kind,↑c.id,↑c.entry.id,vn,↑c.pos]
theorem I23 (vn:ZC) (c:CH.Change) (w:ZB) (hG:Gc w) (hv:C6 w w vn c.entry.names) (hS:iT c) : ZE prog 97 #[.agg (A5 c vn).toArray] w (Ret w (.bool (dn c))):=by
 obtain⟨r,hr⟩:∃ r,dn c=r:=⟨_,rfl⟩
 rw [hr];have hB0:=fun o=>(Ac _ w).alloc nR o;have I:=fun w'=>O5 c.id w' (Af hS.id dC);have E:=fun (w':ZB) (hb:Below w w w')=>Vx vn c.entry w' (hG.below hb) ((hv.below hb nR).mono hb.size) hS.entry;have T:=fun (w':ZB) (hb:Below w w w')=>Vs c.pos w' (hG.gl.below hb);obtain⟨an,cn,rfl,_,_⟩:=hv.form;have hW:=fun o=>Aw w o;obtain⟨kd,cid,en,ps⟩:=c;dsimp only at *;have hbe:=G4 en.id;have hne:=Cr en.id cid;generalize hN:en.names.length=N at *;clear hv hS;dsimp only [A5];obtain⟨bi,hbi⟩:∃ b,CH.ident cid=b:=⟨_,rfl⟩
 obtain⟨be,hbp⟩:∃ b,dN en=b:=⟨_,rfl⟩
 obtain⟨bt,hbt⟩:∃ b,aW ps=b:=⟨_,rfl⟩
 rw [hbi] at I;rw [hbp] at E;rw [hbt] at T;replace I:=Aa I;replace E:=Aa E;replace T:=Aa T;unfold dn at hr;dsimp only at hr;rw [hbi,hbp,hbt,hN] at hr;clear hbi hbp hbt;by_cases h1:kd=1\/kd=3
 ·rcases h1 with rfl|rfl
  ·cases bi with
   |false =>
    have hr1:r=false:=by rw [<- hr];simp
    clear hr;subst hr1;go_enter func97,ntmps97;go_wp2_with fail;refine CmZ (I.out _) fun w1 hb1=>?_;have hB1:Below w w w1:=(hB0 _).trans (hb1.mono sM);have hblk:=(hb1.block w sM).trans (hW _);have hlt1:w.heap.size<w1.heap.size:=(aZ hblk)
    clear I hb1 hW hB0;have k0:w1.cell? ⟨w,0,none⟩=some (.int .i64 1):=Ab hblk 0;exact FD8
   |true =>
    go_enter func97,ntmps97;go_wp2_with fail;refine CmZ (I.out _) fun w1 hb1=>?_;have hB1:Below w w w1:=(hB0 _).trans (hb1.mono sM);have hblk:=(hb1.block w sM).trans (hW _);have hlt1:w.heap.size<w1.heap.size:=(aZ hblk)
    clear I hb1 hW hB0;have k0:w1.cell? ⟨w,0,none⟩=some (.int .i64 1):=Ab hblk 0;have k1:w1.cell? ⟨w,1,none⟩=some ↑cid:=Ab hblk 1;have k2:w1.cell? ⟨w,2,none⟩=some ↑en.id:=Ab hblk 2;have k3:w1.cell? ⟨w,3,none⟩=some (.slice an N cn):=Ab hblk 3;have k4:w1.cell? ⟨w,4,none⟩=some ↑ps:=Ab hblk 4;cases hx:(en.id==cid) with
    |false =>exact FD93
    |true =>
     rw [hx] at hne;rw [show (en.id != cid)=false from by rw [bne,hx];rfl] at hr;go_wp2_with fail;refine CmZ (E.out w1 hB1) fun w2 hb2=>?_;clear E;have hB2:Below w w w2:=hB1.trans (hb2.mono hB1.size);have hblk2:=(hb2.block w hlt1).trans hblk;clear hb2 k0 k1 k2 k3 k4;have k0:w2.cell? ⟨w,0,none⟩=some (.int .i64 1):=Ab hblk2 0;have k1:w2.cell? ⟨w,1,none⟩=some ↑cid:=Ab hblk2 1;have k2:w2.cell? ⟨w,2,none⟩=some ↑en.id:=Ab hblk2 2;have k3:w2.cell? ⟨w,3,none⟩=some (.slice an N cn):=Ab hblk2 3;have k4:w2.cell? ⟨w,4,none⟩=some ↑ps:=Ab hblk2 4;cases be with
     |false =>
      have hr1:r=false:=by rw [<- hr];simp
      clear hr;subst hr1;clear T;exact FD123
     |true =>
      have hr1:r=bt:=by rw [<- hr];simp
      clear hr;subst hr1;go_wp2_with fail;refine CmZ (T.out w2 hB2) fun w9 hb9=>?_;clear T;cases r with
      |true =>go_wp2;go_ret;exact⟨rfl,hB2.trans (hb9.mono hB2.size)⟩
      |false =>go_wp2;go_ret;exact⟨rfl,hB2.trans (hb9.mono hB2.size)⟩
  ·cases bi with
   |false =>
    have hr1:r=false:=by rw [<- hr];simp
    clear hr;subst hr1;go_enter func97,ntmps97;go_wp2_with fail;refine CmZ (I.out _) fun w1 hb1=>?_;have hB1:Below w w w1:=(hB0 _).trans (hb1.mono sM);have hblk:=(hb1.block w sM).trans (hW _);have hlt1:w.heap.size<w1.heap.size:=(aZ hblk)
    clear I hb1 hW hB0;have k0:w1.cell? ⟨w,0,none⟩=some (.int .i64 3):=Ab hblk 0;exact FD8
   |true =>
    go_enter func97,ntmps97;go_wp2_with fail;refine CmZ (I.out _) fun w1 hb1=>?_;have hB1:Below w w w1:=(hB0 _).trans (hb1.mono sM);have hblk:=(hb1.block w sM).trans (hW _);have hlt1:w.heap.size<w1.heap.size:=(aZ hblk)
    clear I hb1 hW hB0;have k0:w1.cell? ⟨w,0,none⟩=some (.int .i64 3):=Ab hblk 0;have k1:w1.cell? ⟨w,1,none⟩=some ↑cid:=Ab hblk 1;have k2:w1.cell? ⟨w,2,none⟩=some ↑en.id:=Ab hblk 2;have k3:w1.cell? ⟨w,3,none⟩=some (.slice an N cn):=Ab hblk 3;have k4:w1.cell? ⟨w,4,none⟩=some ↑ps:=Ab hblk 4;cases hx:(en.id==cid) with
    |false =>exact FD93
    |true =>
     rw [hx] at hne;rw [show (en.id != cid)=false from by rw [bne,hx];rfl] at hr;go_wp2_with fail;refine CmZ (E.out w1 hB1) fun w2 hb2=>?_;clear E;have hB2:Below w w w2:=hB1.trans (hb2.mono hB1.size);have hblk2:=(hb2.block w hlt1).trans hblk;clear hb2 k0 k1 k2 k3 k4;have k0:w2.cell? ⟨w,0,none⟩=some (.int .i64 3):=Ab hblk2 0;have k1:w2.cell? ⟨w,1,none⟩=some ↑cid:=Ab hblk2 1;have k2:w2.cell? ⟨w,2,none⟩=some ↑en.id:=Ab hblk2 2;have k3:w2.cell? ⟨w,3,none⟩=some (.slice an N cn):=Ab hblk2 3;have k4:w2.cell? ⟨w,4,none⟩=some ↑ps:=Ab hblk2 4;cases be with
     |false =>
      have hr1:r=false:=by rw [<- hr];simp
      clear hr;subst hr1;clear T;exact FD123
     |true =>
      have hr1:r=(ps==0):=by rw [<- hr];simp
      clear hr T;subst hr1;exact FD123
 by_cases h2:kd=2\/kd=4
 ·rcases h2 with rfl|rfl
  ·cases bi with
   |false =>
    have hr1:r=false:=by rw [<- hr];simp
    clear hr;subst hr1;go_enter func97,ntmps97;go_wp2_with fail;refine CmZ (I.out _) fun w1 hb1=>?_;have hB1:Below w w w1:=(hB0 _).trans (hb1.mono sM);have hblk:=(hb1.block w sM).trans (hW _);have hlt1:w.heap.size<w1.heap.size:=(aZ hblk)
    clear I hb1 hW hB0;have k0:w1.cell? ⟨w,0,none⟩=some (.int .i64 2):=Ab hblk 0;exact FD8
   |true =>
    go_enter func97,ntmps97;go_wp2_with fail;refine CmZ (I.out _) fun w1 hb1=>?_;have hB1:Below w w w1:=(hB0 _).trans (hb1.mono sM);have hblk:=(hb1.block w sM).trans (hW _);have hlt1:w.heap.size<w1.heap.size:=(aZ hblk)
    clear I hb1 hW hB0;have k0:w1.cell? ⟨w,0,none⟩=some (.int .i64 2):=Ab hblk 0;have k1:w1.cell? ⟨w,1,none⟩=some ↑cid:=Ab hblk 1;have k2:w1.cell? ⟨w,2,none⟩=some ↑en.id:=Ab hblk 2;have k3:w1.cell? ⟨w,3,none⟩=some (.slice an N cn):=Ab hblk 3;have k4:w1.cell? ⟨w,4,none⟩=some ↑ps:=Ab hblk 4;clear E;cases hx:(en.id != []) with
    |true =>rw [hx] at hr hbe;replace hbe:List.isEmpty en.id=false:=hbe;exact FD67
    |false =>
     rw [hx] at hr hbe;replace hbe:List.isEmpty en.id=true:=hbe;by_cases h0:0<N
     ·have d0:ZH ((0:Int)<(N:Int))=true:=by simp;omega
      rw [Am h0] at hr;exact FD67
     ·have d0:ZH ((0:Int)<(N:Int))=false:=by simp;omega
      rw [Ak h0] at hr;have hr1:r=bt:=by rw [<- hr];simp
      clear hr;subst hr1;go_wp2_with fail;refine CmZ (T.out w1 hB1) fun w9 hb9=>?_;clear T;cases r with
      |true =>go_wp2;go_ret;exact⟨rfl,hB1.trans (hb9.mono hB1.size)⟩
      |false =>go_wp2;go_ret;exact⟨rfl,hB1.trans (hb9.mono hB1.size)⟩
  ·cases bi with
   |false =>
    have hr1:r=false:=by rw [<- hr];simp
    clear hr;subst hr1;go_enter func97,ntmps97;go_wp2_with fail;refine CmZ (I.out _) fun w1 hb1=>?_;have hB1:Below w w w1:=(hB0 _).trans (hb1.mono sM);have hblk:=(hb1.block w sM).trans (hW _);have hlt1:w.heap.size<w1.heap.size:=(aZ hblk)
    clear I hb1 hW hB0;have k0:w1.cell? ⟨w,0,none⟩=some (.int .i64 4):=Ab hblk 0;exact FD8
   |true =>
    go_enter func97,ntmps97;go_wp2_with fail;refine CmZ (I.out _) fun w1 hb1=>?_;have hB1:Below w w w1:=(hB0 _).trans (hb1.mono sM);have hblk:=(hb1.block w sM).trans (hW _);have hlt1:w.heap.size<w1.heap.size:=(aZ hblk)
    clear I hb1 hW hB0;have k0:w1.cell? ⟨w,0,none⟩=some (.int .i64 4):=Ab hblk 0;have k1:w1.cell? ⟨w,1,none⟩=some ↑cid:=Ab hblk 1;have k2:w1.cell? ⟨w,2,none⟩=some ↑en.id:=Ab hblk 2;have k3:w1.cell? ⟨w,3,none⟩=some (.slice an N cn):=Ab hblk 3;have k4:w1.cell? ⟨w,4,none⟩=some ↑ps:=Ab hblk 4;clear E;cases hx:(en.id != []) with
    |true =>rw [hx] at hr hbe;replace hbe:List.isEmpty en.id=false:=hbe;exact FD67
    |false =>
     rw [hx] at hr hbe;replace hbe:List.isEmpty en.id=true:=hbe;by_cases h0:0<N
     ·have d0:ZH ((0:Int)<(N:Int))=true:=by simp;omega
      rw [Am h0] at hr;exact FD67
     ·have d0:ZH ((0:Int)<(N:Int))=false:=by simp;omega
      rw [Ak h0] at hr;have hr1:r=(ps==0):=by rw [<- hr];simp
      clear hr T;subst hr1;exact FD25
 have z1:(kd==1)=false:=by simp;omega
 have z2:(kd==2)=false:=by simp;omega
 have z3:(kd==3)=false:=by simp;omega
 have hr1:r=false:=by
  rw [<- hr];rw [Au];by_cases hlt:kd<1;·simp [hlt]
  ·have:kd > 4:=oM;simp [this]
 clear hr;subst hr1;by_cases hlt:kd<1
 ·have d1:ZH (kd<1)=true:=by simpa using hlt
  cases bi with
  |false =>exact FD14
  |true =>exact FD14
 ·have d1:ZH (kd<1)=false:=by simpa using hlt
  have d4:ZH (4<kd)=true:=by simp;omega
  cases bi with
  |false =>exact FD14
  |true =>exact FD14
def Cs (base p:Nat) (w:ZB) (ls:List Q00):Prop:=∃ v,w.heap[p]?=some (.cells #[v] 22 (0,0))/\At base w v ls/\v.ownBlock≠some p/\base<=p
def Joe (base p:Nat) (w:ZB) (ls:List Q00) (e:Ending) (w':ZB):Prop:=e=.returned (.tuple #[])/\Cs base p w' ls/\Below base w w'/\w.heap.size<=w'.heap.size
theorem Cs.below {base p:Nat} {w':ZB} (h:Cs base p w ls) (hb:Below w w w'):Cs base p w' ls:=by obtain⟨v,h1,h2,h3,h4⟩:=h;exact⟨v,(hb.block p (aZ h1)).trans h1,h2.below hb,h3,h4⟩
theorem Wn {base p:Nat} (h:Cs base p w ls):p<w.heap.size:=by obtain⟨v,h1,_⟩:=h;exact (aZ h1)
theorem Kd (vx:ZC) (lx ls:List Q00) (base p B:Nat) (w:ZB) (hW:Cs base p w ls) (hX:Strs B w vx lx) (hl:ls.length+lx.length<=1000000) : ZE prog 99 #[vx,.pointer (some ⟨p,0,none⟩)] w (Joe base p w (ls++lx)):=by have hpl:=Wn hW;obtain⟨v,hv,hO,hne,hbp⟩:=hW;obtain⟨av,cv,rfl,hf1,hf2,_⟩:=hO.form;have hblk:=Pt hO;have c0:w.cell? ⟨p,0,none⟩=some (.slice av ls.length cv):=Ab hv 0;obtain⟨ax,cx,rfl,_,_⟩:=hX.form;generalize hN:ls.length=N at *;generalize hM:lx.length=M at *;go_enter func99,ntmps99;exact FD19
theorem I10 (h:dn c=true):c.kind=1\/c.kind=2\/c.kind=3\/c.kind=4:=by
 apply Gp;intro hn;have hlt:c.kind<1\/c.kind > 4:=oM;unfold dn at h;dsimp only at h;rw [Au] at h;·cases h
 ·rcases hlt with hlt|hlt;·simp [hlt]
  ·simp [hlt]
theorem Mo (h:dn c=true):∀ n∈c.entry.names,bP n=true:=by
 intro n hn;have hlen:0<c.entry.names.length:=Ll hn;have hok:dN c.entry=true:=by
  apply Gp;intro hne;have hne':dN c.entry=false:=by simpa using hne
  unfold dn at h;dsimp only at h;rw [hne',Am hlen] at h;cases he:(c.kind==1||c.kind==3) <;> rw [he] at h <;> simp at h
 unfold dN at hok;simp only [Ba,F9,I8] at hok;have:=hok.2.2.2 n hn;exact FD159
theorem Tq (w:ZB) (o1 o2 o3:Obj) (i j:Nat) (hij:i≠j/\i<3/\j<3) (a b:Q00) (hbox:[o1,o2,o3][i]?=some (.cells #[.slice (some ⟨w.heap.size+j,0,none⟩) 2 2] 22)) (hrow:[o1,o2,o3][j]?=some (.cells #[↑a,↑b] 9)) : Cs w (w.heap.size+i) (((w.alloc o1).alloc o2).alloc o3).drew [a,b]/\Below w w (((w.alloc o1).alloc o2).alloc o3).drew:=by
 have hb:Below w w (((w.alloc o1).alloc o2).alloc o3).drew:=((((Ac _ w).alloc nR _).alloc sM _).alloc (by simp;omega) _).drew;have hat:∀ k,k<3->(((w.alloc o1).alloc o2).alloc o3).drew.heap[w.heap.size+k]?=[o1,o2,o3][k]?:=fun k hk=>by
  have e:(((w.alloc o1).alloc o2).alloc o3).drew.heap=((w.heap.push o1).push o2).push o3:=by simp only [World.alloc,World.drew]
  rw [e];simp only [Dk,Ef];rcases (oM:k=0\/k=1\/k=2) with rfl|rfl|rfl;·rw [Ai oM,Ai oM,Au oM];rfl
  ·rw [Ai oM,Au oM];rfl
  ·rw [Au oM];rfl
 refine⟨⟨_,(hat i hij.2.1).trans hbox,⟨rfl,.inr ⟨w.heap.size+j,2,#[↑a,↑b],rfl,Nat.le_add_right _ _,(hat j hij.2.2).trans hrow,Bg _,by unfold maxLen;omega,rfl,rfl⟩⟩,?_,Nat.le_add_right _ _⟩,hb⟩;intro e;simp [Value.ownBlock] at e;omega
theorem Cs.alloc {base p:Nat} (h:Cs base p w ls) (o:Obj):Cs base p (w.alloc o) ls:=h.below ((Ac _ w).alloc nR o)
theorem Gd (h:dn c=true):c.entry.names.length<=8:=by
 by_cases hl:0<c.entry.names.length
 ·have hok:dN c.entry=true:=by
   apply Gp;intro hne;have hne':dN c.entry=false:=by simpa using hne
   unfold dn at h;dsimp only at h;rw [hne',Am hl] at h;cases he:(c.kind==1||c.kind==3) <;> rw [he] at h <;> simp at h
  unfold dN at hok;simp only [Ba,Bq] at hok;exact hok.2.2.1
 ·omega
theorem Ro (k:Int):(CH.kindWord k).length<=7:=by unfold CH.kindWord;exact FD154
def B7 (n:Q05):Q00:=[34]++aV n++[34]
theorem Lt (n:Q05) (hS:Fx n.words):(aV n).length<=1000000000010:=by have h1:=Kj [32] 10000 n.words hS.2;have h2:=hS.1;have h3:n.words.length*(10000+1)<=100000*(10000+1):=Dh _ h2;exact FD101
def dU (n:Nat) (ls:List Q00):Prop:=∀ l∈ls,l.length<=n
theorem dU.one {n:Nat} {a:Q00} (h:a.length<=n):dU n [a]:=fun l hl=>by cases Ce.1 hl;exact h
theorem dU.cons {n:Nat} {a:Q00} (h:a.length<=n) (h2:dU n ls):dU n (a::ls):=fun l hl=>by
 rcases Bl.1 hl with rfl|hl;·exact h
 ·exact h2 l hl
theorem Ly (c:CH.Change) (hok:dn c=true) (hS:∀ n∈c.entry.names,Fx n.words) (pre:List Q00) (hpl:pre.length<=3) (hpre:dU 1000000000100 pre):(CH.join [32] (pre++c.entry.names.map B7)).length<=140737488355300:=by
 have h1:=Kj [32] 1000000000100 (pre++c.entry.names.map B7) (fun l hl=>by
  rcases Dp.1 hl with h|h;·exact hpre l h
  ·obtain⟨n,hn,rfl⟩:=Dz.1 h;have:=Lt n (hS n hn);unfold B7;simp;omega)
 have h2:=Gd hok;have h3:(pre++c.entry.names.map B7).length*(1000000000100+[(32:UInt8)].length)<=11*(1000000000100+1):=Dh _ (by rw [Ah,Bh];omega);omega
def Cmp (s:Q00):Q00:=if s=[] then [45] else s
theorem Ins (s:Q00) (w:ZB) (b:Nat) (h0:w.cell? ⟨b,0,none⟩=some (aA s)) (h1:w.cell? ⟨b,1,none⟩=some (aA [45])) : ZE prog 110 #[.slice (some ⟨b,0,none⟩) 2 2] w (Ret w (aA (Cmp s))):=by
 unfold Cmp;by_cases hs:s=[]
 ·subst hs;rw [Au rfl];go_enter func110,ntmps110;go_wp2_with fail;go_loopw [8] (fun iv wr=>∃ j:Nat,j<2/\iv=↑j/\wr=w) (fun iv _=>2 - (ZG iv).toNat);case atStart=>exact⟨0,oM,rfl,rfl⟩
  case round =>
   obtain⟨j,hj,rfl,rfl⟩:=hrel;rcases (oM:j=0\/j=1) with rfl|rfl
   ·go_wp2;go_roundw;case rel=>exact⟨1,oM,by first|rfl|go_num,by first|rfl|trivial⟩
    case measure=>simp [ZG]
   ·exact FD30
 ·rw [Ai hs];have te:List.isEmpty s=false:=by cases s with|nil=>exact absurd rfl hs|cons _ _=>rfl
  go_enter func110,ntmps110;go_wp2_with fail;go_loopw [8] (fun iv wr=>iv=.int .i64 0/\wr=w) (fun _ _=>0);case atStart=>exact⟨rfl,rfl⟩
  case round =>obtain⟨rfl,rfl⟩:=hrel;exact FD30
theorem CO (n:Int) (w:ZB):(Instr.typeAssert (.iface 3 ↑n) 20 3 true).run prog w=.ok (.tuple #[↑n,.bool true]) w:=kR
theorem BU (s:ByteArray) (w:ZB):(Instr.typeAssert (.iface 9 (.string s)) 20 3 true).run prog w=.ok (.tuple #[.int .i64 0,.bool false]) w:=kR
theorem BR (s:ByteArray) (w:ZB):(Instr.typeAssert (.iface 9 (.string s)) 20 9 true).run prog w=.ok (.tuple #[.string s,.bool true]) w:=kR
theorem CJ (a:Option Addr) (n c:Nat) (w:ZB):(Instr.typeAssert (.iface 22 (.slice a n c)) 20 3 true).run prog w=.ok (.tuple #[.int .i64 0,.bool false]) w:=kR
theorem BZ (a:Option Addr) (n c:Nat) (w:ZB):(Instr.typeAssert (.iface 22 (.slice a n c)) 20 9 true).run prog w=.ok (.tuple #[.string ⟨#[]⟩,.bool false]) w:=kR
theorem CG (a:Option Addr) (n c:Nat) (w:ZB):(Instr.typeAssert (.iface 22 (.slice a n c)) 20 22 true).run prog w=.ok (.tuple #[.slice a n c,.bool true]) w:=kR
def Mz (B:Nat) (w:ZB):CH.Word->ZC->Prop
 |.int n,v=>v=.iface 3 ↑n/\-9223372036854775808<=n/\n<=9223372036854775807
 |.str s,v=>v=.iface 9 (aA s)
 |.strs l,v=>∃ sv,v=.iface 22 sv/\Strs B w sv l/\l.length<=5000
theorem Mz.below {B':Nat} {w':ZB} {x:CH.Word} {v:ZC} (h:Mz B w x v) (hb:Below B' w w') (hB:B<=B'):Mz B w' x v:=by
 cases x with
 |int n=>exact h
 |str s=>exact h
 |strs l =>obtain⟨sv,h1,h2,h3⟩:=h;exact⟨sv,h1,h2.below hb hB,h3⟩
theorem Hd1 (ws:List CH.Word) (k:Nat) (x:CH.Word) (h:ws[k]?=some x):(ws.take (k+1)).flatMap CH.Word.texts=(ws.take k).flatMap CH.Word.texts++x.texts:=by rw [aI ws k x h,Hg];simp
theorem Ke8 (s:Q00):(CH.Word.str s).texts=[Cmp s]:=rfl
set_option maxRecDepth 5000 in
theorem Jul (ws:List CH.Word) (b:Nat) (w:ZB) (hG:Gl w) (hb:b<w.heap.size) (hrow:∀ j x,ws[j]?=some x->∃ v,w.cell? ⟨b,j,none⟩=some v/\Mz w w x v) (hl:ws.length<=100) (hJ:(CH.words ws).length<=140737488355328) : ZE prog 57 #[.slice (some ⟨b,0,none⟩) ws.length ws.length] w (Ret w (aA (CH.words ws))):=by
 obtain⟨R,hR⟩:∃ R,Hid (CH.words ws=R):=⟨_,Aa rfl⟩
 have hJ:=Aa hJ;rw [hR.out];replace hrow:=Aa hrow;generalize hN:ws.length=N at *;replace hN:=Aa hN;go_enter func57,ntmps57;go_wp2_with fail;go_loopw [3,11] (fun lv iv wr=>∃ k:Nat,k<=N/\iv=↑k/\Hid (At w wr lv ((ws.take k).flatMap CH.Word.texts))/\Hid (((ws.take k).flatMap CH.Word.texts).length<=k*5000)/\Hid (Below w w wr)) (fun _ iv _=>N - (ZG iv).toNat);case atStart=>exact⟨0,Az _,rfl,Aa (At.nil _ _),Aa sM,Aa (Ac _ _)⟩
 case round =>
  obtain⟨k,hk,rfl,hO,hLe,hB⟩:=hrel;obtain⟨a3,c3,rfl,hf1,hf2,hf3⟩:=hO.out.form;clear hf3;by_cases hlt:k<N
  ·obtain⟨x,hx⟩:∃ x,ws[k]?=some x:=⟨_,Ad (by rw [hN.out];omega)⟩
   obtain⟨v,c0,hv⟩:=hrow.out k x hx;have e0:=(hB.out.cell (p:=⟨b,k,none⟩) hb).trans c0;have hv:=hv.below hB.out nR;have hts:=Aa (Hd1 ws k x hx);clear c0 hx;generalize hL:(ws.take k).flatMap CH.Word.texts=L at *;clear hL;have hsz:=hB.out.size;have hLk:L.length<=500000:=by have:=hLe.out;have:k*5000<=100*5000:=Dh _ oM;omega
   cases x with
   |int n =>
    obtain⟨rfl,hn0,hn1⟩:=hv;have T1:=fun W=>CO n W;by_cases hn:n = -1
    ·subst hn;go_wp2_with (at_builtin;refine Cq rfl _ _ rfl w _ L rfl (hO.out.alloc _) wr.heap.size 1 [45] rfl ?c1 ?c2 ?c3 ?_)
     case c1=>rw [Cj _ _ _ _ rfl];rfl
     case c2=>omega
     case c3=>simp;omega
     intro v3 w3 hO3 hg3 _;have hO4:Hid (At w w3 v3 ((ws.take (k+1)).flatMap CH.Word.texts)):=Aa (by rw [hts.out];exact hO3);have hB4:Hid (Below w w w3):=Aa (((hB.out).alloc oM _).grown hg3 (by simp;omega) (fun j hj=>(Dw hO.out j hj).1));have tH:Hid (((ws.take (k+1)).flatMap CH.Word.texts).length<=(k+1)*5000):=Aa (by rw [hts.out,Ah];have h9:=hLe.out;have h8:([[45]]:List Q00).length=1:=rfl;show L.length+([[45]]:List Q00).length<=_;omega);exact FD65
    ·have hne:(n==-1)=false:=by simpa using hn
     have hte:(CH.Word.int n).texts=[Lib.itoa n]:=by show (if n = -1 then _ else _)=_;rw [Ai hn]
     rw [hte] at hts;have I:=Aa (G0 n wr hn0 hn1 (hG.below hB.out));clear hte;go_wp2_with fail;refine CmZ I.out fun w2 hb2=>?_;have hO2:=hO.out.below hb2;have hB2:Below w w w2:=hB.out.trans (hb2.mono hB.out.size);have hs2:=hB2.size;clear I hb2 T1;go_wp2_with (at_builtin;refine Cq rfl _ _ rfl w _ L rfl (hO2.alloc _) w2.heap.size 1 (Lib.itoa n) rfl ?c1 ?c2 ?c3 ?_)
     case c1=>rw [Cj _ _ _ _ rfl];rfl
     case c2=>omega
     case c3=>simp;omega
     intro v3 w3 hO3 hg3 _;exact FD32
   |str s =>
    obtain rfl:=hv;have T1:=fun W=>BU ⟨s.toArray⟩ W;have T2:=fun W=>BR ⟨s.toArray⟩ W;rw [Ke8] at hts;have O:=Aa fun (W:ZB) (bb:Nat) h0 h1=>Ins s W bb h0 h1;generalize Cmp s=ds at *;go_wp2_with fail;refine CmZ (O.out _ _ (by rw [Cj _ _ _ _ rfl];rfl) (by rw [Cj _ _ _ _ rfl];rfl)) fun w2 hb2=>?_;have hO2:=(hO.out.alloc _).below hb2;have hB2:Below w w w2:=(hB.out.alloc hB.out.size _).trans (hb2.mono (by simp;omega));have hs2:=hB2.size;clear O hb2 T1 T2
    ·go_wp2_with (at_builtin;refine Cq rfl _ _ rfl w _ L rfl (hO2.alloc _) w2.heap.size 1 ds rfl ?c1 ?c2 ?c3 ?_)
     case c1=>rw [Cj _ _ _ _ rfl];rfl
     case c2=>omega
     case c3=>simp;omega
     intro v3 w3 hO3 hg3 _;exact FD32
   |strs l =>
    obtain⟨sv,rfl,hsv,hsl⟩:=hv;obtain⟨sa,sc,rfl,_,_⟩:=hsv.form;have T1:=fun W=>CJ sa l.length sc W;have T2:=fun W=>BZ sa l.length sc W;have T3:=fun W=>CG sa l.length sc W;generalize hM:l.length=M at *;have hMM:=Aa hM;clear hM
    ·go_wp2_with (at_builtin;refine K7 rfl _ _ rfl w _ L rfl hO.out w _ l rfl hsv (by have:=hMM.out;omega) hsz ?_)
     intro v3 w3 hO3 hg3 _;have hO4:Hid (At w w3 v3 ((ws.take (k+1)).flatMap CH.Word.texts)):=Aa (by rw [hts.out];exact hO3);have hB4:Hid (Below w w w3):=Aa ((hB.out).grown hg3 hsz (fun j hj=>(Dw hO.out j hj).1));have tH:Hid (((ws.take (k+1)).flatMap CH.Word.texts).length<=(k+1)*5000):=Aa (by rw [hts.out,Ah];have h9:=hLe.out;have h8:=hMM.out;show L.length+l.length<=_;omega);exact FD65
  ·obtain rfl:k=N:=oM;have htk:ws.take k=ws:=by rw [<- hN.out,Dn]
   rw [htk] at hO hLe hf1 ⊢;clear htk;have J:=Aa (Lx _ (ws.flatMap CH.Word.texts) [32] wr hO.out.strs (by have:=hLe.out;have:k*5000<=100*5000:=Dh _ oM;omega) hJ.out);have hRf:Hid (CH.join [32] (ws.flatMap CH.Word.texts)=R):=Aa hR.out;generalize CH.join [32] (ws.flatMap CH.Word.texts)=JJ at *;generalize (ws.flatMap CH.Word.texts).length=LL at *;clear hO;go_wp2_with fail;refine CmZ J.out fun w2 hb2=>?_;clear J;go_wp2;go_ret;exact⟨by rw [<- hRf.out];rfl,hB.out.trans (hb2.mono hB.out.size)⟩
end
end Go.Proofs.Y
