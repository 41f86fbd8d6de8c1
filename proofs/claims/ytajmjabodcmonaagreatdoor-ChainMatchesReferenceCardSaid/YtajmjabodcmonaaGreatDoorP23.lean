/- Part 24. -/
import Derived.Test.YtajmjabodcmonaaGreatDoorP22
set_option linter.all false
set_option maxHeartbeats 40000000
set_option maxRecDepth 100000
open Go renaming World -> ZB, Calls -> ZE
open Go.RowKit renaming intOf -> ZG
namespace Go.Proofs.Y
section
open Go.Lib Go.Proofs.Tryz Go.RowKit Go.Shelf Go.Sort CH
attribute [local irreducible] wpQuiet
variable {B base:Nat} {w:ZB} {a:Option Addr} {ls:List Q01} {v:Value} {fs:List (Q01 × Q01)}
theorem RIn.low {c:Nat} {keys:List Q00} {known:Q04} {forks:Q03} (h:RIn B w c keys known forks):B<=w.heap.size:=by
 obtain⟨_,_,_,_,_,h1,_⟩:=h.ex;have:=(aZ h1)
 have:=h.le;omega
def Pi (B:Nat) (w:ZB) (c:Nat) (keys:List Q00) (x:Int × Q04 × Q03) (e:Ending) (w':ZB):Prop := e=.returned ↑x.1/\RIn B w' c keys x.2.1 x.2.2/\Held [c] w w'
theorem Kn1 (B c:Nat) (keys:List Q00) (known:Q04) (forks:Q03) (v:Q01) (s:aS) (w:ZB) (hC:RIn B w c keys known forks) (hv0:aG B w v s) (er:Int) (ht:bY v=.error er) : ZE prog 9 #[.pointer (some ⟨c,0,none⟩),.agg (Al v s).toArray] w (Pi B w c keys (1,known,forks)):=by
 have hv:=hv0.mono hC.low;replace hv0:=Aa hv0;have hB0:=fun o=>(Ac _ w).alloc nR o;have T:=fun (W:ZB) (hb:Below w w W)=>K5 v s W ((hv.below hb nR).mono hb.size);rw [ht] at T;have herr:=M0 ht;obtain⟨va,v1,v2⟩:=s;dsimp only [Al,Hk] at T ⊢;have HC:=Aa hC;clear ht hC hv;rcases herr with rfl|rfl;all_goals
  have T:=Aa T;go_enter func9,ntmps9;go_wp2_with fail;refine CmZ (T.out _ (hB0 _)) fun w1 hb1=>?_;have hB1:Below w w w1:=(hB0 _).trans (hb1.mono sM);clear T hb1;go_wp2_with fail;refine Ar kR kR ?_;repeat (quiet_step (fail))
  refine Bv ?_;intro wq hbq;replace hbq:=An hbq;go_wp2;go_ret;have hB2:=hB1.trans (hbq.mono hB1.size);exact⟨rfl,HC.out.grow hB2,Held.of_below hB2⟩
theorem Kn2 (B c:Nat) (keys:List Q00) (known:Q04) (forks:Q03) (v:Q01) (s:aS) (w:ZB) (hC:RIn B w c keys known forks) (hv0:aG B w v s) (t:Q00) (ht:bY v=.ok t) (ha:(keys.length:Int)<=v.authority) : ZE prog 9 #[.pointer (some ⟨c,0,none⟩),.agg (Al v s).toArray] w (Pi B w c keys (1,known,forks)):=by
 have hv:=hv0.mono hC.low;replace hv0:=Aa hv0;have hB0:=fun o=>(Ac _ w).alloc nR o;have T:=fun (W:ZB) (hb:Below w w W)=>K5 v s W ((hv.below hb nR).mono hb.size);rw [ht] at T;obtain⟨va,v1,v2⟩:=s;dsimp only [Al,Hk] at T ⊢;have T:=Aa T;have HC:=Aa hC;obtain⟨vk,vn,vf,rq,rf,dZ,hks,_⟩:=hC.ex;obtain⟨ak,ck,rfl,_,_⟩:=hks.form;have eF:c<w.heap.size:=(aZ dZ)
 generalize keys.length=N at *;have q:decide ((N:Int)<=v.authority)=true:=Am ha;clear ht hC hv hks;replace dZ:=Aa dZ;go_enter func9,ntmps9;go_wp2_with fail;refine CmZ (T.out _ (hB0 _)) fun w1 hb1=>?_;have hB1:Below w w w1:=(hB0 _).trans (hb1.mono sM);have hblk:=(hb1.block w sM).trans (Aw w _);have hlt1:w.heap.size<w1.heap.size:=(aZ hblk)
 have k0:w1.cell? ⟨w,0,none⟩=some ↑v.authority:=Ab hblk 0;have kc:w1.cell? ⟨c,0,none⟩=some (.slice ak N ck):=Ab ((hB1.block c eF).trans dZ.out) 0;have g0:∀ (d:Nat) (os:Array Obj),(grow (redrawn w1 d) os).cell? ⟨w,0,none⟩=some ↑v.authority:=Ag k0;have gc:∀ (d:Nat) (os:Array Obj),(grow (redrawn w1 d) os).cell? ⟨c,0,none⟩=some (.slice ak N ck):=Ag kc;exact FD50
theorem Lkn {known:Q04} {keys:List Q00} (good:CH.Good dI keys known) {L:List Q01} {i k:Nat} (h:iF CH.msg known i k L):L.length<=known.length:=by have h1:=h.perm.length_eq;have h2:=lU (msg:=CH.msg) good (i+1);unfold bF at h2;rw [Ah] at h1 h2;rw [C9] at h1;omega
theorem Bi.pos {n cap:Nat} (h:Bi base B w (.slice a n cap) ls) {k:Nat} {x:Q01} (hx:ls[k]?=some x):∃ g s,a=some ⟨g,0,none⟩/\base<=g/\g<w.heap.size/\w.rangeAt g (k*8) (Al x s)/\aG B w x s:=by
 obtain⟨hl,_,hcase,xs,e1,e2,e3⟩:=h.row;have hk:=(lS hx)
 obtain⟨g,rfl,h1,h2⟩:∃ g,a=some ⟨g,0,none⟩/\base<=g/\g<w.heap.size:=by
  rcases hcase with⟨_,h,_⟩|h;·omega
  ·exact h
 obtain⟨y,hy⟩:∃ y,xs[k]?=some y:=⟨_,Ad (by rw [<- e1,Bh] at hk;exact hk)⟩
 have hyx:y.1=x:=by rw [<- e1,Dq,hy] at hx;exact Hf hx
 refine⟨g,y.2,rfl,h1,h2,fun j u hj=>?_,hyx ▸ e2 y (Ap hy)⟩;have hj8:j<8:=(lS hj)
 rw [<- hyx] at hj;exact e3 g rfl _ u ((Lf xs k j y hy hj8).trans hj)
theorem Bi.parts {n cap:Nat} (h:Bi base B w (.slice a n cap) ls) (m:Nat) (hm:m<=n):∃ xs:List (Q01 × aS),xs.map (·.1)=ls/\(∀ x∈xs,aG B w x.1 x.2)/\(∀ W,Below w w W->Fy W (.slice a m cap) m (A9 (xs.take m))) /\ ((m=cap/\∀ W,Below w w W->Fy W (.slice a (n - m) 0) (n - m) (A9 (xs.drop m)))\/(¬ cap=m/\∃ g,a=some ⟨g,0,none⟩/\∀ W,Below w w W->Fy W (.slice (some ⟨g,m*8,none⟩) (n - m) (cap - m)) (n - m) (A9 (xs.drop m)))):=by
 obtain⟨hl,hn,hcase,xs,e1,e2,e3⟩:=h.row;have hxl:xs.length=n:=by rw [<- hl,<- e1,Bh]
 have cell:=fun (g:Nat) (hg:a=some ⟨g,0,none⟩) (hlt:g<w.heap.size) (W:ZB) (hb:Below w w W) (j:Nat) (u:Value) (hj:(A9 xs)[j]?=some u)=>(hb.cell (p:=⟨g,j,none⟩) hlt).trans (e3 g hg j u hj);refine⟨xs,e1,e2,fun W hb=>?_,?_⟩
 ·rcases hcase with⟨rfl,rfl,rfl⟩|⟨g,rfl,_,hg⟩;·obtain rfl:m=0:=oM;exact .inr ⟨0,rfl,rfl,rfl⟩
  ·exact Wv (f:=fun x:Q01 × aS=>Al x.1 x.2) (s:=8) (fun _=>rfl) (cell g rfl hg W hb) m cap
 ·by_cases e:m=cap
  ·refine .inl ⟨e,fun W hb=>?_⟩;have hz:xs.drop m=[]:=Jl oM;have hn0:n - m=0:=oM;rw [hz,hn0];cases a with
   |none=>exact .inr ⟨0,rfl,rfl,rfl⟩
   |some ad=>exact .inl ⟨ad,0,rfl,fun j u hj=>by simp [A9] at hj⟩
  ·refine .inr ⟨fun h=>e h.symm,?_⟩;rcases hcase with⟨rfl,rfl,rfl⟩|⟨g,rfl,_,hg⟩;·exact absurd (show m=0 by omega) e
   ·exact⟨g,rfl,fun W hb=>Ggz (f:=fun x:Q01 × aS=>Al x.1 x.2) (s:=8) (fun _=>rfl) (cell g rfl hg W hb) m (n - m) (cap - m)⟩
theorem Bi.low {b:Nat} (h:Bi base B w v ls) (hb:b<=base) (hB:B<=b):Bi b B w v ls:=by exact FD76
theorem Vm (B c:Nat) (keys:List Q00) (known:Q04) (forks:Q03) (w:ZB) (hC:RIn B w c keys known forks) (good:CH.Good dI keys known) (hN:known.length<=1000) (hkl:keys.length<=1000) : ZE prog 17 #[.pointer (some ⟨c,0,none⟩)] w (Wh w (CH.versions CH.msg known keys.length)):=by
 have F:=Aa fun (a:Int) (W:ZB) (hb:Below w.heap.size w W)=>Pp B c keys known forks a W (hC.grow hb) good hN;obtain⟨vk,vn,vf,rq,rf,h1,h2,h3,h4,_⟩:=hC.ex;have hc:=(aZ h1)
 have hBw:B<=w.heap.size:=by have:=hC.le;omega
 obtain⟨ak,ck,rfl,_,_⟩:=h2.form;obtain⟨an,cn,rfl,_⟩:=h3.form;obtain⟨af,cf,rfl,_⟩:=h4.form;generalize rq.length=nn at *;generalize rf.length=nf at *;have STEP:=Aa fun (i k:Nat) (L:List Q01) (h:iF CH.msg known i k L) (x:Q01) (hx:(fol CH.msg known i).1[k]?=some x) (m:Nat) (hm:m<=L.length) (hlo:∀ u,m≠0->L[m - 1]?=some u->u.pos<=x.pos) (hhi:∀ j u,m<=j->L[j]?=some u->x.pos<u.pos)=>h.step good hx hm hlo hhi;have LEN:=Aa fun (i k:Nat) (L:List Q01) (h:iF CH.msg known i k L)=>Af (Lkn good h) hN;have MI:=Aa fun (a:Int)=>(show (fol CH.msg known a).1.length<=201 by have:=mG CH.msg known a 201 [] [] 0;rwa [Bj,Bf] at this)
 have DONE:=Aa fun (L:List Q01) (h:iF CH.msg known keys.length 0 L)=>h.done good;obtain⟨R,hR⟩:∃ R,Hid (CH.versions CH.msg known keys.length=R):=⟨_,Aa rfl⟩
 rw [hR.out];simp only [hR.out] at DONE;have h1:=Aa h1;generalize keys.length=N at *;clear h2 h3 h4 hC good hR hN;have hi8:(prog.info? 38).map (·.size)=some 8:=kR;go_enter func17,ntmps17;go_wp2_with fail;go_loopw [3,4] (fun ov iv wr=>∃ (i:Nat) (L:List Q01),i<=N/\iv=.int .i64 i/\Hid (iF CH.msg known i 0 L)/\Hid (Bi w.heap.size B wr ov L)/\Hid (Below w.heap.size w wr)) (fun _ iv _=>N - (ZG iv).toNat);case atStart=>exact⟨0,[],Az _,rfl,Aa (iF.nil _ _),Aa (Bi.nil hBw nR),Aa (Ac _ _)⟩
 case round =>
  obtain⟨i,L,hiN,rfl,hV,hO,hBr⟩:=hrel;have hblk:=(hBr.out.block c hc).trans h1.out;have k0:=Ab hblk 0;obtain⟨av,cv,rfl,hcv⟩:=hO.out.form;have hwi:IntKind.i64.wrap ((i:Int)+1)=(i:Int)+1:=by rw [IntKind.wrap_i64];omega
  have hL1:=LEN.out i 0 L hV.out;obtain⟨n0,hn0⟩:∃ n,Hid (L.length=n):=⟨_,Aa rfl⟩
  rw [hn0.out] at hcv hL1 ⊢;by_cases hlt:i<N
  ·go_wp2_with fail;refine (F.out i wr hBr.out).mono ?_;rintro e w1 ⟨v5,rfl,hO5,hb1⟩;obtain⟨a5,c5,rfl,hc5⟩:=hO5.form;have hf5:=MI.out i;have ST:=Aa (STEP.out i);have LE:=Aa (LEN.out i);have NX:=Aa fun (L:List Q01) (h:iF CH.msg known i (fol CH.msg known i).1.length L)=>iF.next h;obtain⟨ls,hls⟩:∃ ls,(fol CH.msg known (i:Int)).1=ls:=⟨_,rfl⟩
   simp only [hls] at ST NX;rw [hls] at hO5 hc5 hf5 ⊢;clear hls;obtain⟨n5,hn5⟩:∃ n,Hid (ls.length=n):=⟨_,Aa rfl⟩
   rw [hn5.out] at hc5 hf5 hO5 ⊢;rw [hn5.out] at NX;have hO1:=Aa (hO.out.below hb1);rw [hn0.out] at hO1;have hO5:=Aa hO5;have hB1:=Aa (hBr.out.trans (hb1.mono hBr.out.size));have hs1:=hb1.size;have hsr:=hBr.out.size;clear hb1 hblk k0 hO hBr;go_wp2_with fail;go_loopw [3,6] (fun ov kv w2=>∃ (k:Nat) (L:List Q01),k<=n5/\kv=.int .i64 k/\Hid (iF CH.msg known i k L)/\Hid (Bi w.heap.size B w2 ov L)/\Hid (Below w1.heap.size w1 w2)) (fun _ kv _=>n5 - (ZG kv).toNat);case atStart=>exact⟨0,L,Az _,rfl,hV,hO1,Aa (Ac _ _)⟩
   case round =>
    clear hO1 hV hcv hL1 hn0;obtain⟨k,L,hk5,rfl,hV,hO,hB2⟩:=hrel;obtain⟨av,cv,rfl,hcv⟩:=hO.out.form;have hL1:=LE.out k L hV.out;obtain⟨n,hn⟩:∃ n,Hid (L.length=n):=⟨_,Aa rfl⟩
    rw [hn.out] at hcv hL1 ⊢;have hO:=Aa (by have:=hO.out;rwa [hn.out] at this:Bi w.heap.size B wr (.slice av n cv) L);have hwk:IntKind.i64.wrap ((k:Int)+1)=(k:Int)+1:=by rw [IntKind.wrap_i64];omega
    by_cases xP:k<n5
    ·obtain⟨x,hx⟩:∃ x,ls[k]?=some x:=⟨_,Ad (by rw [hn5.out];exact xP)⟩
     obtain⟨gl,sl,rfl,hg1,hg2,hrl,KY⟩:=hO5.out.pos hx;have STK:=Aa (ST.out k L hV.out x hx);rw [hn.out] at STK;go_wp2_with fail;obtain⟨w2,rfl⟩:∃ z,z=wr:=⟨wr,rfl⟩
     go_loopw [7] (fun mv w3=>∃ m:Nat,m<=n/\mv=.int .i64 m/\Hid (∀ j u,m<=j->L[j]?=some u->x.pos<u.pos)/\Hid (Below w2.heap.size w2 w3)) (fun mv _=>(ZG mv).toNat);case atStart=>exact⟨n,Bg _,rfl,Aa fun j u hj hu=>absurd (lS hu) (by rw [hn.out];omega),Aa (Ac _ _)⟩
     case round =>
      obtain⟨m,hmn,rfl,hhi,hB3⟩:=hrel;have hg3:gl<w2.heap.size:=Ae hg2 hB2.out.size;have hr5:wr.rangeAt gl (k*8) (Al x sl):=A6 (A6 hrl hB2.out hg2) hB3.out hg3;have gB:∀ (d:Nat) (os:Array Obj),(grow (redrawn wr d) os).cell? ⟨gl,k*8+2,none⟩=some (.int .i64 x.pos):=Ag (hr5 2 _ rfl);have hr5:=Aa hr5;have z0:(0:Int)<=(k:Int):=oM;have zk:((k:Int)).toNat=k:=oM;have hk':(k:Int)<(n5:Int):=oM;rcases Nat.eq_zero_or_pos m with h0|h0;focus
       have hlo:Hid (∀ u,m≠0->L[m - 1]?=some u->u.pos<=x.pos):=Aa fun u h=>absurd h0 h;have q:¬ 0<m:=oM;clear h0;go_wp2_with fail;refine Ar kR kR ?_;repeat (quiet_step (fail))
       refine Bv ?_;intro wq hbq;replace hbq:=An hbq;rcases hO.out.row.2.2.1 with⟨rfl,hnn,hcv0⟩|⟨gO,rfl,_,_⟩;clear hnn hcv0
      rotate_left 2;obtain⟨p,hmp⟩:∃ p,Hid (m=p+1):=⟨m - 1,Aa oM⟩
      obtain⟨u,hu⟩:∃ u,L[p]?=some u:=⟨_,Ad (by have:=hmp.out;have:=hn.out;omega)⟩
      obtain⟨gO,su,eO,_,hgO,hrO,_⟩:=(hO.out.below hB3.out).pos hu;have gA:∀ (d:Nat) (os:Array Obj),(grow (redrawn wr d) os).cell? ⟨gO,p*8+2,none⟩=some (.int .i64 u.pos):=Ag (hrO 2 _ rfl);have q:0<m:=h0;have hwm:IntKind.i64.wrap ((m:Int) - 1)=(p:Int):=by have:=hmp.out;rw [IntKind.wrap_i64];omega
      have y0:(0:Int)<=(p:Int):=oM;have yk:((p:Int)).toNat=p:=oM;have hp':(p:Int)<(n:Int):=by have:=hmp.out;omega
      subst eO;by_cases hlt:x.pos<u.pos
      ·have q2:decide (x.pos<u.pos)=true:=Am hlt;have KH:Hid (∀ j u,p<=j->L[j]?=some u->x.pos<u.pos):=Aa fun j u' hj hu'=>by
        rcases H9 p j with h|h;·exact hhi.out j u' (by have:=hmp.out;omega) hu'
        ·obtain rfl:j=p:=oM;rw [hu] at hu';cases hu';exact hlt
       clear hlt;go_wp2_with fail;refine Ar kR kR ?_;repeat (quiet_step (fail))
       refine Bv ?_;intro wq hbq;replace hbq:=An hbq;have hB4:=Aa (hB3.out.trans (hbq.mono hB3.out.size));clear gA gB hbq;go_wp2;go_roundw;case rel=>exact⟨p,oM,by go_num,KH,hB4⟩
       case measure=>have:=hmp.out;simp [ZG];omega
      have hlo:Hid (∀ u,m≠0->L[m - 1]?=some u->u.pos<=x.pos):=Aa fun u' h hu'=>by rw [hmp.out,Nat.add_sub_cancel,hu] at hu';cases hu';omega
      have q2:decide (x.pos<u.pos)=false:=Ak hlt;clear hlt;go_wp2_with fail;refine Ar kR kR ?_;repeat (quiet_step (fail))
      refine Bv ?_;intro wq hbq;replace hbq:=An hbq;clear gA hrO hu hmp hwm y0 yk hp' q2;rotate_left;all_goals
       clear gB;have hO4:=Aa ((hO.out.below hB3.out).below hbq);have hB4:=Aa (hB3.out.trans (hbq.mono hB3.out.size));have hr6:=Aa (A6 hr5.out hbq (Ae hg3 hB3.out.size));have hs4:w2.heap.size<=wq.heap.size:=hB4.out.size;obtain⟨xs,e1,e2,SA,hparts⟩:=hO4.out.parts m hmn;have SA:=Aa SA;have mD:=Aa e2;have hxl:xs.length=n:=by rw [<- hn.out,<- e1,Bh]
       have y0:(0:Int)<=(m:Int):=oM;have y1:((m:Int)).toNat=m:=oM;have y2:(m:Int)<=(n:Int):=oM;have y3:(m:Int)<=(cv:Int):=oM;have hN:=Aa (STK.out m hmn hlo.out hhi.out);have hB5:=Aa ((Ac _ wq).alloc nR (.cells #[] 38));have hOe:Hid (Bi wq.heap.size B (wq.alloc (.cells #[] 38)) (.slice (some ⟨wq.heap.size,0,none⟩) 0 0) []):=Aa ⟨[],rfl,Ki 8 nR (Aw wq _),(fun _ h=>by cases h),by have:=hB1.out.size;have:=hB2.out.size;omega,hB5.out.size⟩;clear hO hB3 hbq hr5 hhi hlo STK e2;rcases hparts with⟨rfl,SB⟩|⟨hcm,g3,ha,SB⟩;clear hcv;all_goals try cases ha
       all_goals
        have SB:=Aa SB;have eT:[]++(xs.take m).map (·.1)=L.take m:=by rw [Dl,List.map_take,e1]
        have eD:(xs.drop m).map (·.1)=L.drop m:=by rw [List.map_drop,e1]
        first
         |(have q:¬ 0<m:=q
           have e8:=Aa (show m*8=0 by omega)
           go_wp2_with fail
           try (rw [e8.out])
           try (simp only [loadCellsFrom,storeCells,Kv,Result.andThen];go_wp2_with fail)
           have hO6:Bi wq.heap.size B (wq.alloc (.cells #[] 38)) (.slice (some ⟨wq.heap.size,0,none⟩) m 0) (L.take m):=by
            obtain rfl:m=0:=oM
            exact hOe.out
           have hb6:=hB5
           clear q e8
           generalize wq.alloc (.cells #[] 38)=w4 at *)
         |(go_wp2_with (first|(at_builtin;refine Vv rfl _ _ rfl wq.heap.size B _ [] hOe.out rfl _ (xs.take m) m rfl (SA.out _ hB5.out) (by rw [C9];omega) (fun z hz=>(mD.out z (Gs hz)).below hB5.out (by have:=hB1.out.size;have:=hB2.out.size;omega)) 0 rfl oM ?_)|fail)
           rintro av2 cv2 w4 hO6 hgr
           have hb6:=Aa (hB5.out.trans (Bu hgr (by have:=hB5.out.size;exact this) fun j hj=>(hOe.out.mine j hj).1))
           try rw [Bf m,eT] at hO6
           clear hgr)
        have hO7:=Aa hO6;have hr7:=Aa (A6 hr6.out hb6.out (Ae hg3 hs4));have hTl:Hid ((L.take m).length=m):=Aa (by rw [C9,hn.out];omega);clear hO6 SA hB5 hOe hO4 eT;have lK:(prog.info? 38).map (·.size)=some (Al x sl).length:=by rw [hi8];rfl
        obtain⟨LL,hLL⟩:∃ LL,Hid (Al x sl=LL):=⟨_,Aa rfl⟩
        have hll:LL.length=8:=by rw [<- hLL.out];rfl
        rw [hLL.out] at hr7 lK hr6;have hs5:=hb6.out.size;have EL:=Aa fun (W:ZB) (hb:Below wq.heap.size wq W)=>KY.below (hB2.out.trans ((hB4.out.mono hB2.out.size).trans (hb.mono (by have:=hB2.out.size;have:=hB4.out.size;omega)))) (by have:=hB1.out.size;omega);have hD:Below w4.heap.size w4 w4.drew:=(Ac _ w4).drew;try go_wp2_with fail
        refine Ed (S:=fun W'=>W'.rangeAt gl (k*8) LL) kR (A6 hr7.out hD oM) fun kz=>?_;refine tj 0 ?_;push_cast;refine tj 1 ?_;push_cast;refine tj 2 ?_;push_cast;refine tj 3 ?_;push_cast;refine Ir (i:=4) (v:=.agg LL.toArray) rfl kR kR kR (fun _ _ _ h=>h) ?_ kz ?_;·exact yieldsIf_load_mid rF _ _ rfl _ _ rfl LL _ (fun W hSw=>hSw) underlying38 rfl lK
        push_cast;refine tj 7 ?_;push_cast;refine tj 8 ?_;push_cast;refine tj 9 ?_;push_cast;refine rk 5 rfl fun K hK=>?_;go_simp;have hb5:=((Ac _ w4).alloc nR (.cells LL.toArray 38)).drew;have HB5:=Aa (hb6.out.trans (hb5.mono hs5));have hQ5:=Aa (Bp w4 LL 38);have hS5:=A6 hr7.out hb5 oM;have pq:=Aa (hO7.out.below hb5);have hBq:B<=wq.heap.size:=by have:=hB1.out.size;have:=hB2.out.size;omega
        rw [Kk LL _ (by rw [hll];rfl)];refine hK.out _ _ hS5 fun kz=>?_;clear hK K;push_cast;refine rk 6 rfl fun K hK=>?_;rw [Au rF];refine Kn _ _ rfl wq.heap.size B _ _ pq.out rfl _ [(x,sl)] 1 rfl (.inl ⟨⟨w4.heap.size,0,none⟩,_,rfl,fun j u hj=>?c1⟩) rfl ?c2 m hTl.out oM ?_;case c1 =>rw [M9,hLL.out] at hj;rw [Go.WideShapes.add_plain];exact hQ5.out j u hj
        case c2 =>intro z hz;cases Ce.1 hz;exact EL.out _ HB5.out
        intro av3 cv3 w5 hO8 hg8;have hb8:=Aa (HB5.out.trans (Bu hg8 HB5.out.size fun j hj=>(pq.out.mine j hj).1));clear hg8 pq hQ5 HB5 hb5 hO7 hr7;refine hK.out _ _ (A6 hr6.out hb8.out (Ae hg3 hs4)) fun kz=>?_;clear hK K;push_cast;refine rk 10 rfl fun K hK=>?_;rw [Au rF];refine Kn _ _ rfl wq.heap.size B _ _ hO8 rfl _ (xs.drop m) (n - m) rfl (SB.out _ hb8.out) (by rw [Ei,hxl]) (fun z hz=>(mD.out z (Iu hz)).below hb8.out hBq) (m+1) (by rw [Ah,hTl.out];rfl) oM ?_;intro av4 cv4 w6 hO9 hg9;have hb9:=Aa (hb8.out.trans (Bu hg9 hb8.out.size fun j hj=>(hO8.mine j hj).1));refine hK.out _ _ (A6 hr6.out hb9.out (Ae hg3 hs4)) fun kz=>?_;clear hK K hg9 hO8 SB;push_cast;refine tj 11 ?_;push_cast;refine Dy kR ?_ _;rw [eD,Dv] at hO9;have qU:=Aa (hO9.low (b:=w.heap.size) (by have:=hB1.out.size;have:=hB2.out.size;omega) hBw);have nM:=Aa (hB2.out.trans ((hB4.out.mono hB2.out.size).trans (hb9.out.mono (by have:=hB2.out.size;have:=hB4.out.size;omega))));clear hO9 hr6 EL mD hO5;go_wp2;go_roundw;case rel=>exact⟨k+1,_,oM,by go_num,hN,qU,nM⟩
        case measure=>simp [ZG];omega
    ·obtain rfl:k=n5:=oM;have hV':=Aa (NX.out L hV.out);have hB3:=Aa (hB1.out.trans (hB2.out.mono hB1.out.size));go_wp2;go_roundw;case rel=>exact⟨i+1,L,oM,by go_num,hV',by have:=hO;exact this,hB3⟩
     case measure=>simp [ZG];omega
  ·obtain rfl:i=N:=oM;have hLR:=DONE.out L hV.out;have hO':=Aa (by have:=hO.out.at;rw [hLR] at this;exact this);go_wp2;go_ret;exact⟨_,rfl,by have:=hO'.out;rw [<- hLR,hn0.out] at this;rw [<- hLR];exact this,hBr.out⟩
def qZ (w:ZB) (v:Value) (fs:List (Q01 × Q01)):Prop := ∃ a cap,v=.slice a fs.length cap/\fs.length<=cap/\(fs≠[]->∃ g,a=some ⟨g,0,none⟩/\g<w.heap.size/\∀ j x,fs[j]?=some x->∃ s s',w.rangeAt g (j*16) (Al x.1 s)/\w.rangeAt g (j*16+8) (Al x.2 s')/\aG w w x.1 s/\aG w w x.2 s')
theorem qZ.below {w':ZB} (h:qZ w v fs) (hb:Below w w w'):qZ w' v fs:=by obtain⟨a,cap,h1,h2,h3⟩:=h;refine⟨a,cap,h1,h2,fun hne=>?_⟩;obtain⟨g,e,hg,hx⟩:=h3 hne;refine⟨g,e,Ae hg hb.size,fun j x hj=>?_⟩;obtain⟨s,s',r1,r2,v1,v2⟩:=hx j x hj;exact⟨s,s',A6 r1 hb hg,A6 r2 hb hg,(v1.below hb nR).mono hb.size,(v2.below hb nR).mono hb.size⟩
theorem Xw:∀ (xs:List ((Q01 × Q01) × (aS × aS))) (j i:Nat) (y:(Q01 × Q01) × (aS × aS)),xs[j]?=some y->i<16->(xs.flatMap Cg)[j*16+i]?=(Cg y)[i]?
 |[],j,i,y,h,_=>by simp at h
 |x::xs,0,i,y,h,hi=>by
  cases h
  rw [Dx,Nat.zero_mul,Bf,Eu (by show i<16;exact hi)]
 |x::xs,j+1,i,y,h,hi=>by
  have:=Xw xs j i y (by simpa using h) hi
  rw [Dx,Em (by show 16<=_;omega),<- this]
  congr 1
  show (j+1)*16+i - 16=_
  omega
theorem dH.at (h:dH base B w v fs):qZ w v fs:=by
 obtain⟨a,cap,rfl,hc⟩:=h.form;have hB:B<=w.heap.size:=by obtain⟨_,_,_,_,h4,h5⟩:=h;omega
 obtain⟨hl,_,hcase,xs,e1,e2,e3⟩:=h.row;refine⟨a,cap,rfl,hc,fun hne=>?_⟩;obtain⟨g,rfl,h1,h2⟩:∃ g,a=some ⟨g,0,none⟩/\base<=g/\g<w.heap.size:=by
  rcases hcase with⟨_,h,_⟩|h;·exact absurd (Bo.1 h) hne
  ·exact h
 refine⟨g,rfl,h2,fun j x hj=>?_⟩;have hjl:=(lS hj)
 obtain⟨y,hy⟩:∃ y,xs[j]?=some y:=⟨_,Ad (by rw [<- e1,Bh] at hjl;exact hjl)⟩
 have hyx:y.1=x:=by rw [<- e1,Dq,hy] at hj;exact Hf hj
 subst hyx;have hv:=e2 y (Ap hy);refine⟨y.2.1,y.2.2,fun i u hi=>?_,fun i u hi=>?_,hv.1.mono hB,hv.2.mono hB⟩
 ·have h8:i<8:=(lS hi)
  refine e3 g rfl _ u ((Xw xs j i y hy oM).trans ?_);unfold Cg;rw [Eu h8];exact hi
 ·have h8:i<8:=(lS hi)
  rw [La];refine e3 g rfl _ u ((Xw xs j (8+i) y hy oM).trans ?_);unfold Cg;rw [Em (by show 8<=_;omega)];rw [show 8+i - (Al y.1.1 y.2.1).length=i from Ho 8 i];exact hi
theorem Zm (v v':Value) (fs:List (Q01 × Q01)) (w:ZB) (h:qZ w v fs) (h':qZ w v' fs) (hN8:fs.length<=1000):ZE prog 18 #[v,v'] w (Ret w (.bool true)):=by
 obtain⟨a,cap,rfl,hl,hne⟩:=h;obtain⟨a',cap',rfl,hl',hne'⟩:=h';have hne:=Aa hne;have hne':=Aa hne';obtain⟨N,hN⟩:∃ N,fs.length=N:=⟨_,rfl⟩
 rw [hN] at hl hl' hN8 ⊢;have hN:=Aa hN;go_enter func18,ntmps18;go_wp2_with fail;go_loopw [5] (fun i wr=>∃ k:Nat,k<=N/\i=.int .i64 k/\Hid (Below w.heap.size w wr)) (fun i _=>N - (ZG i).toNat);case atStart=>exact⟨0,Az _,rfl,Aa (Ac _ _)⟩
 case round =>
  obtain⟨k,hk,rfl,hBr⟩:=hrel;have hwk:IntKind.i64.wrap ((k:Int)+1)=(k:Int)+1:=by rw [IntKind.wrap_i64];omega
  by_cases hlt:k<N
  ·obtain⟨g,rfl,hg,hx⟩:=hne.out (by intro h;have:=hN.out;simp [h] at this;omega);obtain⟨g',rfl,hg',hx'⟩:=hne'.out (by intro h;have:=hN.out;simp [h] at this;omega);obtain⟨y,hy⟩:∃ y,fs[k]?=some y:=⟨_,Ad (by rw [hN.out];exact hlt)⟩
   obtain⟨s,t,r1,r2,v1,v2⟩:=hx k y hy;obtain⟨s',t',r1',r2',v1',v2'⟩:=hx' k y hy;have rw_:=fun (x:Q01) (s:aS) (h:aG w.heap.size w x s) (W:ZB) (hb:Below wr.heap.size wr W)=>(h.raw.below (hBr.out.trans (hb.mono hBr.out.size)) nR).mono (Af hBr.out.size hb.size);have F1:=Aa fun (W:ZB) (hb:Below wr.heap.size wr W)=>Te y.1 s s' W (rw_ _ _ v1 W hb) (rw_ _ _ v1' W hb);have F2:=Aa fun (W:ZB) (hb:Below wr.heap.size wr W)=>Te y.2 t t' W (rw_ _ _ v2 W hb) (rw_ _ _ v2' W hb);have ld:=fun (W:ZB) (hb:Below wr.heap.size wr W) (b o:Nat) (C:List Value) (hr:w.rangeAt b o C) (hlt:b<w.heap.size)=>A6 hr (hBr.out.trans (hb.mono hBr.out.size)) hlt;have SS:=Aa fun (W:ZB) (hb:Below wr.heap.size wr W)=>And.intro (ld W hb _ _ _ r1 hg) (And.intro (ld W hb _ _ _ r1' hg') (And.intro (ld W hb _ _ _ r2 hg) (ld W hb _ _ _ r2' hg')));have hc1:(prog.info? 38).map (·.size)=some (Al y.1 s).length:=kR;have hc2:(prog.info? 38).map (·.size)=some (Al y.1 s').length:=kR;have hd1:(prog.info? 38).map (·.size)=some (Al y.2 t).length:=kR;have hd2:(prog.info? 38).map (·.size)=some (Al y.2 t').length:=kR;clear ld rw_ hx hx' hy r1 r2 v1 v2 r1' r2' v1' v2';generalize Al y.1 s=C1 at *;generalize Al y.1 s'=C2 at *;generalize Al y.2 t=D1 at *;generalize Al y.2 t'=D2 at *;have z0:(0:Int)<=(k:Int):=oM;have zk:((k:Int)).toNat=k:=oM;have hk':(k:Int)<(N:Int):=oM;have hD:Below wr.heap.size wr wr.drew:=(Ac _ wr).drew;go_wp2_with fail;refine Ed (S:=(fun W'=>W'.rangeAt g (k*16) C1/\W'.rangeAt g' (k*16) C2/\W'.rangeAt g (k*16+8) D1/\W'.rangeAt g' (k*16+8) D2)) kR (SS.out _ hD) fun kz=>?_;refine tj 0 ?_;push_cast;refine tj 1 ?_;push_cast;refine tj 2 ?_;push_cast;refine tj 3 ?_;push_cast;refine Ir (i:=4) (v:=.agg C1.toArray) rfl kR kR kR (fun _ _ _ h=>h) ?_ kz ?_;·exact yieldsIf_load_mid rF _ _ rfl _ _ rfl C1 _ (fun W hSw=>hSw.1) underlying38 rfl hc1
   push_cast;refine tj 5 ?_;push_cast;refine tj 6 ?_;push_cast;refine tj 7 ?_;push_cast;refine tj 8 ?_;push_cast;refine Ir (i:=9) (v:=.agg C2.toArray) rfl kR kR kR (fun _ _ _ h=>h) ?_ kz ?_;·exact yieldsIf_load_mid rF _ _ rfl _ _ rfl C2 _ (fun W hSw=>hSw.2.1) underlying38 rfl hc2
   push_cast;refine rk 10 rfl fun K hK=>?_;go_simp;refine CmZ (F1.out _ hD) fun w1 hb1=>?_;have hE1:Below wr.heap.size wr w1:=hD.trans (hb1.mono hD.size);go_wp2_with fail;refine hK.out _ _ (SS.out _ hE1) fun kz=>?_;clear hK K;push_cast;refine tj 11 ?_;push_cast;refine tj 12 ?_;push_cast;refine tj 13 ?_;push_cast;refine tj 14 ?_;push_cast;refine tj 15 ?_;push_cast;refine tj 16 ?_;push_cast;refine Ir (i:=17) (v:=.agg D1.toArray) rfl kR kR kR (fun _ _ _ h=>h) ?_ kz ?_;·exact yieldsIf_load_mid rF _ _ rfl _ _ rfl D1 _ (fun W hSw=>hSw.2.2.1) underlying38 rfl hd1
   push_cast;refine tj 18 ?_;push_cast;refine tj 19 ?_;push_cast;refine tj 20 ?_;push_cast;refine tj 21 ?_;push_cast;refine Ir (i:=22) (v:=.agg D2.toArray) rfl kR kR kR (fun _ _ _ h=>h) ?_ kz ?_;·exact yieldsIf_load_mid rF _ _ rfl _ _ rfl D2 _ (fun W hSw=>hSw.2.2.2) underlying38 rfl hd2
   push_cast;refine rk 23 rfl fun K hK=>?_;go_simp;refine CmZ (F2.out _ hE1) fun w2 hb2=>?_;have hE2:Below wr.heap.size wr w2:=hE1.trans (hb2.mono hE1.size);go_wp2_with fail;refine hK.out _ _ (SS.out _ hE2) fun kz=>?_;clear hK K;push_cast;refine tj 24 ?_;push_cast;refine tj 25 ?_;push_cast;refine Dy kR ?_ _;have hB3:=Aa (hBr.out.trans (hE2.mono hBr.out.size));clear F1 F2 SS;go_wp2;go_roundw;case rel=>exact⟨k+1,oM,by go_num,hB3⟩
   case measure=>simp [ZG];omega
  ·exact FD97
theorem Fit (v:Q01) (s:aS) (w:ZB) (hv:aG w w v s) : ZE prog 9 #[.pointer none,.agg (Al v s).toArray] w (Ret w (.int .i64 1)):=by
 have hB0:=fun o=>(Ac _ w).alloc nR o;have T:=fun (W:ZB) (hb:Below w w W)=>K5 v s W ((hv.below hb nR).mono hb.size);obtain⟨va,v1,v2⟩:=s;cases ht:bY v with
 |ok t =>exact FD148
 |error er =>exact FD148
theorem Ev0 (a:Int) (w:ZB):ZE prog 42 #[.pointer none,↑a] w (fun e w'=>e=.returned (.slice none 0 0)/\w=w'):=by
 go_enter func42,ntmps42;go_wp2_with fail;go_loopw [5,6,7,8] (fun ov pv lv iv wr=>ov=.slice none 0 0/\pv=.string ⟨#[]⟩/\lv=.int .i64 0/\iv=.int .i64 0/\w=wr) (fun _ _ _ _ _=>0);case atStart=>exact⟨rfl,rfl,rfl,rfl,rfl⟩
 case round =>obtain⟨rfl,rfl,rfl,rfl,rfl⟩:=hrel;exact FD35
theorem Cap (a:Int) (w:ZB):ZE prog 14 #[.pointer none,↑a] w (Ret w (.tuple #[.int .i64 0,.string ⟨#[]⟩])):=by go_enter func14,ntmps14;go_wp2_with fail;refine (Ev0 a _).mono ?_;rintro e w1 ⟨rfl,rfl⟩;go_wp2;refine Aj (Aq rfl _ _ _) rfl ?_;exact⟨rfl,Ac _ _⟩
theorem Xi (w:ZB):ZE prog 12 #[.pointer none] w (fun e w'=>e=.returned (.slice none 0 0)/\w=w'):=by go_enter func12,ntmps12;exact FD69
theorem Ub (w:ZB):ZE prog 17 #[.pointer none] w (fun e w'=>e=.returned (.slice none 0 0)/\w=w'):=by go_enter func17,ntmps17;exact FD69
theorem Zq (w:ZB):ZE prog 20 #[.pointer none] w (fun e w'=>e=.returned (.slice none 0 0)/\w=w'):=by go_enter func20,ntmps20;exact FD138
end
end Go.Proofs.Y
