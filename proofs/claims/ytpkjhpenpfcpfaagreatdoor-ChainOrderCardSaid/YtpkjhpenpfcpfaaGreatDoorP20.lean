/-
  ChainOrder: the proof, part 21 of 28.
-/
import Derived.Test.YtpkjhpenpfcpfaaGreatDoorP17
import Derived.Test.YtpkjhpenpfcpfaaGreatDoorP19
import Derived.Test.YtpkjhpenpfcpfaaGreatDoorP28
set_option linter.unusedSimpArgs false
set_option linter.unusedVariables false
set_option maxHeartbeats 40000000
set_option maxRecDepth 100000
open Go renaming World -> ZB, Value -> ZC, Calls -> ZE
open Go.Act renaming put -> ZF
open Go.RowKit renaming intOf -> ZG
open Decidable renaming decide -> ZH
namespace Go.Proofs.YtpkjhpenpfcpfaaGreatDoor
section
open Go.Lib Go.Proofs.Tryz Go.RowKit Go.Shelf Go.Sort CH
attribute [local irreducible] wpQuiet
theorem Wy (v:ZC) (ls:List (List UInt8)) (s:List UInt8) (w:ZB) (hv:Strs w w v ls) : ZE prog 227 #[v,↑s] w (Ret w (.bool (ls.contains s))):=by
 obtain⟨a,cap,rfl,hl,hcap,hne⟩:=hv;replace hne:=Aa hne;obtain⟨R,hR⟩:∃ R,ls.contains s=R:=⟨_,rfl⟩
 rw [hR];replace hR:=Aa hR;obtain⟨N,hN⟩:∃ N,ls.length=N:=⟨_,rfl⟩
 rw [hN] at hl ⊢;replace hN:=Aa hN;go_enter func227,ntmps227;go_wp2_with fail;go_loopw [5] (fun i wr=>∃ k:Nat,k<=N/\i=↑k/\wr=w/\Hid ((ls.take k).contains s=false)) (fun i _=>N - (ZG i).toNat);case atStart=>exact⟨0,Bd _,rfl,rfl,Aa rfl⟩
 case round =>
  obtain⟨k,hk,rfl,rfl,hc⟩:=hrel;by_cases hlt:k<N
  ·obtain⟨b,off,rfl,hbl,hcells⟩:=hne.out (by intro h;have:=hN.out;simp [h] at this;omega);obtain⟨l,hl'⟩:∃ l,ls[k]?=some l:=⟨_,Ad (by rw [hN.out];exact hlt)⟩
   have e1:=hcells k l hl';have z0:(0:Int)<=(k:Int):=oM;have zk:((k:Int)).toNat=k:=oM;have hk':(k:Int)<(N:Int):=oM;cases hx:l==s with
   |true =>
    obtain rfl:=eq_of_beq hx;obtain rfl:true=R:=by rw [<- hR.out];exact (List.contains_iff_mem.2 (Aw hl')).symm
    clear hcells hl' hx;exact FD29
   |false =>
    obtain⟨q1,q2,q3⟩:=Kk hx;have hc2:=Aa (show (ls.take (k+1)).contains s=false from by rw [Oz hl',hc.out,hx];rfl);clear hcells hl';go_wp2;go_roundw;case rel=>exact⟨k+1,oM,by go_num,by first|rfl|trivial,hc2⟩
    case measure=>simp [ZG];omega
  ·obtain rfl:k=N:=oM;obtain rfl:false=R:=by rw [<- hR.out,<- hc.out,Cc (by rw [hN.out];exact Bo _)]
   exact FD29
theorem Ggz (a:Option Addr) (cap:Nat) (s:List UInt8) (w:ZB) : ZE prog 167 #[.slice a 0 cap,↑s] w (Ret w (.int .i64 (-1))):=by
 go_enter func167,ntmps167;go_wp2_with fail;go_loopw [5] (fun i wr=>i=.int .i64 0/\wr=w) (fun _ _=>0);case atStart=>exact⟨rfl,rfl⟩
 case round =>obtain⟨rfl,rfl⟩:=hrel;exact FD29
theorem Xh:∀ {l:List (List UInt8)},(∀ (j k:Nat) (x y:List UInt8),l[j]?=some x->l[k]?=some y->j<k->(x==y)=false)->dW l=true
 |[],_=>rfl
 |z::l,h=>by
  have h1:l.contains z=false:=by
   rw [Il,Df]
   intro hm
   obtain⟨k,hk⟩:=Dy.1 hm
   have:=h 0 (k+1) z z rfl (by simpa using hk) oM
   simp at this
  rw [dW,h1,Xh fun j k x y hj hk hlt=>h (j+1) (k+1) x y (by simpa using hj) (by simpa using hk) oM]
  rfl
structure kP (h:aS):Prop where
 id:CH.isName h.id=true
 company:CH.isName h.company=true
 holder:CH.isName h.holder=true
 nom:h.ah=[]\/CH.isName h.ah=true/\h.joint.length=0
 uY:h.aB=[]\/CH.isName h.aB=true
 j4:h.joint.length<=4
 jn:∀ x∈h.joint,CH.isName x=true
 jt:∀ (j k:Nat) (x y:List UInt8),h.joint[j]?=some x->h.joint[k]?=some y->j<k->(x==y)=false
 jh:∀ x∈h.joint,(x==h.holder)=false
 ch:(h.company==h.holder)=false
 cn:(h.company==h.ah)=false
 cj:∀ x∈h.joint,(x==h.company)=false
 cap:0<=h.capital/\h.capital<=100
 vot:0<=h.bZ/\h.bZ<=100
 st:0<=h.start/\h.start<=100000
 en:h.stop = -1\/0<=h.stop/\h.stop<=100000/\h.start<h.stop
theorem Lk {h:aS} (hh:bD h=true):kP h:=by
 unfold bD CH.within at hh
 simp only [Ar,Dq,Fg,Dz,Bl,Gt,Ih,Df,Nc,Nat.not_lt] at hh
 obtain⟨⟨⟨⟨⟨⟨⟨⟨⟨a1,a2⟩,a3⟩,a4⟩,a5⟩,a6⟩,a7⟩,a8,a9⟩,⟨⟨b1,b2⟩,b3⟩,b4⟩,b5,b6⟩:=hh
 have hnt:=Xi (h.holder::h.joint) a9
 have hc:=b1
 rw [Il,Df] at hc
 have hne:∀ {x y:List UInt8},x≠y->(x==y)=false:=fun e=>by simpa using e
 exact {
  id:=a1
  company:=a2
  holder:=a3
  nom:=by
   rcases a4 with e|e
   ·exact .inl e
   ·refine .inr ⟨e,?_⟩
    rcases a7 with f|f
    ·have:=(Br e).1
     simp only [bne_eq_false_iff_eq] at f
     rw [f] at this
     simp at this
    ·omega
  uY:=a5
  j4:=a6
  jn:=fun x hx=>Dh.1 a8 x hx
  jt:=fun j k x y hj hk hlt=>hnt (j+1) (k+1) x y (by simpa using hj) (by simpa using hk) oM
  jh:=fun x hx=>by
   obtain⟨j,hj⟩:=Dy.1 hx
   have:=hnt 0 (j+1) h.holder x rfl (by simpa using hj) oM
   simp only [Bq,ne_eq] at this ⊢
   exact fun e=>this e.symm
  ch:=hne fun e=>hc (by rw [e];simp)
  cn:=b2
  cj:=fun x hx=>hne fun e=>hc (by rw [<- e];exact Gj _ hx)
  cap:=b3
  vot:=b4
  st:=b5
  en:=by omega }
theorem I50 {h:aS} (H:kP h):bD h=true:=by
 have hnt:dW (h.holder::h.joint)=true:=Xh (fun j k x y hj hk hlt=>by
  cases j with
  |zero =>
   cases k with
   |zero=>omega
   |succ k =>cases hj;have:=H.jh y (Aw hk);simp only [Bq,ne_eq] at this ⊢;exact fun e=>this e.symm
  |succ j =>
   cases k with
   |zero=>omega
   |succ k=>exact H.jt j k x y hj hk oM)
 have hc:(h.holder::h.joint).contains h.company=false:=by
  rw [Il,Df,A8];rintro (e|e);·have:=H.ch;rw [e] at this;simp at this
  ·have:=H.cj _ e;simp at this
 have hw:∀ n m:Int,0<=n/\n<=m->CH.within n m=true:=fun n m e=>by unfold CH.within;rw [decide_eq_true e.1,decide_eq_true e.2];rfl
 unfold bD;rw [H.id,H.company,H.holder,hnt,hc,H.cn,hw _ _ H.cap,hw _ _ H.vot,hw _ _ H.st,Ak H.j4,Dh.2 H.jn];have e1:(h.ah==[]||CH.isName h.ah)=true:=by
  rcases H.nom with e|e;·rw [e];rfl
  ·rw [e.1,Bool.or_true]
 have e2:(h.aB==[]||CH.isName h.aB)=true:=by
  rcases H.uY with e|e;·rw [e];rfl
  ·rw [e,Bool.or_true]
 have e3:(h.ah != []&&ZH (0<h.joint.length))=false:=by
  rcases H.nom with e|e;·rw [e];rfl
  ·rw [e.2];simp
 have e4:(h.stop==-1||CH.within h.stop 100000&&ZH (h.stop > h.start))=true:=by
  rcases H.en with e|e;·rw [e];rfl
  ·rw [hw _ _ ⟨e.1,e.2.1⟩,Ak e.2.2,a_Bool_true_and,Bool.or_true]
 rw [e1,e2,e3,e4];rfl
end
section
open Go.Lib Go.Proofs.Tryz Go.RowKit Go.Shelf Go.Sort CH
attribute [local irreducible] wpQuiet
structure qL (h:aS):Prop where
 id:h.id.length<=4611686018427387904
 company:h.company.length<=4611686018427387904
 holder:h.holder.length<=4611686018427387904
 ah:h.ah.length<=4611686018427387904
 aB:h.aB.length<=4611686018427387904
 joint:∀ x∈h.joint,x.length<=4611686018427387904
theorem Qp (h:aS) (vj:ZC) (w:ZB) (hv:Strs w w vj h.joint) (hL:qL h) : ZE prog 166 #[.agg (A5 h vj).toArray] w (Ret w (.bool (bD h))):=by
 obtain⟨R,hR⟩:∃ R,bD h=R:=⟨_,rfl⟩
 rw [hR];have bad:Hid (¬ kP h->R=false):=Aa fun q=>by rw [<- hR,<- Bool.not_eq_true];exact fun e=>q (Lk e)
 have good:Hid (kP h->R=true):=Aa fun H=>hR.symm.trans (I50 H);clear hR;have T1:=Aa fun (W:ZB)=>Ha h.id W hL.id;have T2:=Aa fun (W:ZB)=>Ha h.company W hL.company;have T3:=Aa fun (W:ZB)=>Ha h.holder W hL.holder;have T4:=Aa fun (W:ZB)=>Ha h.ah W hL.ah;have T5:=Aa fun (W:ZB)=>Ha h.aB W hL.aB;have TC:=Aa fun (W:ZB) (hb:Below w w W)=>Wy vj h.joint h.company W ((hv.below hb nR).mono hb.size);have TJ:=Aa fun (k:Nat) (x:List UInt8) (hx:h.joint[k]?=some x) (W:ZB)=>Ha x W (hL.joint x (Aw hx));have Y1:=Aa fun (W:ZB)=>Xb h.start W;have Y2:=Aa fun (W:ZB)=>Xb h.stop W;have hB0:=Aa fun o=>(Ac _ w).alloc nR o;clear hL;have HV:=Aa hv;obtain⟨a,cap,rfl,hl,hcap,hne⟩:=hv;replace hne:=Aa hne;obtain⟨N,hN⟩:∃ N,h.joint.length=N:=⟨_,rfl⟩
 rw [hN] at hl TC;dsimp only [A5,ay,aJ] at *;rw [hN];replace hN:=Aa hN;go_enter func166,ntmps166;go_wp2_with fail;have B:=hB0.out;generalize hWd:w.alloc _=W at *;have hBW:Below w w W:=by rw [<- hWd];exact B _
 have K:=Aa (Ct (C:=_) hWd);clear hWd hB0 B;refine (T1.out _).mono ?_;rintro e w1 ⟨rfl,hb⟩;have c:=K.out _ hb 1 _ rfl;cases hid:CH.isName h.id with
 |false =>
  obtain rfl:=bad.out fun H=>by rw [H.id] at hid;cases hid
  exact FD122
 |true =>
 go_wp2_with fail;refine (T2.out _).mono ?_;rintro e w2 ⟨rfl,hb2⟩;replace hb:=hb.trans (hb2.mono hb.size);clear c hb2;have c:=K.out _ hb 2 _ rfl;cases hco:CH.isName h.company with
 |false =>
  obtain rfl:=bad.out fun H=>by rw [H.company] at hco;cases hco
  exact FD122
 |true =>
 go_wp2_with fail;refine (T3.out _).mono ?_;rintro e w3 ⟨rfl,hb3⟩;replace hb:=hb.trans (hb3.mono hb.size);clear c hb3 T1 T2 T3;have k1:=K.out _ hb 1 _ rfl;have k2:=K.out _ hb 2 _ rfl;have k3:=K.out _ hb 3 _ rfl;have k4:=K.out _ hb 4 _ rfl;cases hho:CH.isName h.holder with
 |false =>
  obtain rfl:=bad.out fun H=>by rw [H.holder] at hho;cases hho
  exact FD122
 |true =>
 have hcl:=Kl (Br hco).1;have wZ:=I6 (Br hco).1;have hno:h.ah=[]\/(h.ah.isEmpty=false/\((⟨h.ah.toArray⟩:ByteArray)==⟨#[]⟩)=false/\¬ h.ah=[]):=Gb _;rcases hno with n0|⟨x1,x2,x3⟩;rotate_left;focus
  go_wp2_with fail;refine (T4.out _).mono ?_;rintro e w4 ⟨rfl,hb4⟩;replace hb:=hb.trans (hb4.mono hb.size);clear k1 k2 k3 k4 hb4;have k1:=K.out _ hb 1 _ rfl;have k2:=K.out _ hb 2 _ rfl;have k3:=K.out _ hb 3 _ rfl;have k4:=K.out _ hb 4 _ rfl;cases hnn:CH.isName h.ah;focus
   obtain rfl:=bad.out fun H=>by
    rcases H.nom with e|e;·exact x3 e
    ·rw [e.1] at hnn;cases hnn
   go_wp2;go_ret;exact⟨rfl,hBW.trans (hb.mono hBW.size)⟩
  have hP:=Aa (show h.ah=[]\/CH.isName h.ah=true from .inr hnn);clear hnn
 rotate_left;focus rw [n0] at k3;have hP:=Aa (show h.ah=[]\/CH.isName h.ah=true from .inl n0)
 all_goals
  clear T4;rcases Gb h.aB with p0|⟨y1,y2,y3⟩;rotate_left;focus
   go_wp2_with fail;refine (T5.out _).mono ?_;rintro e w5 ⟨rfl,hb5⟩;replace hb:=hb.trans (hb5.mono hb.size);clear k1 k2 k3 k4 hb5;have k1:=K.out _ hb 1 _ rfl;have k2:=K.out _ hb 2 _ rfl;have k3:=K.out _ hb 3 _ rfl;have k4:=K.out _ hb 4 _ rfl;cases hpn:CH.isName h.aB;focus
    obtain rfl:=bad.out fun H=>by
     rcases H.uY with e|e;·exact y3 e
     ·rw [e] at hpn;cases hpn
    go_wp2;go_ret;exact⟨rfl,hBW.trans (hb.mono hBW.size)⟩
   have hP2:=Aa (show h.aB=[]\/CH.isName h.aB=true from .inr hpn);clear hpn y1 y2 y3;first|rw [n0] at k3|skip
  rotate_left;focus rw [p0] at k4;have hP2:=Aa (show h.aB=[]\/CH.isName h.aB=true from .inl p0)
 all_goals
  clear T5;have k5:=K.out _ hb 5 _ rfl;rcases (oM:4<N\/N=0\/(0<N/\N<=4)) with n5|rfl|⟨n1,n4⟩;focus
   obtain rfl:=bad.out fun H=>by have:=H.j4;rw [hN.out] at this;omega
   go_wp2;go_ret;exact⟨rfl,hBW.trans (hb.mono hBW.size)⟩
  rotate_left;focus
   have hN1:=hN.out;first
    |(have:=x3
      obtain rfl:=bad.out fun H=>by
       rcases H.nom with e|e
       ·exact x3 e
       ·omega
      go_wp2
      go_ret
      exact⟨rfl,hBW.trans (hb.mono hBW.size)⟩)
    |skip
  rotate_left
 all_goals
  cases hch:h.company==h.holder;rotate_left;focus
   obtain rfl:=bad.out fun H=>by rw [H.ch] at hch;cases hch
   have s0:=eq_of_beq hch;have s1:((⟨h.company.toArray⟩:ByteArray)==⟨h.holder.toArray⟩)=true:=by rw [Cw];exact hch
   go_wp2;go_ret;exact⟨rfl,hBW.trans (hb.mono hBW.size)⟩
  obtain⟨s1,s2,s3⟩:=Kk hch;cases hcn:h.company==h.ah with
  |true =>
   first
    |(have:=x3
      obtain rfl:=bad.out fun H=>by rw [H.cn] at hcn;cases hcn
      rw [eq_of_beq hcn] at k1 s1 s2 s3
      go_wp2
      go_ret
      exact⟨rfl,hBW.trans (hb.mono hBW.size)⟩)
    |(exfalso;rw [eq_of_beq hcn,n0] at wZ;cases wZ)
  |false =>
  obtain⟨s4,s5,s6⟩:=Kk hcn;go_wp2_with fail;refine (TC.out _ (hBW.trans (hb.mono hBW.size))).mono ?_;rintro e w6 ⟨rfl,hb6⟩;replace hb:=hb.trans (hb6.mono hb.size);clear k1 k2 k3 k4 k5 hb6 s1 s2 s3 s4 s5 s6 hcl wZ;cases hcj:h.joint.contains h.company with
  |true =>
   obtain rfl:=bad.out fun H=>by have:=H.cj h.company (List.contains_iff_mem.1 hcj);simp at this
   go_wp2;go_ret;exact⟨rfl,hBW.trans (hb.mono hBW.size)⟩
  |false =>
  replace hb:=Aa hb;go_wp2_with fail;go_loopw [3] (fun iv wr=>∃ k:Nat,k<=h.joint.length/\iv=↑k/\Hid (Below W W wr)/\Hid (∀ (j:Nat) (x:List UInt8),j<k->h.joint[j]?=some x->CH.isName x=true/\(x==h.holder)=false/\(h.joint.take j).contains x=false)) (fun iv _=>h.joint.length - (ZG iv).toNat);case atStart=>exact⟨0,Bd _,rfl,hb,Aa fun j x hj=>absurd hj (Nat.not_lt_zero _)⟩
  case round =>
   obtain⟨k,hk,rfl,hB,hI⟩:=hrel;have c5:=K.out wr hB.out 5 _ rfl;have hBw:Below w w wr:=hBW.trans (hB.out.mono hBW.size);by_cases hlt:k<h.joint.length
   ·obtain⟨b,off,rfl,hbl,hcells⟩:=hne.out (by intro e;rw [e] at hlt;simp at hlt);obtain⟨x,hx⟩:∃ x,h.joint[k]?=some x:=⟨_,Ad hlt⟩
    have e1:=(hBw.cell (p:=⟨b,off+k,none⟩) hbl).trans (hcells k x hx);have c2:=K.out wr hB.out 2 _ rfl;obtain⟨bc,hbc⟩:∃ bc,(h.joint.take k).contains x=bc:=⟨_,rfl⟩
    have I:=Aa (TJ.out k x hx);have HH:=Aa fun (W':ZB) (hb':Below wr wr W')=>Wy (.slice (some ⟨b,off,none⟩) k cap) (h.joint.take k) x W' (((HV.out.take k oM).below (hBw.trans (hb'.mono hBw.size)) nR).mono (Ag hBw.size hb'.size));rw [hbc] at HH;have hall:=Aa fun (q:CH.isName x=true/\(x==h.holder)=false/\bc=false) (j:Nat) (y:List UInt8) (hj:j<k+1) (hy:h.joint[j]?=some y)=>(show CH.isName y=true/\(y==h.holder)=false/\(h.joint.take j).contains y=false from by
     rcases Nat.lt_succ_iff_lt_or_eq.1 hj with e|e;·exact hI.out j y e hy
     ·subst e;rw [hx] at hy;cases hy;exact⟨q.1,q.2.1,hbc.trans q.2.2⟩)
    have hbad:=Aa fun (q:¬ (CH.isName x=true/\(x==h.holder)=false/\bc=false))=>bad.out fun H=>q ⟨H.jn x (Aw hx),H.jh x (Aw hx),by
     rw [<- hbc,<- Bool.not_eq_true];intro e;obtain⟨j,hj⟩:=Dy.1 (List.contains_iff_mem.1 e);rw [List.getElem?_take] at hj;split at hj;·rename_i hjk;have:=H.jt j k x x hj hx hjk;simp at this
     ·cases hj⟩
    have g1:=@Ae _ _ _ e1;have g2:=@Ae _ _ _ c2;have g5:=@Ae _ _ _ c5;have hj:=hN.out;rw [hj] at hlt;have z0:(0:Int)<=(k:Int):=oM;have zk:((k:Int)).toNat=k:=oM;have hcl:k<=cap:=oM;clear hcells hx hbc hI;first
     |(exfalso;omega)
     |(
       have hk':(k:Int)<(N:Int):=oM
       replace hj:=Aa hj
       have hs:=@Kk x h.holder
       have ht:(x==h.holder)=true->((⟨x.toArray⟩:ByteArray)==⟨h.holder.toArray⟩)=true:=fun e=>by rw [Cw];exact e
       have ht2:(x==h.holder)=true->x=h.holder:=eq_of_beq
       generalize CH.isName x=bI at *
       generalize hq:(x==h.holder)=bq at *
       have hc:bI=false/\R=false\/(bI=true/\bq=true/\R=false)/\((⟨x.toArray⟩:ByteArray)==⟨h.holder.toArray⟩)=true/\x=h.holder \/
         (bI=true/\bq=false/\bc=true/\R=false)/\(((⟨x.toArray⟩:ByteArray)==⟨h.holder.toArray⟩)=false/\¬ x=h.holder/\¬ h.holder=x) \/
         (bI=true/\bq=false/\bc=false)/\(((⟨x.toArray⟩:ByteArray)==⟨h.holder.toArray⟩)=false/\¬ x=h.holder/\¬ h.holder=x):=by
        cases bI
        ·exact .inl ⟨rfl,hbad.out (by rintro⟨q,_⟩;cases q)⟩
        cases bq
        rotate_left
        ·exact .inr (.inl ⟨⟨rfl,rfl,hbad.out (by rintro⟨_,q,_⟩;cases q)⟩,ht rfl,ht2 rfl⟩)
        cases bc
        ·exact .inr (.inr (.inr ⟨⟨rfl,rfl,rfl⟩,hs rfl⟩))
        ·exact .inr (.inr (.inl ⟨⟨rfl,rfl,rfl,hbad.out (by rintro⟨_,_,q⟩;cases q)⟩,hs rfl⟩))
       clear hs ht ht2 hbad
       rcases hc with⟨rfl,rfl⟩|⟨⟨rfl,rfl,rfl⟩,s1,rfl⟩|⟨⟨rfl,rfl,rfl,rfl⟩,s1,s2,s3⟩|⟨⟨rfl,rfl,rfl⟩,s1,s2,s3⟩
       all_goals
        go_wp2_with fail
        refine Ba kR kR ?_
        repeat (quiet_step (first|(with_reducible exact Bg (I.out _))|(with_reducible exact Bg (HH.out _ (Dx _ _ _)))))
        refine Cj ?_
        intro wq hbq
        replace hbq:=As hbq
        clear g1 g2 g5 I HH
        have hB2:=Aa (hB.out.trans (hbq.mono hB.out.size))
        clear hbq e1 c2 c5 hB hBw
        first
         |(
           have hI2:=Aa (hall.out sM)
           clear hall
           go_wp2
           go_roundw
           case rel=>exact⟨k+1,by have:=hj.out;omega,by go_num,hB2,hI2⟩
           case measure=>have:=hj.out;simp [ZG];omega)
         |(
           go_wp2
           go_ret
           exact⟨rfl,hBW.trans (hB2.out.mono hBW.size)⟩))
   ·have hj:=hN.out;obtain rfl:k=h.joint.length:=oM;have rY:=Aa fun (g1:0<=h.capital/\h.capital<=100) (g2:0<=h.bZ/\h.bZ<=100) (g3:0<=h.start/\h.start<=100000) (g4:h.stop = -1\/0<=h.stop/\h.stop<=100000/\h.start<h.stop)=>(good.out ⟨hid,hco,hho,(by first|exact .inl n0|exact hP.out.imp (fun e=>e) (fun e=>⟨e,hj⟩)),hP2.out,oM,(fun x hx=>by
     obtain⟨j,hj⟩:=Dy.1 hx;exact (hI.out j x (lS hj) hj).1),(fun j k x y hj hk hlt=>by
     have:=(hI.out k y (lS hk) hk).2.2;rw [<- Bool.not_eq_true,Dz];rintro rfl;rw [<- Bool.not_eq_true] at this;exact this (List.contains_iff_mem.2 (Dy.2 ⟨j,by rw [List.getElem?_take,Ap hlt];exact hj⟩))),(fun x hx=>by
     obtain⟨j,hj⟩:=Dy.1 hx;exact (hI.out j x (lS hj) hj).2.1),hch,hcn,(fun x hx=>by
     rw [<- Bool.not_eq_true,Dz];rintro rfl;rw [List.contains_iff_mem.2 hx] at hcj;cases hcj),g1,g2,g3,g4⟩:R=true).symm
    have hw:∀ n,CH.within n 100000=true->0<=n/\n<=100000:=fun n e=>by unfold CH.within at e;simpa using e
    have hw':∀ n,CH.within n 100000=false->¬ (0<=n/\n<=100000):=fun n e=>by unfold CH.within at e;simpa using e
    replace hw:=Aa hw;replace hw':=Aa hw';have c6:=K.out wr hB.out 6 _ rfl;have c7:=K.out wr hB.out 7 _ rfl;have c8:=K.out wr hB.out 8 _ rfl;rw [hj];clear hI hlt hBw hk;cases z1:ZH (0<=h.capital) with
    |false =>
     obtain rfl:=bad.out fun H=>by have:=H.cap;simp only [Df] at z1;omega
     go_wp2;go_ret;exact⟨rfl,hBW.trans (hB.out.mono hBW.size)⟩
    |true =>
    cases z2:ZH (h.capital<=100) with
    |false =>
     obtain rfl:=bad.out fun H=>by have:=H.cap;simp only [Df] at z2;omega
     go_wp2;go_ret;exact⟨rfl,hBW.trans (hB.out.mono hBW.size)⟩
    |true =>
    cases z3:ZH (0<=h.bZ) with
    |false =>
     obtain rfl:=bad.out fun H=>by have:=H.vot;simp only [Df] at z3;omega
     go_wp2;go_ret;exact⟨rfl,hBW.trans (hB.out.mono hBW.size)⟩
    |true =>
    cases z4:ZH (h.bZ<=100) with
    |false =>
     obtain rfl:=bad.out fun H=>by have:=H.vot;simp only [Df] at z4;omega
     go_wp2;go_ret;exact⟨rfl,hBW.trans (hB.out.mono hBW.size)⟩
    |true =>
    go_wp2_with fail;refine (Y1.out _).mono ?_;rintro e w7 ⟨rfl,hb7⟩;have hB7:=hB.out.trans (hb7.mono hB.out.size);clear c5 c6 c7 c8;have c8:=K.out w7 hB7 8 _ rfl;have c9:=K.out w7 hB7 9 _ rfl;cases y1:CH.within h.start 100000 with
    |false =>obtain rfl:=bad.out fun H=>hw'.out _ y1 H.st;go_wp2;go_ret;exact⟨rfl,hBW.trans (hB7.mono hBW.size)⟩
    |true =>
    replace rY:=Aa (rY.out ⟨Gn z1,Gn z2⟩ ⟨Gn z3,Gn z4⟩ (hw.out _ y1));rcases (oM:h.stop = -1\/¬ h.stop = -1) with e9|e9;·obtain rfl:=rY.out (.inl e9);rw [e9] at c9;go_wp2;go_ret;exact⟨rfl,hBW.trans (hB7.mono hBW.size)⟩
    ·have r1:(h.stop==-1)=false:=by simpa using e9
     go_wp2_with fail;refine (Y2.out _).mono ?_;rintro e w8 ⟨rfl,hb8⟩;have hB8:=hB7.trans (hb8.mono hB7.size);clear c8 c9;have c8:=K.out w8 hB8 8 _ rfl;have c9:=K.out w8 hB8 9 _ rfl;cases y2:CH.within h.stop 100000 with
     |false =>obtain rfl:=bad.out fun H=>H.en.elim e9 fun q=>hw'.out _ y2 ⟨q.1,q.2.1⟩;go_wp2;go_ret;exact⟨rfl,hBW.trans (hB8.mono hBW.size)⟩
     |true =>
     cases r2:ZH (h.start<h.stop) with
     |false =>obtain rfl:=bad.out fun H=>H.en.elim e9 fun q=>of_decide_eq_false r2 q.2.2;go_wp2;go_ret;exact⟨rfl,hBW.trans (hB8.mono hBW.size)⟩
     |true =>obtain rfl:=rY.out (.inr ⟨(hw.out _ y2).1,(hw.out _ y2).2,Gn r2⟩);go_wp2;go_ret;exact⟨rfl,hBW.trans (hB8.mono hBW.size)⟩
end
section
open Go.Lib Go.Proofs.Tryz Go.RowKit Go.Shelf Go.Sort CH
attribute [local irreducible] wpQuiet
theorem Tj (h:aS) (vj:ZC) (g:Nat) (w:ZB) (hr:w.rangeAt g 0 (A5 h vj)) (hg:g<w.heap.size) (hv:Strs w w vj h.joint) (hL:qL h) : ZE prog 105 #[.slice (some ⟨g,0,none⟩) 1 1] w (Ret w (.bool (bD h))):=by
 have HRg:=fun (W:ZB) (hb:Below w w W)=>(show W.rangeAt g 0 (A5 h vj) from fun j u hj=>(hb.cell (p:=⟨g,0+j,none⟩) hg).trans (hr j u hj))
 have HV:=fun (W:ZB) (hb:Below w w W)=>(hv.below hb nR).mono hb.size;have PR:=Aa fun (W:ZB) (hb:Below w w W)=>Qp h vj W (HV W hb) hL;obtain⟨R,hR⟩:∃ R,bD h=R:=⟨_,rfl⟩
 rw [hR] at PR ⊢;have PA:=Aa fun (e:R=true) (W:ZB) (hb:Below w w W)=>Y6 h vj g W (HRg W hb) (Ai hg hb.size) (HV W hb) (Lk (hR.trans e)).j4;have SU:=Aa fun (e:R=true) (W:ZB) (hb:Below w w W)=>Ggv h vj g W (HRg W hb) (Ai hg hb.size) (HV W hb) ((Lk (hR.trans e)).en.imp id fun e=>e.2.2) (Lk (hR.trans e)).cap (Lk (hR.trans e)).vot;have FI:=Aa fun (W:ZB)=>Ggz (some ⟨g,0,none⟩) 1 h.id W;have HR:=Aa fun (W:ZB) (hb:Below w w W) (j:Nat) (u:ZC) (hj:(A5 h vj)[j]?=some u)=>(show W.cell? ⟨g,j,none⟩=some u from by have:=HRg W hb j u hj;rw [Bh] at this;exact this)
 obtain⟨_,_,rfl,_,_⟩:=hv.form;clear hv hr HRg HV hR hL;generalize h.joint.length=n1 at *;dsimp only [A5,ay,aJ] at *;go_enter func105,ntmps105;go_wp2_with fail;go_loopw [3] (fun iv wr=>(iv=.int .i64 0\/iv=.int .i64 1/\R=true)/\Hid (Below w w wr)) (fun iv _=>1 - (ZG iv).toNat);case atStart=>exact⟨.inl rfl,Aa (Ac _ _)⟩
 case round =>
  obtain⟨rfl|⟨rfl,rfl⟩,hB⟩:=hrel
  ·cases R;all_goals
    have x:=HR.out _ hB.out;have x0:=x 0 _ rfl;have x1:=x 1 _ rfl;have x2:=x 2 _ rfl;have x3:=x 3 _ rfl;have x4:=x 4 _ rfl;have x5:=x 5 _ rfl;have x6:=x 6 _ rfl;have x7:=x 7 _ rfl;have x8:=x 8 _ rfl;have x9:=x 9 _ rfl;have y0:=@Ae _ _ _ x0;have y1:=@Ae _ _ _ x1;have y2:=@Ae _ _ _ x2;have y3:=@Ae _ _ _ x3;have y4:=@Ae _ _ _ x4;have y5:=@Ae _ _ _ x5;have y6:=@Ae _ _ _ x6;have y7:=@Ae _ _ _ x7;have y8:=@Ae _ _ _ x8;have y9:=@Ae _ _ _ x9;have RR:=Aa fun (W':ZB) (hb':Below _ _ W')=>PR.out W' (hB.out.trans (hb'.mono hB.out.size));clear x;go_wp2_with fail;refine Ba kR kR ?_;repeat (quiet_step (first|(with_reducible exact Bg (RR.out _ (Dx _ _ _)))|(with_reducible exact Bg (FI.out _))))
    refine Cj ?_;intro wq hbq;replace hbq:=As hbq;clear y0 y1 y2 y3 y4 y5 y6 y7 y8 y9 x0 x1 x2 x3 x4 x5 x6 x7 x8 x9 RR;have hB2:=Aa (hB.out.trans (hbq.mono hB.out.size));first
     |(
       go_wp2
       go_ret
       exact⟨rfl,hB2.out⟩)
     |(
       go_wp2
       go_roundw
       case rel=>exact⟨.inr ⟨by go_num,by trivial⟩,hB2⟩
       case measure=>simp [ZG])
  ·go_wp2_with fail;refine (PA.out (by trivial) _ hB.out).mono ?_;rintro e w2 hP;obtain⟨v2,l2,a2,c2,rfl,rfl,hO2,hl2,hb2⟩:=J0 hP;have hB2:=hB.out.trans (hb2.mono hB.out.size);have q:ZH ((l2.length:Int)<=60)=true:=Ak oM;go_wp2_with fail;refine (SU.out (by trivial) _ hB2).mono ?_;rintro e w3 ⟨rfl,hb3⟩;go_wp2;go_ret;exact FD117
theorem Pla (h:aS) (vj:ZC) (g:Nat) (w:ZB) (hr:w.rangeAt g 0 (A5 h vj)) (hg:g<w.heap.size) (hv:Strs w w vj h.joint) (hh:bD h=true) : ZE prog 105 #[.slice (some ⟨g,0,none⟩) 1 1] w (Ret w (.bool true)):=by
 have H:=Lk hh;have n24:∀ s:List UInt8,CH.isName s=true->s.length<=4611686018427387904:=fun s e=>by have:=(Br e).2;omega
 have n0:∀ s:List UInt8,s=[]\/CH.isName s=true->s.length<=4611686018427387904:=fun s e=>by
  rcases e with e|e;·rw [e];simp
  ·exact n24 s e
 have:=Tj h vj g w hr hg hv ⟨n24 _ H.id,n24 _ H.company,n24 _ H.holder,n0 _ (H.nom.imp (fun e=>e) (fun e=>e.1)),n0 _ H.uY,fun x hx=>n24 x (H.jn x hx)⟩;rwa [hh] at this
end
end Go.Proofs.YtpkjhpenpfcpfaaGreatDoor
