/- Part 17. -/
import Derived.Test.YtajmjabodcmonaaGreatDoorP14
set_option linter.all false
set_option maxHeartbeats 40000000
set_option maxRecDepth 100000
open Go renaming World -> ZB, Value -> ZC, Calls -> ZE
open Go.RowKit renaming intOf -> ZG
open Decidable renaming decide -> ZH
open Go.Lib renaming itoa -> ZK
namespace Go.Proofs.Y
section
open Go.Lib Go.Proofs.Tryz Go.RowKit Go.Shelf Go.Sort CH
attribute [local irreducible] wpQuiet
variable {t:Q00}
theorem Ext (k:Nat):∀ (f:CH.Formula) (vk:ZC) (w:ZB),f.depth<=k->Ay w w f vk->f.count<=100000000->f.depth<=100000000 -> ZE prog 309 #[.agg (Ao f vk)] w (Ret w (.tuple #[↑f.count,↑f.depth])):=by
 induction k with
 |zero=>intro f vk w hk;exact absurd hk (by rw [Ex];omega)
 |succ k ih =>
  intro f vk w hk hK hc hd;obtain⟨ak,ck,rfl,hc1,hc2,hrow⟩:=hK.form;have hcount:=Uq f;have iU:=Ex f;have hlen:=K1 f.kids;obtain⟨R,hR⟩:∃ R,Hid (R=Ret w (.tuple #[↑f.count,↑f.depth])):=⟨_,Aa rfl⟩
  rw [<- hR.out];generalize hKN:f.kids.length=KN at *;dsimp only [Ao];have hB0:=Aa fun o=>(Ac _ w).alloc nR o;replace hrow:=Aa hrow;replace hKN:=Aa hKN;replace ih:=Aa ih;replace hcount:=Aa hcount;replace iU:=Aa iU;replace hc:=Aa hc;replace hd:=Aa hd;replace hk:=Aa hk;go_enter func309,ntmps309;go_wp2_with fail;have B:=hB0.out;generalize hWd:w.alloc _=W at *;have hBW:Below w w W:=by rw [<- hWd];exact B _
  have K:=Aa (Cp (C:=[↑f.op,↑f.name,↑f.cmp,↑f.n,.slice ak KN ck]) hWd);clear hWd hB0 B;go_loopw [4,5,6] (fun nv dv iv wr=>∃ (j a d:Nat),j<=KN/\iv=↑j/\nv=.int .i64 ((a:Int)+1)/\dv=↑d/\a<=100000000/\d<=100000000/\Hid (a=aK (f.kids.take j))/\Hid (d=aX (f.kids.take j))/\Hid (Below W W wr)) (fun _ _ iv _=>KN - (ZG iv).toNat);case atStart=>exact⟨0,0,0,Az _,rfl,rfl,rfl,oM,oM,Aa rfl,Aa rfl,Aa (Ac _ _)⟩
  case round =>
   obtain⟨j,a,d,hj,rfl,rfl,rfl,ha1,hd1,ha,hdp,hB⟩:=hrel;have c4:=K.out wr hB.out 4 _ rfl;by_cases hlt:j<KN
   ·obtain⟨x,hx⟩:∃ x,f.kids[j]?=some x:=⟨_,Ad (by rw [hKN.out];omega)⟩
    obtain⟨bb,off,rfl,hblt,hcs⟩:=hrow.out (fun e=>by have:=hKN.out;rw [e] at this;simp at this;omega);obtain⟨vx,x0,x1,x2,x3,x4,hkx⟩:=dw.get _ _ _ _ _ hcs hx;have hBw:Below w w wr:=hBW.trans (hB.out.mono hBW.size);have hcl:=fun o=>hBw.cell (p:=⟨bb,o,none⟩) hblt;have e0:=(hcl _).trans x0;have e1:=(hcl _).trans x1;have e2:=(hcl _).trans x2;have e3:=(hcl _).trans x3;have e4:=(hcl _).trans x4;have hmem:x∈f.kids:=Ap hx;have hdx:=K6 hmem;have hcx:=Rp hmem;have hts:f.kids.take (j+1)=f.kids.take j++[x]:=aI f.kids j x hx;have hcm:aK (f.kids.take (j+1))<=aK f.kids:=by have h2:=Hh (f.kids.take (j+1)) (f.kids.drop (j+1));rw [D8] at h2;omega
    have hct:aK (f.kids.take (j+1))=a+x.count:=by rw [hts,Hh,<- ha.out];simp [aK]
    have hdt:aX (f.kids.take (j+1))=max d x.depth:=by rw [hts,Ms,<- hdp.out];simp [aX]
    have IH:=Aa (ih.out x vx wr (by have:=hk.out;have:=iU.out;omega) (Ay.mono hBw.size _ _ (Ay.below hBw nR _ _ hkx)) (by have:=hc.out;have:=hcount.out;omega) (by have:=hd.out;have:=iU.out;omega));have ba:a+x.count<=100000000:=by have:=hc.out;have:=hcount.out;omega
    have bd:max d x.depth<=100000000:=by have:=hd.out;have:=iU.out;omega
    obtain⟨ax,cx,rfl,_,_,_⟩:=hkx.form;dsimp only [Ao] at IH;generalize x.kids.length=xn at *;generalize x.count=xc at *;generalize x.depth=xd at *;have z0:(0:Int)<=(j:Int):=oM;have zk:((j:Int)).toNat=j:=oM;have hk':(j:Int)<(KN:Int):=oM;replace hct:=Aa hct.symm;replace hdt:=Aa hdt.symm;clear x0 x1 x2 x3 x4 hcl hcs hkx hmem hts hx hdx hcx hcm ha hdp hBw;go_wp2_with fail;refine CmZ IH.out fun w2 hb2=>?_;have hB2:=Aa (hB.out.trans (hb2.mono hB.out.size));clear IH hb2 e0 e1 e2 e3 e4 c4 hB;go_wp2;go_roundw;case rel=>exact⟨j+1,a+xc,max d xd,oM,by go_num,by go_num,by go_num,ba,bd,hct,hdt,hB2⟩
    case measure=>simp [ZG];omega
   ·obtain rfl:j=KN:=oM;have hda:f.kids.take j=f.kids:=Bz (by rw [hKN.out];exact Bg _);rw [hda] at ha hdp;have r1:((f.count:Nat):Int)=(a:Int)+1:=by have:=hcount.out;have:=ha.out;omega
    have r2:((f.depth:Nat):Int)=(d:Int)+1:=by have:=iU.out;have:=hdp.out;omega
    rw [r1,r2] at hR;clear r1 r2 hda ha hdp;go_wp2;rw [hR.out];exact⟨rfl,hBW.trans (hB.out.mono hBW.size)⟩
theorem Qz (f:CH.Formula) (vk:ZC) (w:ZB) (hK:Ay w w f vk) (hc:f.count<=100000000) (hd:f.depth<=100000000) : ZE prog 265 #[.agg (Ao f vk)] w (Ret w (.bool (ZH (f.count > 200)||ZH (f.depth > 20)))):=by
 have hB0:=Aa fun o=>(Ac _ w).alloc nR o;have S:=Aa fun (W:ZB) (hb:Below w w W)=>Ext f.depth f vk W nR (Ay.mono hb.size _ _ (Ay.below hb nR _ _ hK)) hc hd;obtain⟨ak,ck,rfl,hc1,hc2,_⟩:=hK.form;clear hK;generalize f.kids.length=KN at *;dsimp only [Ao] at S ⊢;generalize f.count=cc at *;generalize f.depth=dd at *;have hr:(ZH (cc > 200)||ZH (dd > 20))=(ZH ((200:Int)<(cc:Int))||ZH ((20:Int)<(dd:Int))):=by rw [Es];simp only [Ec,Bq];omega
 rw [hr];clear hr hc hd;go_enter func265,ntmps265;go_wp2_with fail;refine CmZ (S.out _ (hB0.out _)) fun w1 hb1=>?_;have hB1:=(hB0.out _).trans (hb1.mono (hB0.out _).size);clear S hB0;cases d1:ZH ((200:Int)<(cc:Int)) <;> cases d2:ZH ((20:Int)<(dd:Int)) <;>
  (go_wp2
   go_ret
   exact⟨by first|rfl|(rw [d1];rfl)|(rw [d1,d2];rfl),hB1⟩)
theorem E4a (f:CH.Formula) (vk:ZC) (w:ZB) (hK:Ay w w f vk) (hc:f.count<=200) (hd:f.depth<=20) : ZE prog 265 #[.agg (Ao f vk)] w (Ret w (.bool false)):=by have:=Qz f vk w hK oM oM;rwa [Ak oM,Ak oM] at this
theorem Xz {op cmp n:Int} {name:Q00} {k:Nat} (h:op=3):fM op name cmp n k=(ZH ((1:Int)<=cmp)&&(ZH (cmp<=6)&&(((k:Int)==0)&&(CH.isName name&&!CH.isKey name)))):=by unfold fM;rw [Au h,ng,show (k==0)=((k:Int)==0) from by rw [Es];simp];generalize CH.isName name=b1;generalize CH.isKey name=b2;cases ZH (1<=cmp) <;> cases ZH (cmp<=6) <;> cases ((k:Int)==0) <;> rfl
theorem Lbh {op cmp n:Int} {name:Q00} {k:Nat} (h:¬ op=3) (hz:name≠[]\/cmp≠0\/n≠0):fM op name cmp n k=false:=by
 unfold fM;rw [Ai h,Au];simp only [Ec,bne_iff_ne];rcases hz with h|h|h;·exact .inl (.inl h)
 ·exact .inl (.inr h)
 ·exact .inr h
theorem Vq (f:CH.Formula) (ak:Option Addr) (ck:Nat) (w:ZB) (hi:f.name.length<=9223372036854775807) : ZE prog 310 #[.agg (Ao f (.slice ak f.kids.length ck))] w (Ret w (.bool (fM f.op f.name f.cmp f.n f.kids.length))):=by
 have hB0:=Aa fun o=>(Ac _ w).alloc nR o;have T1:=Aa fun (W:ZB)=>Ff f.name W hi;have T2:=Aa fun (W:ZB)=>Hwl f.name W;dsimp only [Ao];generalize f.kids.length=KN at *;generalize f.name=nm at *;generalize f.op=op at *;generalize f.cmp=cp at *;generalize f.n=nn at *;clear hi;obtain⟨R,hR⟩:∃ R,fM op nm cp nn KN=R:=⟨_,rfl⟩
 rw [hR];have hz:(¬ nm=[]/\(nm==[])=false/\nm.isEmpty=false/\((⟨nm.toArray⟩:ByteArray)==⟨#[]⟩)=false)\/nm=[]/\((cp==0)=false\/cp=0/\((nn==0)=false\/nn=0)):=by
  by_cases h:nm=[]
  ·refine .inr ⟨h,?_⟩;simp only [Cb,ne_eq];omega
  ·have h1:(nm==[])=false:=Cb.2 h;exact .inl ⟨h,h1,List.isEmpty_eq_false_iff.2 h,(Iv h1).1⟩
 by_cases h3:op=3
 ·rw [Xz h3] at hR;subst h3;rcases hz with⟨z1,z2,z3,z4⟩|⟨rfl,z|⟨rfl,z|rfl⟩⟩;rotate_left
  ·have hr:R=false:=by rw [<- hR,show CH.isName []=false from rfl];simp
   replace hr:=Aa hr;replace T1:=Aa T1.out;rw [show CH.isName []=false from rfl] at T1;clear hR T2;cases d1:ZH ((1:Int)<=cp);·go_enter func310,ntmps310;exact FD45
   cases d2:ZH (cp<=6);·go_enter func310,ntmps310;exact FD45
   cases d3:((KN:Int)==0)
   ·go_enter func310,ntmps310;exact FD45
   go_enter func310,ntmps310;go_wp2_with fail;refine CmZ (T1.out _) fun w1 hb1=>?_;have hB1:=(hB0.out _).trans (hb1.mono (hB0.out _).size);clear T1 hB0;go_wp2;go_ret;exact⟨by rw [hr.out];rfl,hB1⟩
  ·exact FD34
  ·exact FD34
  generalize CH.isName nm=b1 at *;generalize CH.isKey nm=b2 at *;cases d1:ZH ((1:Int)<=cp);·rw [d1] at hR;exact FD34
  cases d2:ZH (cp<=6);·rw [d1,d2] at hR;exact FD34
  cases d3:((KN:Int)==0)
  ·rw [d1,d2,d3] at hR;exact FD34
  rw [d1,d2,d3] at hR;replace hR:=Aa hR;go_enter func310,ntmps310;go_wp2_with fail;have B:=hB0.out;generalize hWd:w.alloc _=W at *;have hBW:Below w w W:=by rw [<- hWd];exact B _
  have K:=Aa (Cp (C:=[.int .i64 3,↑nm,↑cp,↑nn,.slice ak KN ck]) hWd);clear hWd hB0 B;refine CmZ (T1.out _) fun w1 hb1=>?_;have c1:=K.out w1 hb1 1 _ rfl;have hB1:=hBW.trans (hb1.mono hBW.size);clear T1;cases b1;·go_wp2;go_ret;exact⟨by rw [<- hR.out];rfl,hB1⟩
  go_wp2_with fail;refine CmZ (T2.out _) fun w2 hb2=>?_;have hB2:=hB1.trans (hb2.mono hB1.size);clear T2;cases b2 <;>
   (go_wp2
    go_ret
    exact⟨by rw [<- hR.out];rfl,hB2⟩)
 ·clear T1 T2;have hop:op=1\/op=2\/op=4\/op=5\/op=6\/((op==1)=false/\(op==2)=false/\(op==3)=false)/\(op==4)=false/\(op==5)=false/\(op==6)=false:=by simp only [Cb,ne_eq];omega
  have hfalse:=@Lbh op cp nn nm KN h3;rw [hR] at hfalse;rcases hz with⟨z1,z2,z3,z4⟩|⟨rfl,z|⟨rfl,z|rfl⟩⟩;·have hr:=Aa (hfalse (.inl z1));exact FD36
  ·have hr:=Aa (hfalse (.inr (.inl (Cb.1 z))));exact FD36
  ·have hr:=Aa (hfalse (.inr (.inr (Cb.1 z))));exact FD36
  ·clear hfalse;unfold fM at hR;rw [Ai h3,Ai sM] at hR;have hn:KN=0\/KN=1\/((((KN:Int)==0)=false/\(KN==0)=false)/\(((KN:Int)==1)=false/\(KN==1)=false)/\ZH ((2:Int)<=(KN:Int))=true/\ZH (2<=KN)=true):=by simp only [Cb,ne_eq,Bq];omega
   have hop2:((op=1\/op=2)/\R=(KN==0))\/(op=4/\R=(KN==1))\/((op=5\/op=6)/\R=ZH (2<=KN))\/(((op==1)=false/\(op==2)=false/\(op==3)=false)/\(op==4)=false/\(op==5)=false/\(op==6)=false)/\R=false:=by
    rcases hop with rfl|rfl|rfl|rfl|rfl|⟨⟨k1,k2,k3⟩,k4,k5,k6⟩;·exact .inl ⟨.inl rfl,hR.symm⟩
    ·exact .inl ⟨.inr rfl,hR.symm⟩
    ·exact .inr (.inl ⟨rfl,hR.symm⟩)
    ·exact .inr (.inr (.inl ⟨.inl rfl,hR.symm⟩))
    ·exact .inr (.inr (.inl ⟨.inr rfl,hR.symm⟩))
    ·refine .inr (.inr (.inr ⟨⟨⟨k1,k2,k3⟩,k4,k5,k6⟩,?_⟩));rw [<- hR,Ai (by rw [Lu];exact⟨Cb.1 k1,Cb.1 k2⟩),Ai (Cb.1 k4),k5,k6];rfl
   clear hR hop;rcases hop2 with⟨rfl|rfl,hr⟩|⟨rfl,hr⟩|⟨rfl|rfl,hr⟩|⟨⟨⟨k1,k2,k3⟩,k4,k5,k6⟩,hr⟩ <;> rcases hn with rfl|rfl|⟨⟨n0,n1⟩,⟨n2,n3⟩,n4,n5⟩;all_goals
    first
    |rw [n1] at hr
    |rw [n3] at hr
    |rw [n5] at hr
    |skip
    replace hr:=Aa hr;go_enter func310,ntmps310;go_wp2;go_ret;exact⟨by rw [hr.out];rfl,hB0.out _⟩
theorem Fri:∀ {l:List CH.Formula},(∀ x∈l,x.ok=true)->eP l=true
 |[],_=>rfl
 |f::l,h=>by
  show (f.ok&&eP l)=true
  rw [h f sM,Fri fun x hx=>h x (Gm _ hx)]
  rfl
theorem S4 (k:Nat):∀ (f:CH.Formula) (vk:ZC) (w:ZB),f.depth<=k->Ay w w f vk->Cy f -> ZE prog 266 #[.agg (Ao f vk)] w (Ret w (.bool f.ok)):=by
 induction k with
 |zero=>intro f vk w hk;exact absurd hk (by rw [Ex];omega)
 |succ k ih =>
  intro f vk w hk hK hS;obtain⟨ak,ck,rfl,hc1,hc2,hrow⟩:=hK.form;have iU:=Ex f;obtain⟨R,hR⟩:∃ R,f.ok=R:=⟨_,rfl⟩
  have hok:=Ipw f;rw [hR] at hok ⊢;have F:=fun (W:ZB)=>Vq f ak ck W (by have:=hS.name;omega);have hq:f.op=3->fM f.op f.name f.cmp f.n f.kids.length=true->CH.isKey f.name=false:=fun e h=>by rw [Xz e] at h;simp only [Ba,F9] at h;exact h.2.2.2.2
  generalize fM f.op f.name f.cmp f.n f.kids.length=bn at *;have hcase:bn=false\/(bn=true/\((f.op==3)=true/\(ZH (f.n<0)=true\/ZH (f.n<0)=false/\ZH (1000000<f.n)=true)))\/(bn=true/\R=eP f.kids)/\((f.op==3)=false\/(f.op==3)=true/\ZH (f.n<0)=false/\ZH (1000000<f.n)=false):=by
   cases bn with
   |false=>exact .inl rfl
   |true =>
    cases h3:(f.op==3) with
    |false =>rw [h3] at hok;exact .inr (.inr ⟨⟨rfl,by simpa using hok⟩,.inl rfl⟩)
    |true =>
     rw [h3,hq (eq_of_beq h3) rfl,show ZH (f.n > 1000000)=ZH (1000000<f.n) from rfl] at hok;cases d1:ZH (f.n<0) with
     |true=>exact .inr (.inl ⟨rfl,rfl,.inl rfl⟩)
     |false =>
      cases d2:ZH (1000000<f.n) with
      |true=>exact .inr (.inl ⟨rfl,rfl,.inr ⟨rfl,rfl⟩⟩)
      |false =>rw [d1,d2] at hok;exact .inr (.inr ⟨⟨rfl,by simpa using hok⟩,.inr ⟨rfl,rfl,rfl⟩⟩)
  have hbad:(bn=false\/(bn=true/\((f.op==3)=true/\(ZH (f.n<0)=true\/ZH (f.n<0)=false/\ZH (1000000<f.n)=true))))->R=false:=fun h=>by
   rw [hok];rcases h with h|⟨h,h3,h4|⟨h5,h4⟩⟩;·rw [h];rfl
   ·rw [h,h3,h4];rfl
   ·rw [h,h3,h5,show ZH (f.n > 1000000)=ZH (1000000<f.n) from rfl,h4];rfl
  clear hok hq;generalize hKN:f.kids.length=KN at *;dsimp only [Ao] at F ⊢;have hB0:=Aa fun o=>(Ac _ w).alloc nR o;replace hrow:=Aa hrow;replace hKN:=Aa hKN;replace ih:=Aa ih;replace iU:=Aa iU;replace hk:=Aa hk;replace F:=Aa F;clear hK;rcases hcase with h|h|⟨⟨h,hall⟩,hcase⟩;·have hr:=Aa (hbad (.inl h));subst h;clear hbad;go_enter func266,ntmps266;go_wp2_with fail;refine CmZ (F.out _) fun w1 hb1=>?_;go_wp2;go_ret;exact⟨by rw [hr.out];rfl,(hB0.out _).trans (hb1.mono (hB0.out _).size)⟩
  ·have hr:=Aa (hbad (.inr h));obtain⟨h,q3,q4⟩:=h;subst h;clear hbad;rcases q4 with q4|⟨q4,q5⟩ <;>
    (go_enter func266,ntmps266
     go_wp2_with fail
     have B:=hB0.out
     generalize hWd:w.alloc _=W at *
     have hBW:Below w w W:=by rw [<- hWd];exact B _
     have K:=Aa (Cp (C:=[↑f.op,↑f.name,↑f.cmp,↑f.n,.slice ak KN ck]) hWd)
     clear hWd hB0 B
     refine CmZ (F.out _) fun w1 hb1=>?_
     have c0:=K.out w1 hb1 0 _ rfl
     have c3:=K.out w1 hb1 3 _ rfl
     go_wp2
     go_ret
     exact⟨by rw [hr.out];rfl,hBW.trans (hb1.mono hBW.size)⟩)
  ·subst h;have HF:=Aa fun (x:CH.Formula) (hx:x∈f.kids) (h:x.ok=false)=>(by rw [hall,<- Gz];intro e;rw [Re e hx] at h;exact Bool.noConfusion h:R=false)
   have HE:=Aa fun (h:∀ j x,j<KN->f.kids[j]?=some x->x.ok=true)=>(by rw [hall];exact Fri fun x hx=>(Dj.1 hx).elim fun k hk=>h k x (by have:=(lS hk);have:=hKN.out;omega) hk:R=true)
   clear hbad hall;have hSk:=Aa hS.kids;clear hS;rcases hcase with q3|⟨q3,q4,q5⟩;all_goals
    go_enter func266,ntmps266;go_wp2_with fail;have B:=hB0.out;generalize hWd:w.alloc _=W at *;have hBW:Below w w W:=by rw [<- hWd];exact B _
    have K:=Aa (Cp (C:=[↑f.op,↑f.name,↑f.cmp,↑f.n,.slice ak KN ck]) hWd);clear hWd hB0 B;refine CmZ (F.out _) fun w1 hb1=>?_;have c0:=K.out w1 hb1 0 _ rfl;have c3:=K.out w1 hb1 3 _ rfl;have hb1:=Aa hb1;go_wp2_with fail;go_loopw [3] (fun iv wr=>∃ j:Nat,j<=KN/\iv=↑j/\Hid (∀ i x,i<j->f.kids[i]?=some x->x.ok=true)/\Hid (Below W W wr)) (fun iv _=>KN - (ZG iv).toNat);case atStart=>exact⟨0,Az _,rfl,Aa fun i x h=>absurd h (Nat.not_lt_zero _),hb1⟩
    case round =>
     obtain⟨j,hj,rfl,hT,hB⟩:=hrel;have c4:=K.out wr hB.out 4 _ rfl;by_cases hlt:j<KN
     ·obtain⟨x,hx⟩:∃ x,f.kids[j]?=some x:=⟨_,Ad (by rw [hKN.out];omega)⟩
      obtain⟨bb,off,rfl,hblt,hcs⟩:=hrow.out (fun e=>by have:=hKN.out;rw [e] at this;simp at this;omega);obtain⟨vx,x0,x1,x2,x3,x4,hkx⟩:=dw.get _ _ _ _ _ hcs hx;have hBw:Below w w wr:=hBW.trans (hB.out.mono hBW.size);have hcl:=fun o=>hBw.cell (p:=⟨bb,o,none⟩) hblt;have e0:=(hcl _).trans x0;have e1:=(hcl _).trans x1;have e2:=(hcl _).trans x2;have e3:=(hcl _).trans x3;have e4:=(hcl _).trans x4;have hmem:x∈f.kids:=Ap hx;have hdx:=K6 hmem;have IH:=ih.out x vx wr (by have:=hk.out;have:=iU.out;omega) (Ay.mono hBw.size _ _ (Ay.below hBw nR _ _ hkx)) (hSk.out.mem hmem);obtain⟨ax,cx,rfl,_,_,_⟩:=hkx.form;dsimp only [Ao] at IH;generalize x.kids.length=xn at *;have z0:(0:Int)<=(j:Int):=oM;have zk:((j:Int)).toNat=j:=oM;have hk':(j:Int)<(KN:Int):=oM;have HFx:=Aa (HF.out x hmem);have Hx:=Aa hx;clear x0 x1 x2 x3 x4 hcl hcs hkx hmem hx hdx hBw;cases hb:x.ok with
      |false =>rw [hb] at IH;replace IH:=Aa IH;have hr:=Aa (HFx.out hb);go_wp2_with fail;refine CmZ IH.out fun w2 hb2=>?_;have hB2:=hB.out.trans (hb2.mono hB.out.size);clear IH hb2 e0 e1 e2 e3 e4 c4 hB;go_wp2;go_ret;exact⟨by rw [hr.out];rfl,hBW.trans (hB2.mono hBW.size)⟩
      |true =>
       rw [hb] at IH;replace IH:=Aa IH;have hT1:Hid (∀ i y,i<j+1->f.kids[i]?=some y->y.ok=true):=Aa fun i y hi hy=>by
        by_cases e:i=j;·subst e;cases Hx.out.symm.trans hy;exact hb
        ·exact hT.out i y oM hy
       go_wp2_with fail;refine CmZ IH.out fun w2 hb2=>?_;have hB2:=Aa (hB.out.trans (hb2.mono hB.out.size));clear IH hb2 e0 e1 e2 e3 e4 c4 hB;go_wp2;go_roundw;case rel=>exact⟨j+1,oM,by go_num,hT1,hB2⟩
       case measure=>simp [ZG];omega
     ·obtain rfl:j=KN:=oM;have hr:=Aa (HE.out hT.out);go_wp2;go_ret;exact⟨by rw [hr.out];rfl,hBW.trans (hB.out.mono hBW.size)⟩
theorem Xl (k:Nat) (f:CH.Formula) (vk:ZC) (w:ZB) (hk:f.depth<=k) (hK:Ay w w f vk) (hS:Cy f) (h:f.ok=true) : ZE prog 266 #[.agg (Ao f vk)] w (Ret w (.bool true)):=by have:=S4 k f vk w hk hK hS;rwa [h] at this
theorem Zs {P:Program} {md:Region.Mode} {ops:Array Oper} {Q:Exit->Act->ZB->Prop} {S S':ZB->Prop} (hS:∀ w,S' w->S w) :
  ∀ (fuel:Nat) (jz:Array Bool) (a:Act) (w:ZB),wpAnyH P md ops Q S' fuel jz a w->wpAnyH P md ops Q S fuel jz a w
 |0,_,_,_,h=>h
 |fuel+1,_,_,_,h=>⟨h.1,fun i hi=>wpOp_mono (fun a' w' h'=>⟨hS _ h'.1,Zs hS fuel _ a' w' h'.2⟩) (h.2 i hi)⟩
def I59:List Q00:=[[],[61],[33,61],[60],[60,61],[62],[62,61]]
def Rob (w:ZB) (e:Ending) (w':ZB):Prop:=Below w.heap.size w w'/\∃ g,e=.returned (.slice (some ⟨g,0,none⟩) 7 7)/\w.heap.size<=g/\∀ k l,I59[k]?=some l->w'.cell? ⟨g,k,none⟩=some (.string ⟨l.toArray⟩)
theorem Hw1 (w:ZB):ZE prog 311 #[] w (Rob w):=by
 have hB0:=fun o=>(Ac _ w).alloc nR o;go_enter func311,ntmps311;go_wp2;go_ret;refine⟨hB0 _,_,rfl,Bg _,fun k l hk=>?_⟩;rw [Cj _ _ _ _ rfl];match k,hk with
 |0,hk|1,hk|2,hk|3,hk|4,hk|5,hk|6,hk=>cases hk;rfl
theorem Rep (c:Int) (h1:1<=c) (h6:c<=6):I59[c.toNat]?=some (gI c)/\(gI c).length<=2:=by rcases (oM:c=1\/c=2\/c=3\/c=4\/c=5\/c=6) with rfl|rfl|rfl|rfl|rfl|rfl <;> exact⟨rfl,dC⟩
theorem Hsm (f:CH.Formula) (ak:Option Addr) (nk ck:Nat) (w:ZB) (h3:f.op=3) (hc1:1<=f.cmp) (hc6:f.cmp<=6) (hn0:0<=f.n) (hn1:f.n<=1000000) (hname:f.name.length<=20000) : ZE prog 267 #[.agg (Ao f (.slice ak nk ck))] w (Ret w ↑f.text):=by
 have hres:Hid (f.name++[32]++gI f.cmp++[32]++Go.Lib.itoa f.n=f.text):=Aa (by rw [text_eq,Ai oM,Ai oM,Au h3]);have hil:=Lib.itoa_length_le f.n oM oM;have D:=Aa fun (W:ZB)=>De f.n W hn0 oM;have hB0:=Aa fun o=>(Ac _ w).alloc nR o;obtain⟨hca,hcl⟩:=Rep f.cmp hc1 hc6;have C:=Aa fun (W:ZB)=>Hw1 W;generalize f.text=R at *;dsimp only [Ao];rw [h3];clear h3;obtain⟨c,hc⟩:∃ c:Nat,f.cmp=c:=⟨f.cmp.toNat,oM⟩
 have hc7:c<7:=oM;generalize gI f.cmp=cw at *;rw [hc] at *;rw [Int.toNat_natCast] at hca;generalize ZK f.n=nt at *;generalize f.name=nm at *;generalize f.n=n at *;have z0:(0:Int)<=(c:Int):=oM;have zk:((c:Int)).toNat=c:=oM;have z7:(c:Int)<7:=oM;have hq1:¬ 9223372036854775807<nm.length+1:=oM;have hq2:¬ 9223372036854775807<nm.length+1+cw.length:=oM;have hq3:¬ 9223372036854775807<nm.length+1+cw.length+1:=oM;have hq4:¬ 9223372036854775807<nm.length+1+cw.length+1+nt.length:=oM;replace hca:=Aa hca;clear hc hc1 hc6 hc7 hn0 hn1 hname hil hcl;go_enter func267,ntmps267;go_wp2_with fail;have B:=hB0.out;generalize hWd:w.alloc _=W at *;have hBW:Below w w W:=by rw [<- hWd];exact B _
 have K:=Aa (Cp (C:=[.int .i64 3,↑nm,↑c,↑n,.slice ak nk ck]) hWd);clear hWd hB0 B;have hD:Below W W W.drew:=(Ac _ W).drew;refine Ed (S:=fun W'=>Below W W W') kR hD fun kz=>?_;refine tj 0 ?_;push_cast;refine tk 1 (v:=?_) rfl rF kz ?_ ?_;rotate_left;·(intro w hSw;have q:=K.out w hSw 1 _ rfl;go_simp;try with_reducible rfl)
 push_cast;refine tj 2 ?_;push_cast;refine tj 4 ?_;push_cast;refine tk 5 (v:=?_) rfl rF kz ?_ ?_;rotate_left;·(intro w hSw;have q:=K.out w hSw 2 _ rfl;go_simp;try with_reducible rfl)
 push_cast;refine tj 10 ?_;push_cast;refine tk 11 (v:=?_) rfl rF kz ?_ ?_;rotate_left;·(intro w hSw;have q:=K.out w hSw 3 _ rfl;go_simp;try with_reducible rfl)
 push_cast;refine rk 3 rfl fun K hK=>?_;go_simp;refine (C.out _).mono ?_;rintro e w2 ⟨hb2,g,rfl,hg,hcell⟩;have hE:Below W W w2:=hD.trans (hb2.mono hD.size);have hgc:=hcell c cw hca.out;go_wp2_with fail;refine hK.out _ _ hE fun _=>?_;clear hK kz hcell;refine Zs (S':=fun W'=>Below W W W'/\W'.cell? ⟨g,c,none⟩=some ↑cw) (fun _ h=>h.1) _ _ _ _ ?_;have kz:Below W W w2/\w2.cell? ⟨g,c,none⟩=some ↑cw:=⟨hE,hgc⟩
 push_cast;refine tj 6 ?_;push_cast;refine tk 7 (v:=?_) rfl rF kz ?_ ?_;rotate_left;·(intro w hSw;have q:=hSw.2;go_simp;try with_reducible rfl)
 push_cast;refine tj 8 ?_;push_cast;refine tj 9 ?_;push_cast;refine rk 12 rfl fun K hK=>?_;go_simp;refine CmZ (D.out _) fun w3 hb3=>?_;have hF:Below W W w3:=hE.trans (hb3.mono hE.size);have hgl:g<w2.heap.size:=by
  by_cases h:g<w2.heap.size;·exact h
  ·rw [World.cell?,Lp (by show _<=g;omega)] at hgc;cases hgc
 have hgd:=(hb3.cell (p:=⟨g,c,none⟩) hgl).trans hgc;go_wp2_with fail;refine hK.out _ _ ⟨hF,hgd⟩ fun _=>?_;clear hK kz;have kz:Below W W w3/\w3.cell? ⟨g,c,none⟩=some ↑cw:=⟨hF,hgd⟩
 push_cast;refine tj 13 ?_;push_cast;refine tj 14 ?_;push_cast;refine Dy kR ?_ _;have hfin:(⟨nm.toArray⟩:ByteArray)++⟨#[32]⟩++⟨cw.toArray⟩++⟨#[32]⟩++⟨nt.toArray⟩=⟨R.toArray⟩:=by rw [show (⟨#[32]⟩:ByteArray)=⟨([32]:Q00).toArray⟩ from rfl,bytes_append,bytes_append,bytes_append,bytes_append,hres.out]
 go_wp2;go_ret;exact⟨by first|rfl|rw [hfin];rfl,hBW.trans (hF.mono hBW.size)⟩
def vO (op:Int):Q00:=if op=5 then ([32,97,110,100,32]:Q00) else ([32,111,114,32]:Q00)
def pK (op:Int) (kts:List Q00):Q00:=if op=4 then (match kts with|[]=>[]|x::_=>([110,111,116,32]:Q00)++x) else CH.join (vO op) kts
def Clz (op:Int) (j:Nat) (t:Q00):Q00:=if (op==4)=true then ([110,111,116,32]:Q00)++t else if 0<j then (if (op==5)=true then ([32,97,110,100,32]:Q00)++t else ([32,111,114,32]:Q00)++t) else t
theorem Mar (op:Int) (kts:List Q00) (t:Q00) (h:op=4->kts=[]):pK op (kts++[t])=pK op kts++Clz op kts.length t:=by
 unfold pK Clz vO;by_cases h4:op=4;·subst h4;rw [h rfl];rfl
 ·have b4:(op==4)=false:=by simpa using h4
  rw [b4];simp only [Ai h4,Ic,Le];rw [M5];cases kts with
  |nil=>simp [CH.join]
  |cons x l =>
   by_cases h5:op=5;·subst h5;simp
   ·have b5:(op==5)=false:=by simpa using h5
    rw [b5];simp [h5]
theorem Our (op:Int) (l r:List Q00) (h:op=4->(l++r).length<=1):(pK op l).length<=(pK op (l++r)).length:=by
 unfold pK;by_cases h4:op=4
 ·rw [Au h4,Au h4];cases l with
  |nil=>exact Az _
  |cons x l=>exact Bg _
 ·rw [Ai h4,Ai h4];exact Pc _ _ _
theorem Mon {f:CH.Formula} (h:f.op=4/\f.kids.length=1\/f.op=5\/f.op=6):f.text=pK f.op (f.kids.map (A4 f.op)):=by
 rw [text_eq];unfold pK vO;rcases h with⟨e,e1⟩|e|e
 ·rw [Ai oM,Ai oM,Ai oM,Au e,Au e];cases hk:f.kids with
  |nil=>rw [hk] at e1;simp at e1
  |cons x l=>rfl
 ·rw [Ai oM,Ai oM,Ai oM,Ai oM,Au e,Ai oM,Au e]
 ·rw [Ai oM,Ai oM,Ai oM,Ai oM,Ai oM,Ai oM,Ai oM]
theorem Big (f:CH.Formula) (ak:Option Addr) (nk ck:Nat) (w:ZB) (h:f.op=1\/f.op=2) : ZE prog 267 #[.agg (Ao f (.slice ak nk ck))] w (Ret w ↑f.text):=by
 have ht:=text_eq f;have hB0:=Aa fun o=>(Ac _ w).alloc nR o;generalize f.text=R at *;dsimp only [Ao];rcases h with h|h;·rw [h] at ht ⊢;replace ht:R=([116,114,117,101]:Q00):=ht;subst ht;go_enter func267,ntmps267;exact FD121
 ·rw [h] at ht ⊢;replace ht:R=([102,97,108,115,101]:Q00):=ht;subst ht;go_enter func267,ntmps267;exact FD121
theorem P8 (f:CH.Formula) (vk:ZC) (w:ZB) (hK:Ay w w f vk) (hop:f.op=4/\f.kids.length=1\/f.op=5\/f.op=6) (hlen:f.text.length<=3000000000) (IH0:∀ x∈f.kids,∀ (vx:ZC) (W:ZB),Ay W W x vx->ZE prog 267 #[.agg (Ao x vx)] W (Ret W ↑x.text)) (hx0:∀ x∈f.kids,x.text.length<=3000000000) : ZE prog 267 #[.agg (Ao f vk)] w (Ret w ↑f.text):=by
 have hta:=Mon hop;have HL:=Aa fun (j:Nat)=>(show (pK f.op ((f.kids.take j).map (A4 f.op))).length<=3000000000 from by have h1:=Our f.op ((f.kids.take j).map (A4 f.op)) ((f.kids.drop j).map (A4 f.op)) (fun h4=>by rw [<- Ep,D8,Bh];omega);rw [<- Ep,D8,<- hta] at h1;omega)
 obtain⟨R,hR⟩:∃ R,f.text=R:=⟨_,rfl⟩
 rw [hR] at hta ⊢;obtain⟨ak,ck,rfl,hc1,hc2,hrow⟩:=hK.form;generalize hKN:f.kids.length=KN at *;dsimp only [Ao];have hB0:=Aa fun o=>(Ac _ w).alloc nR o;replace hrow:=Aa hrow;replace hKN:=Aa hKN;replace hta:=Aa hta;replace IH0:=Aa IH0;replace hx0:=Aa hx0;have h1:(f.op==1)=false:=by simp;omega
 have h2:(f.op==2)=false:=by simp;omega
 have h3:(f.op==3)=false:=by simp;omega
 clear hK hR hlen;go_enter func267,ntmps267;go_wp2_with fail;have B:=hB0.out;generalize hWd:w.alloc _=W at *;have hBW:Below w w W:=by rw [<- hWd];exact B _
 have K:=Aa (Cp (C:=[↑f.op,↑f.name,↑f.cmp,↑f.n,.slice ak KN ck]) hWd);clear hWd hB0 B;go_loopw [3,4] (fun sv iv wr=>∃ (j:Nat) (t:Q00),j<=KN/\iv=↑j/\sv=↑t/\t.length<=3000000000/\Hid (t=pK f.op ((f.kids.take j).map (A4 f.op)))/\Hid (Below W W wr)) (fun _ iv _=>KN - (ZG iv).toNat);case atStart=>exact⟨0,[],Az _,rfl,rfl,sM,Aa (by rw [H6];unfold pK;simp [CH.join]),hid (Below.refl _ _)⟩
 case round =>
  obtain⟨j,t,hj,rfl,rfl,htl,ht,hB⟩:=hrel;have c4:=K.out wr hB.out 4 _ rfl;by_cases hlt:j<KN
  ·obtain⟨x,hx⟩:∃ x,f.kids[j]?=some x:=⟨_,Ad (by rw [hKN.out];omega)⟩
   obtain⟨bb,off,rfl,hblt,hcs⟩:=hrow.out (fun e=>by have:=hKN.out;rw [e] at this;simp at this;omega);obtain⟨vx,x0,x1,x2,x3,x4,hkx⟩:=dw.get _ _ _ _ _ hcs hx;have hBw:Below w w wr:=hBW.trans (hB.out.mono hBW.size);have hcl:=fun o=>hBw.cell (p:=⟨bb,o,none⟩) hblt;have e0:=(hcl _).trans x0;have e1:=(hcl _).trans x1;have e2:=(hcl _).trans x2;have e3:=(hcl _).trans x3;have e4:=(hcl _).trans x4;have hmem:x∈f.kids:=Ap hx;have hts:(f.kids.take (j+1)).map (A4 f.op)=(f.kids.take j).map (A4 f.op)++[A4 f.op x]:=by rw [aI f.kids j x hx,Ep];rfl
   have hjl:((f.kids.take j).map (A4 f.op)).length=j:=by rw [Bh,C9,hKN.out];omega
   have hac:=Mar f.op ((f.kids.take j).map (A4 f.op)) (A4 f.op x) (fun h4=>by have:j=0:=oM;rw [this];rfl);rw [<- hts,hjl,<- ht.out] at hac;have hL:=HL.out (j+1);rw [hac] at hL;have IH:=Aa (IH0.out x hmem vx wr (Ay.mono hBw.size _ _ (Ay.below hBw nR _ _ hkx)));have hxl:=hx0.out x hmem;obtain⟨ax,cx,rfl,_,_,_⟩:=hkx.form;dsimp only [Ao] at IH;generalize x.kids.length=xn at *;have hkt:A4 f.op x=if x.op=6 then [40]++x.text++[41] else if x.op=5 then (if (f.op != 6)=true then [40]++x.text++[41] else x.text) else x.text:=by
    unfold A4;by_cases h6:x.op=6;·rw [Au h6,Au (by simp [h6])]
    ·by_cases h5:x.op=5
     ·rw [Ai h6,Au h5];have e6:(x.op==6)=false:=by simpa using h6
      have e5:(x.op==5)=true:=by simpa using h5
      rw [e6,e5,Nh,a_Bool_true_and]
     ·rw [Ai h6,Ai h5];have e6:(x.op==6)=false:=by simpa using h6
      have e5:(x.op==5)=false:=by simpa using h5
      rw [e6,e5];rfl
   generalize A4 f.op x=kt at *;generalize x.text=T at *;have z0:(0:Int)<=(j:Int):=oM;have zk:((j:Int)).toNat=j:=oM;have hk':(j:Int)<(KN:Int):=oM;replace hac:=Aa hac.symm;replace hkt:=Aa hkt;replace hL:=Aa hL;clear x1 x2 x3 x4 hcs hkx hmem hx hts hjl ht hcl;go_wp2_with fail;refine CmZ IH.out fun w2 hb2=>?_;have hB2:=hB.out.trans (hb2.mono hB.out.size);have hBw2:=hBw.trans (hb2.mono hBw.size);have e0:=(hBw2.cell (p:=⟨bb,_,none⟩) hblt).trans x0;have c0:=K.out w2 hB2 0 _ rfl;have c4:=K.out w2 hB2 4 _ rfl;replace hB2:=Aa hB2;clear IH hb2 e1 e2 e3 e4 x0 hBw hBw2;generalize x.op=xo at *;go_wp2_with fail;all_goals refine⟨⟨j+1,t++Clz f.op j kt,oM,by go_num,?_,hL.out,hac,hB2⟩,by simp [ZG];omega⟩;have hk:=hkt.out;rw [hk];clear hk hac hL hkt hB2 htl hxl c0 c4 e0;unfold Clz;simp only [*,Nz,Le,Ic,Int.reduceEq,bytes_append]
  ·obtain rfl:j=KN:=oM;have htR:t=R:=by rw [ht.out,hta.out,Bz (by rw [hKN.out];exact Bg _)]
   subst htR;clear ht;go_wp2;go_ret;exact⟨rfl,hBW.trans (hB.out.mono hBW.size)⟩
theorem Zt (k:Nat):∀ (f:CH.Formula) (vk:ZC) (w:ZB),f.depth<=k->Ay w w f vk->f.ok=true->Cy f->f.count<=90000 -> ZE prog 267 #[.agg (Ao f vk)] w (Ret w ↑f.text):=by
 induction k with
 |zero=>intro f vk w hk;exact absurd hk (by rw [Ex];omega)
 |succ k ih =>
  intro f vk w hk hK hok hS hcount;have oI:=No hok;have hd:=Ex f;have hcn:=Uq f;have hIH:∀ x∈f.kids,∀ (vx:ZC) (W:ZB),Ay W W x vx->ZE prog 267 #[.agg (Ao x vx)] W (Ret W ↑x.text):=fun x hx vx W hKx=>ih x vx W (by have:=K6 hx;omega) hKx (Re oI.2.2 hx) (hS.kids.mem hx) (by have:=Rp hx;omega);have hxl:∀ x∈f.kids,x.text.length<=3000000000:=fun x hx=>by have:=Q4 x (hS.kids.mem hx) (Re oI.2.2 hx);have:=Rp hx;omega
  have hfl:=Q4 f hS hok;obtain⟨ak,ck,rfl,hc1,hc2,hrow⟩:=hK.form;rcases Fpt hok with h|h|⟨h,h1,h6⟩|⟨h,h1⟩|h|h;·exact Big f ak _ ck w (.inl h)
  ·exact Big f ak _ ck w (.inr h)
  ·have hn:=oI.2.1 h;exact Hsm f ak _ ck w h h1 h6 hn.1 hn.2 hS.name
  ·exact P8 f _ w hK (.inl ⟨h,h1⟩) oM hIH hxl
  ·exact P8 f _ w hK (.inr (.inl h)) oM hIH hxl
  ·exact P8 f _ w hK (.inr (.inr h)) oM hIH hxl
theorem Qx (f:CH.Formula) (vk:ZC) (w:ZB) (t:Q00) (hK:Ay w w f vk) (hS:Cy f) (h:bf f=some t) : ZE prog 205 #[.agg (Ao f vk)] w (Ret w (.tuple #[↑t,.int .i64 0])):=by
 unfold bf at h;split at h;·cases h
 ·rename_i hl;simp only [Ec,Bq,Lu,Nat.not_lt] at hl;split at h
  ·rename_i hok;cases h;have KB:=fun (W:ZB) (hb:Below w w W)=>Ay.mono hb.size _ _ (Ay.below hb nR _ _ hK);have L:=Aa fun (W:ZB) (hb:Below w w W)=>E4a f vk W (KB W hb) oM oM;have V:=Aa fun (W:ZB) (hb:Below w w W)=>Xl f.depth f vk W nR (KB W hb) hS hok;have T:=Aa fun (W:ZB) (hb:Below w w W)=>Zt f.depth f vk W nR (KB W hb) hok hS oM;have hB0:=Aa fun o=>(Ac _ w).alloc nR o;obtain⟨ak,ck,rfl,_,_,_⟩:=hK.form;clear hK KB hl hok hS;generalize f.kids.length=KN at *;dsimp only [Ao] at *;generalize f.text=t at *;go_enter func205,ntmps205;go_wp2_with fail;have B:=hB0.out;generalize hWd:w.alloc _=W at *;have hBW:Below w w W:=by rw [<- hWd];exact B _
   have K:=Aa (Cp (C:=[↑f.op,↑f.name,↑f.cmp,↑f.n,.slice ak KN ck]) hWd);clear hWd hB0 B;refine CmZ (L.out _ hBW) fun w1 hb1=>?_;have hB1:=hBW.trans (hb1.mono hBW.size);have c0:=K.out w1 hb1 0 _ rfl;have c1:=K.out w1 hb1 1 _ rfl;have c2:=K.out w1 hb1 2 _ rfl;have c3:=K.out w1 hb1 3 _ rfl;have c4:=K.out w1 hb1 4 _ rfl;go_wp2_with fail;refine CmZ (V.out _ hB1) fun w2 hb2=>?_;have hB2:=hB1.trans (hb2.mono hB1.size);have hb2:=hb1.trans (hb2.mono hb1.size);clear c0 c1 c2 c3 c4;have c0:=K.out w2 hb2 0 _ rfl;have c1:=K.out w2 hb2 1 _ rfl;have c2:=K.out w2 hb2 2 _ rfl;have c3:=K.out w2 hb2 3 _ rfl;have c4:=K.out w2 hb2 4 _ rfl;go_wp2_with fail;refine CmZ (T.out _ hB2) fun w3 hb3=>?_;clear L V T c0 c1 c2 c3 c4;go_wp2;refine Aj (Aq rfl _ _ _) rfl ?_;exact⟨rfl,hB2.trans (hb3.mono hB2.size)⟩
  ·cases h
theorem Chs (f:CH.Formula) (vk:ZC) (w:ZB) (hK:Ay w w f vk) (hS:Cy f) (hc:f.count<=100000000) (hd:f.depth<=100000000) (h:bf f=none) : ZE prog 205 #[.agg (Ao f vk)] w (Ret w (.tuple #[.string ⟨#[]⟩,.int .i64 1])):=by
 have KB:=fun (W:ZB) (hb:Below w w W)=>Ay.mono hb.size _ _ (Ay.below hb nR _ _ hK);have L:=fun (W:ZB) (hb:Below w w W)=>Qz f vk W (KB W hb) hc hd;have V:=Aa fun (W:ZB) (hb:Below w w W)=>S4 f.depth f vk W nR (KB W hb) hS;have hB0:=Aa fun o=>(Ac _ w).alloc nR o;obtain⟨ak,ck,rfl,_,_,_⟩:=hK.form;unfold bf at h;generalize (ZH (f.count > 200)||ZH (f.depth > 20))=bl at *;replace L:=Aa L;have hcase:bl=true\/bl=false/\f.ok=false:=by
  cases bl with
  |true=>exact .inl rfl
  |false =>
   rw [Ai sM] at h;cases hb:f.ok with
   |false=>exact .inr ⟨rfl,rfl⟩
   |true=>rw [hb,Au rfl] at h;cases h
 clear hK KB h hS hc hd;generalize f.ok=bo at *;generalize f.kids.length=KN at *;dsimp only [Ao] at *;rcases hcase with rfl|⟨rfl,rfl⟩;·go_enter func205,ntmps205;go_wp2_with fail;refine CmZ (L.out _ (hB0.out _)) fun w1 hb1=>?_;have hB1:=(hB0.out _).trans (hb1.mono (hB0.out _).size);clear L V;exact FD95
 ·go_enter func205,ntmps205;go_wp2_with fail;have B:=hB0.out;generalize hWd:w.alloc _=W at *;have hBW:Below w w W:=by rw [<- hWd];exact B _
  have K:=Aa (Cp (C:=[↑f.op,↑f.name,↑f.cmp,↑f.n,.slice ak KN ck]) hWd);clear hWd hB0 B;refine CmZ (L.out _ hBW) fun w1 hb1=>?_;have hB1:=hBW.trans (hb1.mono hBW.size);have c0:=K.out w1 hb1 0 _ rfl;have c1:=K.out w1 hb1 1 _ rfl;have c2:=K.out w1 hb1 2 _ rfl;have c3:=K.out w1 hb1 3 _ rfl;have c4:=K.out w1 hb1 4 _ rfl;go_wp2_with fail;refine CmZ (V.out _ hB1) fun w2 hb2=>?_;have hB2:=hB1.trans (hb2.mono hB1.size);clear L V;exact FD94
theorem Zx (f:CH.Formula) (vk:ZC) (w:ZB) (hK:Ay w w f vk) (hS:Cy f) (hc:f.count<=100000000) (hd:f.depth<=100000000) : ∃ (t:Q00) (er:Int),((er != 0)=(bf f).isNone)/\∀ W,Below w w W->ZE prog 205 #[.agg (Ao f vk)] W (Ret W (.tuple #[↑t,↑er])):=by
 have KB:=fun (W:ZB) (hb:Below w w W)=>Ay.mono hb.size _ _ (Ay.below hb nR _ _ hK);cases h:bf f with
 |none=>exact⟨[],1,rfl,fun W hb=>Chs f vk W (KB W hb) hS hc hd h⟩
 |some t=>exact⟨t,0,rfl,fun W hb=>Qx f vk W t (KB W hb) hS h⟩
theorem Lt2 {f:CH.Formula} (hS:Cy f) (h:bf f=some t):t.length<=6000000:=by
 unfold bf at h;split at h;·cases h
 ·rename_i hl;simp only [Ec,Bq,Lu,Nat.not_lt] at hl;split at h;·rename_i hok;cases h;have:=Q4 f hS hok;omega
  ·cases h
theorem Nx {n:Int} (h0:0<=n) (h1:n<=144001439):(ZK n).length<=21:=Lib.itoa_length_le n oM oM
theorem I01 {m:bD} (h:dh m=some t):∃ ft,bf m.aB=some ft/\aT m=true/\bg m=true /\ t=CH.join [32] ([dR m.kind]++(if m.target != [] then [m.target] else [])++[m.id,([111,102]:Q00),m.authority] ++ (if m.aB.op != 1 then [([105,102]:Q00),ft] else [])++[([102,114,111,109]:Q00),Go.Lib.itoa m.start]++(if m.aF >= 0 then [([117,110,116,105,108]:Q00),Go.Lib.itoa m.aF] else []) ++ (if m.dP > 0 then [([119,105,110,100]:Q00),Go.Lib.itoa m.dP] else []))++[59]:=by
 unfold dh at h;split at h;·cases h
 ·rename_i ft hft;split at h;·rename_i hnd;rw [Ba] at hnd;cases h;exact⟨ft,hft,hnd.1,hnd.2,rfl⟩
  ·cases h
def Nt (k o:Int) (tg id au ft s1 s2 s3:Q00) (u x:Bool):Q00 := (if k=1 then ([102,111,114,98,105,100,32]:Q00) else if k=2 then ([101,120,101,109,112,116,32]:Q00)++tg++[32] else ([98,108,111,99,107,32]:Q00)++tg++[32])++id++([32,111,102,32]:Q00)++au++(if o != 1 then ([32,105,102,32]:Q00)++ft else []) ++ (([32,102,114,111,109,32]:Q00)++s1)++(if u then ([32,117,110,116,105,108,32]:Q00)++s2 else [])++(if x then ([32,119,105,110,100,32]:Q00)++s3 else [])++[59]
theorem Gen (m:bD) (ft:Q00) (hn:m.kind=1/\m.target=[]\/(m.kind=2\/m.kind=3)/\m.target≠[]) : CH.join [32] ([dR m.kind]++(if m.target != [] then [m.target] else [])++[m.id,([111,102]:Q00),m.authority] ++ (if m.aB.op != 1 then [([105,102]:Q00),ft] else [])++[([102,114,111,109]:Q00),Go.Lib.itoa m.start]++(if m.aF >= 0 then [([117,110,116,105,108]:Q00),Go.Lib.itoa m.aF] else []) ++ (if m.dP > 0 then [([119,105,110,100]:Q00),Go.Lib.itoa m.dP] else []))++[59]=Nt m.kind m.aB.op m.target m.id m.authority ft (Go.Lib.itoa m.start) (Go.Lib.itoa m.aF) (Go.Lib.itoa m.dP) (ZH (0<=m.aF)) (ZH (0<m.dP)):=by unfold Nt dR;generalize m.aB.op=o;generalize Go.Lib.itoa m.start=s1;generalize Go.Lib.itoa m.aF=s2;generalize Go.Lib.itoa m.dP=s3;generalize m.id=id;generalize m.authority=au;generalize m.aF=u;generalize m.dP=x;cases ho:(o != 1) <;> by_cases hu:0<=u <;> by_cases hx:0<x;all_goals rcases hn with⟨e1,e2⟩|⟨e1|e1,e2⟩;all_goals simp [e1,e2,hu,hx,CH.join]
theorem Z4 (m:bD) (vk:ZC) (w:ZB) (t:Q00) (hK:Ay w w m.aB vk) (hS:Cy m.aB) (h:dh m=some t) : ZE prog 133 #[.agg (Av m vk).toArray] w (Ret w (.tuple #[↑t,.int .i64 0])):=by
 obtain⟨ft,hft,hn,hd,rfl⟩:=I01 h;have hlf:=Lt2 hS hft;have KB:=fun (W:ZB) (hb:Below w w W)=>Ay.mono hb.size _ _ (Ay.below hb nR _ _ hK);have T1:=Aa fun (W:ZB) (hb:Below w w W)=>Qx m.aB vk W ft (KB W hb) hS hft;have T2:=Aa fun (W:ZB) (hb:Below w w W)=>Ex2 m vk W (KB W hb) hn;have T3:=Aa fun (W:ZB) (hb:Below w w W)=>Fam m vk W (KB W hb) hd;have hB0:=Aa fun o=>(Ac _ w).alloc nR o;obtain⟨ak,ck,rfl,_,_,_⟩:=hK.form;unfold bg at hd;simp only [Ba,Ec,Eb,Bq] at hd;obtain⟨d1,d2,d3,d4,d5⟩:=hd;have hnm:CH.isName m.id=true/\CH.isName m.authority=true/\(m.kind=1/\m.target=[]\/(m.kind=2\/m.kind=3)/\CH.isName m.target=true):=by
  unfold aT at hn;simp only [kQ] at hn;by_cases h1:m.kind=1;·rw [Au h1] at hn;simp only [Ba,Eb] at hn;exact⟨hn.1.1,hn.1.2,.inl ⟨h1,hn.2⟩⟩
  rw [Ai h1] at hn;by_cases h2:m.kind=2;·rw [Au h2] at hn;simp only [Ba] at hn;exact⟨hn.1.1,hn.1.2,.inr ⟨.inl h2,hn.2.1⟩⟩
  rw [Ai h2] at hn;by_cases h3:m.kind=3;·rw [Au h3] at hn;simp only [Ba] at hn;exact⟨hn.1.1,hn.1.2,.inr ⟨.inr h3,hn.2.1⟩⟩
  rw [Ai h3] at hn;cases hn
 obtain⟨n1,n2,n3⟩:=hnm;have l1:=(Bn n1).2;have l2:=(Bn n2).2;have l3:m.target.length<=24:=by
  rcases n3 with⟨_,e⟩|⟨_,e⟩;·rw [e];simp
  ·exact (Bn e).2
 have n3':m.kind=1/\m.target=[]\/(m.kind=2\/m.kind=3)/\m.target≠[]:=n3.imp id fun h=>⟨h.1,fun e=>by have:=(Bn h.2).1;rw [e] at this;simp at this⟩
 rw [Gen m ft n3'];obtain⟨R,hR⟩:∃ R,Hid (Nt m.kind m.aB.op m.target m.id m.authority ft (Go.Lib.itoa m.start) (Go.Lib.itoa m.aF) (Go.Lib.itoa m.dP) (ZH (0<=m.aF)) (ZH (0<m.dP))=R):=⟨_,Aa rfl⟩
 rw [hR.out];have D1:=Aa fun (W:ZB)=>De m.start W oM oM;have i1:=Nx (n:=m.start) oM oM;have D3:=Aa fun (W:ZB)=>De m.dP W oM (by split at d5 <;> omega);have i3:=Nx (n:=m.dP) oM (by split at d5 <;> omega);have D2:=Aa fun (h:0<=m.aF) (W:ZB)=>De m.aF W h oM;have i2:0<=m.aF->(ZK m.aF).length<=21:=fun h=>Nx h oM;have hk:m.kind=1\/m.kind=2\/m.kind=3:=oM;clear h hK KB hS hft d1 d2 d3 d4 d5 n1 n2 n3 n3' hn;generalize m.aB.kids.length=KN at *;dsimp only [Av,Ao] at *;generalize ZK m.start=s1 at *;generalize ZK m.aF=s2 at *;generalize ZK m.dP=s3 at *;have kr:∀ k:Int,m.kind=k->ZE prog 133 #[.agg #[↑m.id,↑m.authority,↑k,↑m.target,↑m.aB.op,↑m.aB.name,↑m.aB.cmp,↑m.aB.n,.slice ak KN ck,↑m.start,↑m.aF,↑m.dP]] w (Ret w (.tuple #[↑R,.int .i64 0]))->ZE prog 133 #[.agg #[↑m.id,↑m.authority,↑m.kind,↑m.target,↑m.aB.op,↑m.aB.name,↑m.aB.cmp,↑m.aB.n,.slice ak KN ck,↑m.start,↑m.aF,↑m.dP]] w (Ret w (.tuple #[↑R,.int .i64 0])):=fun k e h=>by rw [e];exact h
 rcases hk with hk|hk|hk;all_goals
  refine kr _ hk ?_;rw [hk] at hR T2 T3;clear kr hk;go_enter func133,ntmps133;go_wp2_with fail;have B:=hB0.out;generalize hWd:w.alloc _=W at *;have hBW:Below w w W:=by rw [<- hWd];exact B _
  have K:=Aa (Cp (C:=_) hWd);clear hWd hB0 B;refine CmZ (T1.out _ hBW) fun w1 hb1=>?_;have hB1:=hBW.trans (hb1.mono hBW.size);have c0:=K.out w1 hb1 0 _ rfl;have c1:=K.out w1 hb1 1 _ rfl;have c2:=K.out w1 hb1 2 _ rfl;have c3:=K.out w1 hb1 3 _ rfl;have c4:=K.out w1 hb1 4 _ rfl;have c5:=K.out w1 hb1 5 _ rfl;have c6:=K.out w1 hb1 6 _ rfl;have c7:=K.out w1 hb1 7 _ rfl;have c8:=K.out w1 hb1 8 _ rfl;have c9:=K.out w1 hb1 9 _ rfl;have c10:=K.out w1 hb1 10 _ rfl;have c11:=K.out w1 hb1 11 _ rfl;go_wp2_with fail;refine CmZ (T2.out _ hB1) fun w2 hb2=>?_;have hB2:=hB1.trans (hb2.mono hB1.size);replace hb2:=hb1.trans (hb2.mono hb1.size);clear c0 c1 c2 c3 c4 c5 c6 c7 c8 c9 c10 c11;have c0:=K.out w2 hb2 0 _ rfl;have c1:=K.out w2 hb2 1 _ rfl;have c2:=K.out w2 hb2 2 _ rfl;have c3:=K.out w2 hb2 3 _ rfl;have c4:=K.out w2 hb2 4 _ rfl;have c5:=K.out w2 hb2 5 _ rfl;have c6:=K.out w2 hb2 6 _ rfl;have c7:=K.out w2 hb2 7 _ rfl;have c8:=K.out w2 hb2 8 _ rfl;have c9:=K.out w2 hb2 9 _ rfl;have c10:=K.out w2 hb2 10 _ rfl;have c11:=K.out w2 hb2 11 _ rfl;go_wp2_with fail;refine CmZ (T3.out _ hB2) fun w3 hb3=>?_;have hB3:=hB2.trans (hb3.mono hB2.size);replace hb3:=hb2.trans (hb3.mono hb2.size);clear c0 c1 c2 c3 c4 c5 c6 c7 c8 c9 c10 c11;have c0:=K.out w3 hb3 0 _ rfl;have c1:=K.out w3 hb3 1 _ rfl;have c2:=K.out w3 hb3 2 _ rfl;have c3:=K.out w3 hb3 3 _ rfl;have c4:=K.out w3 hb3 4 _ rfl;have c9:=K.out w3 hb3 9 _ rfl;clear T1 T2 T3;go_wp2_with fail;all_goals
   refine CmZ (D1.out _) fun w4 hb4=>?_;have hB4:=hB3.trans (hb4.mono hB3.size);replace hb4:=hb3.trans (hb4.mono hb3.size);have c10:=K.out w4 hb4 10 _ rfl;have c11:=K.out w4 hb4 11 _ rfl;by_cases hu:0<=m.aF <;> by_cases hx:0<m.dP;·have ku:=Aa (Am hu);have kx:=Aa (Am hx);go_wp2_with fail;refine CmZ (D2.out hu _) fun w5 hb5=>?_;have hB5:=hB4.trans (hb5.mono hB4.size);have hb5:=hb4.trans (hb5.mono hb4.size);clear c10 c11;have c10:=K.out w5 hb5 10 _ rfl;have c11:=K.out w5 hb5 11 _ rfl;go_wp2_with fail;refine CmZ (D3.out _) fun w6 hb6=>?_;have hB6:=hB5.trans (hb6.mono hB5.size);clear c10 c11;go_wp2;refine Aj (Aq rfl _ _ _) rfl ?_;refine⟨congrArg (fun b=>Ending.returned (.tuple #[.string b,.int .i64 0])) ?_,hB6⟩;rw [<- hR.out];clear hR D1 D2 D3 K hB4 hB3 hB2 hB1 hb4 hb3 hb2 hb1;simp only [Nt, *,ku.out,kx.out,decide_true,decide_false,Nz,Le,Ic,Int.reduceEq,bytes_append,Dv,Dl,Gg]
   ·have ku:=Aa (Am hu);have kx:=Aa (Ak hx);go_wp2_with fail;refine CmZ (D2.out hu _) fun w5 hb5=>?_;have hB5:=hB4.trans (hb5.mono hB4.size);have hb5:=hb4.trans (hb5.mono hb4.size);clear c10 c11;have c10:=K.out w5 hb5 10 _ rfl;have c11:=K.out w5 hb5 11 _ rfl;go_wp2;refine Aj (Aq rfl _ _ _) rfl ?_;refine⟨congrArg (fun b=>Ending.returned (.tuple #[.string b,.int .i64 0])) ?_,hB5⟩;rw [<- hR.out];clear hR D1 D2 D3 K hB4 hB3 hB2 hB1 hb4 hb3 hb2 hb1;simp only [Nt, *,ku.out,kx.out,decide_true,decide_false,Nz,Le,Ic,Int.reduceEq,bytes_append,Dv,Dl,Gg]
   ·have ku:=Aa (Ak hu);have kx:=Aa (Am hx);go_wp2_with fail;refine CmZ (D3.out _) fun w6 hb6=>?_;have hB6:=hB4.trans (hb6.mono hB4.size);clear c10 c11;go_wp2;refine Aj (Aq rfl _ _ _) rfl ?_;refine⟨congrArg (fun b=>Ending.returned (.tuple #[.string b,.int .i64 0])) ?_,hB6⟩;rw [<- hR.out];clear hR D1 D2 D3 K hB4 hB3 hB2 hB1 hb4 hb3 hb2 hb1;simp only [Nt, *,ku.out,kx.out,decide_true,decide_false,Nz,Le,Ic,Int.reduceEq,bytes_append,Dv,Dl,Gg]
   ·have ku:=Aa (Ak hu);have kx:=Aa (Ak hx);go_wp2;refine Aj (Aq rfl _ _ _) rfl ?_;refine⟨congrArg (fun b=>Ending.returned (.tuple #[.string b,.int .i64 0])) ?_,hB4⟩;rw [<- hR.out];clear hR D1 D2 D3 K hB4 hB3 hB2 hB1 hb4 hb3 hb2 hb1;simp only [Nt, *,ku.out,kx.out,decide_true,decide_false,Nz,Le,Ic,Int.reduceEq,bytes_append,Dv,Dl,Gg]
theorem Z5 (m:bD) (vk:ZC) (w:ZB) (hK:Ay w w m.aB vk) (hS:Cy m.aB) (hc:m.aB.count<=100000000) (hd:m.aB.depth<=100000000) (hi1:m.id.length<=9223372036854775807) (hi2:m.authority.length<=9223372036854775807) (hi3:m.target.length<=9223372036854775807) (h:dh m=none) : ZE prog 133 #[.agg (Av m vk).toArray] w (Ret w (.tuple #[.string ⟨#[]⟩,.int .i64 1])):=by
 have KB:=fun (W:ZB) (hb:Below w w W)=>Ay.mono hb.size _ _ (Ay.below hb nR _ _ hK);obtain⟨ft,er,her,T1⟩:=Zx m.aB vk w hK hS hc hd;have T2:=Aa fun (W:ZB) (hb:Below w w W)=>Qy m vk W (KB W hb) hi1 hi2 hi3;have T3:=Aa fun (W:ZB) (hb:Below w w W)=>Q7 m vk W (KB W hb);replace T1:=Aa T1;have hB0:=Aa fun o=>(Ac _ w).alloc nR o;obtain⟨ak,ck,rfl,_,_,_⟩:=hK.form;have hcase:aT m=false\/aT m=true/\(bg m=false\/bg m=true/\(er != 0)=true):=by
  unfold dh at h;cases hn:aT m with
  |false=>exact .inl rfl
  |true =>
   cases hd:bg m with
   |false=>exact .inr ⟨rfl,.inl rfl⟩
   |true =>
    refine .inr ⟨rfl,.inr ⟨rfl,?_⟩⟩;rw [her];cases hf:bf m.aB with
    |none=>rfl
    |some t =>rw [hf] at h;simp [hn,hd] at h
 clear her hK KB hS hc hd hi1 hi2 hi3 h;generalize aT m=bn at *;generalize bg m=bd at *;generalize m.aB.kids.length=KN at *;dsimp only [Av,Ao] at *;rcases hcase with rfl|⟨rfl,rfl|⟨rfl,q⟩⟩;all_goals
  go_enter func133,ntmps133;go_wp2_with fail;have B:=hB0.out;generalize hWd:w.alloc _=W at *;have hBW:Below w w W:=by rw [<- hWd];exact B _
  have K:=Aa (Cp (C:=_) hWd);clear hWd hB0 B;refine CmZ (T1.out _ hBW) fun w1 hb1=>?_;have hB1:=hBW.trans (hb1.mono hBW.size);have c0:=K.out w1 hb1 0 _ rfl;have c1:=K.out w1 hb1 1 _ rfl;have c2:=K.out w1 hb1 2 _ rfl;have c3:=K.out w1 hb1 3 _ rfl;have c4:=K.out w1 hb1 4 _ rfl;have c5:=K.out w1 hb1 5 _ rfl;have c6:=K.out w1 hb1 6 _ rfl;have c7:=K.out w1 hb1 7 _ rfl;have c8:=K.out w1 hb1 8 _ rfl;have c9:=K.out w1 hb1 9 _ rfl;have c10:=K.out w1 hb1 10 _ rfl;have c11:=K.out w1 hb1 11 _ rfl;go_wp2_with fail;refine CmZ (T2.out _ hB1) fun w2 hb2=>?_;have hB2:=hB1.trans (hb2.mono hB1.size);replace hb2:=hb1.trans (hb2.mono hb1.size);clear c0 c1 c2 c3 c4 c5 c6 c7 c8 c9 c10 c11
 ·exact FD94
 all_goals have c0:=K.out w2 hb2 0 _ rfl;have c1:=K.out w2 hb2 1 _ rfl;have c2:=K.out w2 hb2 2 _ rfl;have c3:=K.out w2 hb2 3 _ rfl;have c4:=K.out w2 hb2 4 _ rfl;have c5:=K.out w2 hb2 5 _ rfl;have c6:=K.out w2 hb2 6 _ rfl;have c7:=K.out w2 hb2 7 _ rfl;have c8:=K.out w2 hb2 8 _ rfl;have c9:=K.out w2 hb2 9 _ rfl;have c10:=K.out w2 hb2 10 _ rfl;have c11:=K.out w2 hb2 11 _ rfl;go_wp2_with fail;refine CmZ (T3.out _ hB2) fun w3 hb3=>?_;have hB3:=hB2.trans (hb3.mono hB2.size);clear c0 c1 c2 c3 c4 c5 c6 c7 c8 c9 c10 c11;go_wp2;refine Aj (Aq rfl _ _ _) rfl ?_;exact⟨rfl,hB3⟩
def chH (k:Int) (id ps:Q00):Q00 :=
 if k=1 then ([97,100,100,32]:Q00)++id++[32]++ps else if k=2 then ([114,101,109,111,118,101,32]:Q00)++id++[32]++ps else if k=3 then ([99,111,114,114,101,99,116,32]:Q00)++id else ([118,111,105,100,32]:Q00)++id
def Km (n:Q05):Q00:=[32,34]++aV n++[34]
def chT (k:Int) (id ps:Q00) (ns:List Q05):Q00:=chH k id ps++(ns.map Km).flatten
theorem S9 (k:Int) (id ps:Q00) (ns:List Q05) (n:Q05):chT k id ps (ns++[n])=chT k id ps ns++Km n:=by unfold chT;simp
theorem Ggm (A:List Q00) (hA:A≠[]) (ns:List Q05):CH.join [32] (A++ns.map fun n=>[34]++aV n++[34])=CH.join [32] A++(ns.map Km).flatten:=by
 induction ns generalizing A with
 |nil=>simp
 |cons n l ih =>have h:=ih (A++[[34]++aV n++[34]]) sM;rw [Dv,List.singleton_append] at h;rw [Fa,h,M5,Ai hA];simp [Km]
theorem Vy {c:CH.Change} (h:bQ c=some t):dn c=true/\(1<=c.kind/\c.kind<=4)/\t=chT c.kind c.id (ZK c.pos) c.entry.names++[59]:=by
 unfold bQ at h;split at h
 ·rename_i hok;have hk:1<=c.kind/\c.kind<=4:=by
   unfold dn at hok;dsimp only at hok;split at hok;·cases hok
   ·rename_i h1;simp only [Ec,F9,Bq,Lu,Ko,Int.not_lt] at h1;omega
  cases h;refine⟨hok,hk,?_⟩;rw [Ggm _ sM];unfold chT chH CH.kindWord;rcases (oM:c.kind=1\/c.kind=2\/c.kind=3\/c.kind=4) with e|e|e|e;all_goals simp [e,CH.join]
 ·cases h
theorem Ch7 (c:CH.Change) (v:ZC) (w:ZB) (t:Q00) (hv:C6 w w v c.entry.names) (hS:∀ n∈c.entry.names,Fx n.words) (h:bQ c=some t) : ZE prog 132 #[.agg (A5 c v).toArray] w (Ret w (.tuple #[↑t,.int .i64 0])):=by
 obtain⟨hok,hk,rfl⟩:=Vy h;have hS6:∀ n∈c.entry.names,∀ l∈n.words,l.length<=1000000:=fun n hn l hl=>Af ((hS n hn).2 l hl) oM;have F:=Aa fun (W:ZB) (hb:Below w w W)=>Ch3 c v W (Fs.grow hv hb) hS6 hok;have hf:CH.isName c.id=true/\((c.kind=1\/c.kind=2)->0<=c.pos/\c.pos<=144001439)/\c.entry.names.length<=8/\∀ n∈c.entry.names,bP n=true:=by
  unfold dn at hok;dsimp only at hok;split at hok;·cases hok
  ·rename_i h1;simp only [Ec,F9,Bq,Lu,Ko,Int.not_lt] at h1;refine⟨jU h1.1.1,?_⟩;unfold dN aW at hok;rcases (oM:c.kind=1\/c.kind=2\/c.kind=3\/c.kind=4) with e|e|e|e;all_goals simp [e] at hok ⊢;first |(obtain⟨⟨a1,a2,a3,a4,a5⟩,a6⟩:=hok;exact⟨oM,a4,a5⟩) |(obtain⟨⟨a1,a2,a3,a4,a5⟩,a6⟩:=hok;exact⟨a4,a5⟩) |(obtain⟨⟨a1,a2⟩,a6⟩:=hok;rw [a2];simp;omega) |(obtain⟨⟨a1,a2⟩,a6⟩:=hok;rw [a2];simp)
 obtain⟨hn,hp,hN8,hno⟩:=hf;have hil:=(Bn hn).2;have C:=Aa fun (k:Nat) (x:Q05) (hk:c.entry.names[k]?=some x)=>fun (vw:ZC) (W:ZB) (hvw:Strs W W vw x.words)=>Xm x vw W hvw (hS6 x (Ap hk)) (hno x (Ap hk)) (Af (Pu x (hno x (Ap hk)) (hS x (Ap hk))) oM);have HQ:=Aa fun (k:Nat) (x:Q05) (hk:c.entry.names[k]?=some x)=>Pu x (hno x (Ap hk)) (hS x (Ap hk));have D:=Aa fun (h:0<=c.pos/\c.pos<=144001439) (W:ZB)=>De c.pos W h.1 oM;have hpl:(0<=c.pos/\c.pos<=144001439)->(ZK c.pos).length<=21:=fun h=>Nx h.1 h.2;have hB0:=Aa fun o=>(Ac _ w).alloc nR o;obtain⟨a,cap,rfl,hl,hcap,hne⟩:=hv;replace hne:=Aa hne;obtain⟨R,hR⟩:∃ R,Hid (chT c.kind c.id (ZK c.pos) c.entry.names++[59]=R):=⟨_,Aa rfl⟩
 rw [hR.out];dsimp only [A5] at *;generalize ZK c.pos=ps at *;generalize c.pos=ps0 at *;generalize c.entry.names=ns at *;generalize c.entry.id=eid at *;generalize c.id=id at *;generalize c.kind=kd at *;obtain⟨N,hN⟩:∃ N,ns.length=N:=⟨_,rfl⟩
 rw [hN] at hl hN8 F ⊢;replace hN:=Aa hN;clear hS hS6 hno h hok hn;rcases (oM:kd=1\/kd=2\/kd=3\/kd=4) with rfl|rfl|rfl|rfl
 ·have hpp:=hp oM;have hpl:=hpl hpp;have hq1:¬ 9223372036854775807<4+List.length id:=oM;have hq2:¬ 9223372036854775807<4+List.length id+1:=oM;have hq3:¬ 9223372036854775807<4+List.length id+1+ps.length:=oM;have D:=Aa (D.out hpp);clear hpp hp;go_enter func132,ntmps132;go_wp2_with fail;have B:=hB0.out;generalize hWd:w.alloc _=W at *;have hBW:Below w w W:=by rw [<- hWd];exact B _
  have K:=Aa (Cp (C:=[.int .i64 1,↑id,↑eid,.slice a N cap,↑ps0]) hWd);clear hWd hB0 B;refine CmZ (F.out _ hBW) fun w1 hb1=>?_;have hB1:=hBW.trans (hb1.mono hBW.size);have c0:=K.out w1 hb1 0 _ rfl;have c1:=K.out w1 hb1 1 _ rfl;have c4:=K.out w1 hb1 4 _ rfl;clear F;have g1:=@Ag _ _ _ c1;have g4:=@Ag _ _ _ c4;go_wp2_with fail;refine Ar kR kR ?_;repeat (quiet_step ((with_reducible exact Bc (D.out _))))
  refine Bv ?_;intro wq hbq;replace hbq:=An hbq;clear g1 g4;have hBw:=Aa (hB1.trans (hbq.mono hB1.size));have hbw:=Aa (hb1.trans (hbq.mono hb1.size));clear D c0 c1 c4 hbq;have c0:=K.out _ hbw.out 0 _ rfl;have c1:=K.out _ hbw.out 1 _ rfl;go_wp2_with fail;go_loopw [4,5] (fun sv iv wr=>∃ (k:Nat) (t:Q00),k<=N/\iv=↑k/\sv=↑t/\t.length<=100+k*61000/\Hid (t=chT 1 id ps (ns.take k))/\Hid (Below w w wr)/\Hid (Below W W wr)) (fun _ iv _=>N - (ZG iv).toNat);case atStart=>exact⟨0,([97,100,100,32]:Q00)++id++[32]++ps,Az _,rfl,by simp only [bytes_append],by simp only [Ah,A8,Bj];omega,Aa (by simp [chT,chH]),hBw,hbw⟩
  case round =>
   obtain⟨k,t,hk,rfl,rfl,htl,ht,hBr,hb⟩:=hrel;have c3:=K.out wr hb.out 3 _ rfl;by_cases hlt:k<N
   ·obtain⟨b,off,rfl,hbl,kj⟩:=hne.out (by intro h;have:=hN.out;simp [h] at this;omega);obtain⟨n,hn'⟩:∃ n,ns[k]?=some n:=⟨_,Ad (by rw [hN.out];exact hlt)⟩
    obtain⟨vw,d1,d2,d3⟩:=kj k n hn';have e1:=(hBr.out.cell (p:=⟨b,off+k*2,none⟩) hbl).trans d1;have e2:=(hBr.out.cell (p:=⟨b,off+k*2+1,none⟩) hbl).trans d2;have F:=Aa (C.out k n hn' vw wr ((d3.below hBr.out nR).mono hBr.out.size));have hs:chT 1 id ps (ns.take (k+1))=t++Km n:=by rw [D7,hn',Gf,S9,ht.out]
    exact FD6
   ·exact FD13
 ·have hpp:=hp oM;have hpl:=hpl hpp;have hq1:¬ 9223372036854775807<7+List.length id:=oM;have hq2:¬ 9223372036854775807<7+List.length id+1:=oM;have hq3:¬ 9223372036854775807<7+List.length id+1+ps.length:=oM;have D:=Aa (D.out hpp);clear hpp hp;go_enter func132,ntmps132;go_wp2_with fail;have B:=hB0.out;generalize hWd:w.alloc _=W at *;have hBW:Below w w W:=by rw [<- hWd];exact B _
  have K:=Aa (Cp (C:=[.int .i64 2,↑id,↑eid,.slice a N cap,↑ps0]) hWd);clear hWd hB0 B;refine CmZ (F.out _ hBW) fun w1 hb1=>?_;have hB1:=hBW.trans (hb1.mono hBW.size);have c0:=K.out w1 hb1 0 _ rfl;have c1:=K.out w1 hb1 1 _ rfl;have c4:=K.out w1 hb1 4 _ rfl;clear F;have g1:=@Ag _ _ _ c1;have g4:=@Ag _ _ _ c4;go_wp2_with fail;refine Ar kR kR ?_;repeat (quiet_step ((with_reducible exact Bc (D.out _))))
  refine Bv ?_;intro wq hbq;replace hbq:=An hbq;clear g1 g4;have hBw:=Aa (hB1.trans (hbq.mono hB1.size));have hbw:=Aa (hb1.trans (hbq.mono hb1.size));clear D c0 c1 c4 hbq;have c0:=K.out _ hbw.out 0 _ rfl;have c1:=K.out _ hbw.out 1 _ rfl;go_wp2_with fail;go_loopw [4,5] (fun sv iv wr=>∃ (k:Nat) (t:Q00),k<=N/\iv=↑k/\sv=↑t/\t.length<=100+k*61000/\Hid (t=chT 2 id ps (ns.take k))/\Hid (Below w w wr)/\Hid (Below W W wr)) (fun _ iv _=>N - (ZG iv).toNat);case atStart=>exact⟨0,([114,101,109,111,118,101,32]:Q00)++id++[32]++ps,Az _,rfl,by simp only [bytes_append],by simp only [Ah,A8,Bj];omega,Aa (by simp [chT,chH]),hBw,hbw⟩
  case round =>
   obtain⟨k,t,hk,rfl,rfl,htl,ht,hBr,hb⟩:=hrel;have c3:=K.out wr hb.out 3 _ rfl;by_cases hlt:k<N
   ·obtain⟨b,off,rfl,hbl,kj⟩:=hne.out (by intro h;have:=hN.out;simp [h] at this;omega);obtain⟨n,hn'⟩:∃ n,ns[k]?=some n:=⟨_,Ad (by rw [hN.out];exact hlt)⟩
    obtain⟨vw,d1,d2,d3⟩:=kj k n hn';have e1:=(hBr.out.cell (p:=⟨b,off+k*2,none⟩) hbl).trans d1;have e2:=(hBr.out.cell (p:=⟨b,off+k*2+1,none⟩) hbl).trans d2;have F:=Aa (C.out k n hn' vw wr ((d3.below hBr.out nR).mono hBr.out.size));have hs:chT 2 id ps (ns.take (k+1))=t++Km n:=by rw [D7,hn',Gf,S9,ht.out]
    exact FD6
   ·exact FD13
 ·clear hp hpl D;go_enter func132,ntmps132;go_wp2_with fail;have B:=hB0.out;generalize hWd:w.alloc _=W at *;have hBW:Below w w W:=by rw [<- hWd];exact B _
  have K:=Aa (Cp (C:=[.int .i64 3,↑id,↑eid,.slice a N cap,↑ps0]) hWd);clear hWd hB0 B;refine CmZ (F.out _ hBW) fun w1 hb1=>?_;have hB1:=hBW.trans (hb1.mono hBW.size);have c0:=K.out w1 hb1 0 _ rfl;have c1:=K.out w1 hb1 1 _ rfl;have c4:=K.out w1 hb1 4 _ rfl;clear F;have hBw:=Aa hB1;have hbw:=Aa hb1;go_wp2_with fail;go_loopw [4,5] (fun sv iv wr=>∃ (k:Nat) (t:Q00),k<=N/\iv=↑k/\sv=↑t/\t.length<=100+k*61000/\Hid (t=chT 3 id ps (ns.take k))/\Hid (Below w w wr)/\Hid (Below W W wr)) (fun _ iv _=>N - (ZG iv).toNat);case atStart=>exact⟨0,([99,111,114,114,101,99,116,32]:Q00)++id,Az _,rfl,by simp only [bytes_append],by simp only [Ah,A8,Bj];omega,Aa (by simp [chT,chH]),hBw,hbw⟩
  case round =>
   obtain⟨k,t,hk,rfl,rfl,htl,ht,hBr,hb⟩:=hrel;have c3:=K.out wr hb.out 3 _ rfl;by_cases hlt:k<N
   ·obtain⟨b,off,rfl,hbl,kj⟩:=hne.out (by intro h;have:=hN.out;simp [h] at this;omega);obtain⟨n,hn'⟩:∃ n,ns[k]?=some n:=⟨_,Ad (by rw [hN.out];exact hlt)⟩
    obtain⟨vw,d1,d2,d3⟩:=kj k n hn';have e1:=(hBr.out.cell (p:=⟨b,off+k*2,none⟩) hbl).trans d1;have e2:=(hBr.out.cell (p:=⟨b,off+k*2+1,none⟩) hbl).trans d2;have F:=Aa (C.out k n hn' vw wr ((d3.below hBr.out nR).mono hBr.out.size));have hs:chT 3 id ps (ns.take (k+1))=t++Km n:=by rw [D7,hn',Gf,S9,ht.out]
    exact FD6
   ·exact FD13
 ·clear hp hpl D;go_enter func132,ntmps132;go_wp2_with fail;have B:=hB0.out;generalize hWd:w.alloc _=W at *;have hBW:Below w w W:=by rw [<- hWd];exact B _
  have K:=Aa (Cp (C:=[.int .i64 4,↑id,↑eid,.slice a N cap,↑ps0]) hWd);clear hWd hB0 B;refine CmZ (F.out _ hBW) fun w1 hb1=>?_;have hB1:=hBW.trans (hb1.mono hBW.size);have c0:=K.out w1 hb1 0 _ rfl;have c1:=K.out w1 hb1 1 _ rfl;have c4:=K.out w1 hb1 4 _ rfl;clear F;have hBw:=Aa hB1;have hbw:=Aa hb1;go_wp2_with fail;go_loopw [4,5] (fun sv iv wr=>∃ (k:Nat) (t:Q00),k<=N/\iv=↑k/\sv=↑t/\t.length<=100+k*61000/\Hid (t=chT 4 id ps (ns.take k))/\Hid (Below w w wr)/\Hid (Below W W wr)) (fun _ iv _=>N - (ZG iv).toNat);case atStart=>exact⟨0,([118,111,105,100,32]:Q00)++id,Az _,rfl,by simp only [bytes_append],by simp only [Ah,A8,Bj];omega,Aa (by simp [chT,chH]),hBw,hbw⟩
  case round =>
   obtain⟨k,t,hk,rfl,rfl,htl,ht,hBr,hb⟩:=hrel;have c3:=K.out wr hb.out 3 _ rfl;by_cases hlt:k<N
   ·obtain⟨b,off,rfl,hbl,kj⟩:=hne.out (by intro h;have:=hN.out;simp [h] at this;omega);obtain⟨n,hn'⟩:∃ n,ns[k]?=some n:=⟨_,Ad (by rw [hN.out];exact hlt)⟩
    obtain⟨vw,d1,d2,d3⟩:=kj k n hn';have e1:=(hBr.out.cell (p:=⟨b,off+k*2,none⟩) hbl).trans d1;have e2:=(hBr.out.cell (p:=⟨b,off+k*2+1,none⟩) hbl).trans d2;have F:=Aa (C.out k n hn' vw wr ((d3.below hBr.out nR).mono hBr.out.size));have hs:chT 4 id ps (ns.take (k+1))=t++Km n:=by rw [D7,hn',Gf,S9,ht.out]
    exact FD6
   ·exact FD13
theorem Ckt (c:CH.Change) (v:ZC) (w:ZB) (hv:C6 w w v c.entry.names) (hS:∀ n∈c.entry.names,∀ l∈n.words,l.length<=1000000) (hi:c.id.length<=9223372036854775807) (hi2:c.entry.id.length<=9223372036854775807) (h:bQ c=none) : ZE prog 132 #[.agg (A5 c v).toArray] w (Ret w (.tuple #[.string ⟨#[]⟩,.int .i64 1])):=by
 have hok:dn c=false:=by
  unfold bQ at h;split at h;·cases h
  ·rename_i e;simpa using e
 have F:=Aa fun (W:ZB) (hb:Below w w W)=>Oy c v W (Fs.grow hv hb) hS hi hi2;rw [hok] at F;have hB0:=Aa fun o=>(Ac _ w).alloc nR o;obtain⟨a,cap,rfl,_,_,_⟩:=hv;clear hS hi hi2 h hok;generalize c.entry.names.length=N at *;dsimp only [A5] at *;go_enter func132,ntmps132;go_wp2_with fail;refine CmZ (F.out _ (hB0.out _)) fun w1 hb1=>?_;have hB1:=(hB0.out _).trans (hb1.mono (hB0.out _).size);exact FD95
end
end Go.Proofs.Y
