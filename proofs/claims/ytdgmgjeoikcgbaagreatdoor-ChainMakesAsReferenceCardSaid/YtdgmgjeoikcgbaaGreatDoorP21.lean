/-
  ChainMakes: the proof, part 22 of 34.
-/
import Derived.Test.YtdgmgjeoikcgbaaGreatDoorP19
set_option linter.unusedSimpArgs false
set_option linter.unusedVariables false
set_option maxHeartbeats 40000000
set_option maxRecDepth 100000
open Go renaming World -> ZB, Value -> ZC, Calls -> ZE
open Go.Act renaming put -> ZF
open Go.RowKit renaming intOf -> ZG
open Decidable renaming decide -> ZH
open Go.Lib renaming itoa -> ZK
namespace Go.Proofs.YtdgmgjeoikcgbaaGreatDoor
section
open Go.Lib Go.Proofs.Tryz Go.RowKit Go.Shelf Go.Sort CH
attribute [local irreducible] wpQuiet
theorem Cmp (k:Nat):∀ (f:CH.Formula) (vk:ZC) (w:ZB),f.depth<=k->A6 w w f vk->f.count<=100000000->f.depth<=100000000 -> ZE prog 318 #[.agg (An f vk)] w (Ret w (.tuple #[↑f.count,↑f.depth])):=by
 induction k with
 |zero=>intro f vk w hk;exact absurd hk (by rw [Fu];omega)
 |succ k ih =>
  intro f vk w hk hK hc hd;obtain⟨ak,ck,rfl,hc1,hc2,hrow⟩:=hK.form;have hcount:=Wc f;have iR:=Fu f;have hlen:=Lf f.kids;obtain⟨R,hR⟩:∃ R,Hid (R=Ret w (.tuple #[↑f.count,↑f.depth])):=⟨_,Aa rfl⟩
  rw [<- hR.out];generalize hKN:f.kids.length=KN at *;dsimp only [An];have hB0:=Aa fun o=>(Ac _ w).alloc nR o;replace hrow:=Aa hrow;replace hKN:=Aa hKN;replace ih:=Aa ih;replace hcount:=Aa hcount;replace iR:=Aa iR;replace hc:=Aa hc;replace hd:=Aa hd;replace hk:=Aa hk;go_enter func318,ntmps318;go_wp2_with fail;have B:=hB0.out;generalize hWd:w.alloc _=W at *;have hBW:Below w w W:=by rw [<- hWd];exact B _
  have K:=Aa (Cv (C:=[↑f.op,↑f.name,↑f.cmp,↑f.n,.slice ak KN ck]) hWd);clear hWd hB0 B;go_loopw [4,5,6] (fun nv dv iv wr=>∃ (j a d:Nat),j<=KN/\iv=↑j/\nv=.int .i64 ((a:Int)+1)/\dv=↑d/\a<=100000000/\d<=100000000/\Hid (a=aK (f.kids.take j))/\Hid (d=aX (f.kids.take j))/\Hid (Below W W wr)) (fun _ _ iv _=>KN - (ZG iv).toNat);case atStart=>exact⟨0,0,0,Bg _,rfl,rfl,rfl,oM,oM,Aa rfl,Aa rfl,Aa (Ac _ _)⟩
  case round =>
   obtain⟨j,a,d,hj,rfl,rfl,rfl,ha1,hd1,ha,hdp,hB⟩:=hrel;have c4:=K.out wr hB.out 4 _ rfl;by_cases hlt:j<KN
   ·obtain⟨x,hx⟩:∃ x,f.kids[j]?=some x:=⟨_,Ad (by rw [hKN.out];omega)⟩
    obtain⟨bb,off,rfl,hblt,hcs⟩:=hrow.out (fun e=>by have:=hKN.out;rw [e] at this;simp at this;omega);obtain⟨vx,x0,x1,x2,x3,x4,hkx⟩:=dn.get _ _ _ _ _ hcs hx;have hBw:Below w w wr:=hBW.trans (hB.out.mono hBW.size);have hcl:=fun o=>hBw.cell (p:=⟨bb,o,none⟩) hblt;have e0:=(hcl _).trans x0;have e1:=(hcl _).trans x1;have e2:=(hcl _).trans x2;have e3:=(hcl _).trans x3;have e4:=(hcl _).trans x4;have hmem:x∈f.kids:=Aq hx;have hdx:=Lv hmem;have hcx:=Sc hmem;have hts:f.kids.take (j+1)=f.kids.take j++[x]:=aI f.kids j x hx;have hcm:aK (f.kids.take (j+1))<=aK f.kids:=by have h2:=Iv (f.kids.take (j+1)) (f.kids.drop (j+1));rw [Ep] at h2;omega
    have hct:aK (f.kids.take (j+1))=a+x.count:=by rw [hts,Iv,<- ha.out];simp [aK]
    have hdt:aX (f.kids.take (j+1))=max d x.depth:=by rw [hts,M9,<- hdp.out];simp [aX]
    have IH:=Aa (ih.out x vx wr (by have:=hk.out;have:=iR.out;omega) (A6.mono hBw.size _ _ (A6.below hBw nR _ _ hkx)) (by have:=hc.out;have:=hcount.out;omega) (by have:=hd.out;have:=iR.out;omega));have ba:a+x.count<=100000000:=by have:=hc.out;have:=hcount.out;omega
    have bd:max d x.depth<=100000000:=by have:=hd.out;have:=iR.out;omega
    obtain⟨ax,cx,rfl,_,_,_⟩:=hkx.form;dsimp only [An] at IH;generalize x.kids.length=xn at *;generalize x.count=xc at *;generalize x.depth=xd at *;have z0:(0:Int)<=(j:Int):=oM;have zk:((j:Int)).toNat=j:=oM;have hk':(j:Int)<(KN:Int):=oM;replace hct:=Aa hct.symm;replace hdt:=Aa hdt.symm;clear x0 x1 x2 x3 x4 hcl hcs hkx hmem hts hx hdx hcx hcm ha hdp hBw;go_wp2_with fail;refine IH.out.mono ?_;rintro e w2 ⟨rfl,hb2⟩;have hB2:=Aa (hB.out.trans (hb2.mono hB.out.size));clear IH hb2 e0 e1 e2 e3 e4 c4 hB;go_wp2;go_roundw;case rel=>exact⟨j+1,a+xc,max d xd,oM,by go_num,by go_num,by go_num,ba,bd,hct,hdt,hB2⟩
    case measure=>simp [ZG];omega
   ·obtain rfl:j=KN:=oM;have hda:f.kids.take j=f.kids:=Cb (by rw [hKN.out];exact Bv _);rw [hda] at ha hdp;have r1:((f.count:Nat):Int)=(a:Int)+1:=by have:=hcount.out;have:=ha.out;omega
    have r2:((f.depth:Nat):Int)=(d:Int)+1:=by have:=iR.out;have:=hdp.out;omega
    rw [r1,r2] at hR;clear r1 r2 hda ha hdp;go_wp2;rw [hR.out];exact⟨rfl,hBW.trans (hB.out.mono hBW.size)⟩
theorem Qm (f:CH.Formula) (vk:ZC) (w:ZB) (hK:A6 w w f vk) (hc:f.count<=100000000) (hd:f.depth<=100000000) : ZE prog 287 #[.agg (An f vk)] w (Ret w (.bool (ZH (f.count > 200)||ZH (f.depth > 20)))):=by
 have hB0:=Aa fun o=>(Ac _ w).alloc nR o;have S:=Aa fun (W:ZB) (hb:Below w w W)=>Cmp f.depth f vk W nR (A6.mono hb.size _ _ (A6.below hb nR _ _ hK)) hc hd;obtain⟨ak,ck,rfl,hc1,hc2,_⟩:=hK.form;clear hK;generalize f.kids.length=KN at *;dsimp only [An] at S ⊢;generalize f.count=cc at *;generalize f.depth=dd at *;have hr:(ZH (cc > 200)||ZH (dd > 20))=(ZH ((200:Int)<(cc:Int))||ZH ((20:Int)<(dd:Int))):=by rw [En];simp only [Dy,Bl];omega
 rw [hr];clear hr hc hd;go_enter func287,ntmps287;go_wp2_with fail;refine (S.out _ (hB0.out _)).mono ?_;rintro e w1 ⟨rfl,hb1⟩;have hB1:=(hB0.out _).trans (hb1.mono (hB0.out _).size);clear S hB0;cases d1:ZH ((200:Int)<(cc:Int)) <;> cases d2:ZH ((20:Int)<(dd:Int)) <;>
  (go_wp2
   go_ret
   exact⟨by first|rfl|(rw [d1];rfl)|(rw [d1,d2];rfl),hB1⟩)
theorem Coq (f:CH.Formula) (vk:ZC) (w:ZB) (hK:A6 w w f vk) (hc:f.count<=200) (hd:f.depth<=20) : ZE prog 287 #[.agg (An f vk)] w (Ret w (.bool false)):=by have:=Qm f vk w hK oM oM;rwa [Ak oM,Ak oM] at this
theorem Wv {op cmp n:Int} {name:List UInt8} {k:Nat} (h:op=3):fM op name cmp n k=(ZH ((1:Int)<=cmp)&&(ZH (cmp<=6)&&(((k:Int)==0)&&(CH.isName name&&!CH.isKey name)))):=by unfold fM;rw [Ar h,lZ,show (k==0)=((k:Int)==0) from by rw [En];simp];generalize CH.isName name=b1;generalize CH.isKey name=b2;cases ZH (1<=cmp) <;> cases ZH (cmp<=6) <;> cases ((k:Int)==0) <;> rfl
theorem I38 {op cmp n:Int} {name:List UInt8} {k:Nat} (h:¬ op=3) (hz:name≠[]\/cmp≠0\/n≠0):fM op name cmp n k=false:=by
 unfold fM;rw [Ah h,Ar];simp only [Dy,bne_iff_ne];rcases hz with h|h|h;·exact .inl (.inl h)
 ·exact .inl (.inr h)
 ·exact .inr h
theorem U3 (f:CH.Formula) (ak:Option Addr) (ck:Nat) (w:ZB) (hi:f.name.length<=9223372036854775807) : ZE prog 319 #[.agg (An f (.slice ak f.kids.length ck))] w (Ret w (.bool (fM f.op f.name f.cmp f.n f.kids.length))):=by
 have hB0:=Aa fun o=>(Ac _ w).alloc nR o;have T1:=Aa fun (W:ZB)=>F0 f.name W hi;have T2:=Aa fun (W:ZB)=>Ggy f.name W;dsimp only [An];generalize f.kids.length=KN at *;generalize f.name=nm at *;generalize f.op=op at *;generalize f.cmp=cp at *;generalize f.n=nn at *;clear hi;obtain⟨R,hR⟩:∃ R,fM op nm cp nn KN=R:=⟨_,rfl⟩
 rw [hR];have hz:(¬ nm=[]/\(nm==[])=false/\nm.isEmpty=false/\((⟨nm.toArray⟩:ByteArray)==⟨#[]⟩)=false)\/nm=[]/\((cp==0)=false\/cp=0/\((nn==0)=false\/nn=0)):=by
  by_cases h:nm=[]
  ·refine .inr ⟨h,?_⟩;simp only [Bo,ne_eq];omega
  ·have h1:(nm==[])=false:=Bo.2 h;exact .inl ⟨h,h1,List.isEmpty_eq_false_iff.2 h,(Kj h1).1⟩
 by_cases h3:op=3
 ·rw [Wv h3] at hR;subst h3;rcases hz with⟨z1,z2,z3,z4⟩|⟨rfl,z|⟨rfl,z|rfl⟩⟩;rotate_left
  ·have hr:R=false:=by rw [<- hR,show CH.isName []=false from rfl];simp
   replace hr:=Aa hr;replace T1:=Aa T1.out;rw [show CH.isName []=false from rfl] at T1;clear hR T2;cases d1:ZH ((1:Int)<=cp);·go_enter func319,ntmps319;exact FD49
   cases d2:ZH (cp<=6);·go_enter func319,ntmps319;exact FD49
   cases d3:((KN:Int)==0)
   ·go_enter func319,ntmps319;exact FD49
   go_enter func319,ntmps319;go_wp2_with fail;refine (T1.out _).mono ?_;rintro e w1 ⟨rfl,hb1⟩;have hB1:=(hB0.out _).trans (hb1.mono (hB0.out _).size);clear T1 hB0;go_wp2;go_ret;exact⟨by rw [hr.out];rfl,hB1⟩
  ·exact FD39
  ·exact FD39
  generalize CH.isName nm=b1 at *;generalize CH.isKey nm=b2 at *;cases d1:ZH ((1:Int)<=cp);·rw [d1] at hR;exact FD39
  cases d2:ZH (cp<=6);·rw [d1,d2] at hR;exact FD39
  cases d3:((KN:Int)==0)
  ·rw [d1,d2,d3] at hR;exact FD39
  rw [d1,d2,d3] at hR;replace hR:=Aa hR;go_enter func319,ntmps319;go_wp2_with fail;have B:=hB0.out;generalize hWd:w.alloc _=W at *;have hBW:Below w w W:=by rw [<- hWd];exact B _
  have K:=Aa (Cv (C:=[.int .i64 3,↑nm,↑cp,↑nn,.slice ak KN ck]) hWd);clear hWd hB0 B;refine (T1.out _).mono ?_;rintro e w1 ⟨rfl,hb1⟩;have c1:=K.out w1 hb1 1 _ rfl;have hB1:=hBW.trans (hb1.mono hBW.size);clear T1;cases b1;·go_wp2;go_ret;exact⟨by rw [<- hR.out];rfl,hB1⟩
  go_wp2_with fail;refine (T2.out _).mono ?_;rintro e w2 ⟨rfl,hb2⟩;have hB2:=hB1.trans (hb2.mono hB1.size);clear T2;cases b2 <;>
   (go_wp2
    go_ret
    exact⟨by rw [<- hR.out];rfl,hB2⟩)
 ·clear T1 T2;have hop:op=1\/op=2\/op=4\/op=5\/op=6\/((op==1)=false/\(op==2)=false/\(op==3)=false)/\(op==4)=false/\(op==5)=false/\(op==6)=false:=by simp only [Bo,ne_eq];omega
  have hfalse:=@I38 op cp nn nm KN h3;rw [hR] at hfalse;rcases hz with⟨z1,z2,z3,z4⟩|⟨rfl,z|⟨rfl,z|rfl⟩⟩;·have hr:=Aa (hfalse (.inl z1));exact FD42
  ·have hr:=Aa (hfalse (.inr (.inl (Bo.1 z))));exact FD42
  ·have hr:=Aa (hfalse (.inr (.inr (Bo.1 z))));exact FD42
  ·clear hfalse;unfold fM at hR;rw [Ah h3,Ah sM] at hR;have hn:KN=0\/KN=1\/((((KN:Int)==0)=false/\(KN==0)=false)/\(((KN:Int)==1)=false/\(KN==1)=false)/\ZH ((2:Int)<=(KN:Int))=true/\ZH (2<=KN)=true):=by simp only [Bo,ne_eq,Bl];omega
   have hop2:((op=1\/op=2)/\R=(KN==0))\/(op=4/\R=(KN==1))\/((op=5\/op=6)/\R=ZH (2<=KN))\/(((op==1)=false/\(op==2)=false/\(op==3)=false)/\(op==4)=false/\(op==5)=false/\(op==6)=false)/\R=false:=by
    rcases hop with rfl|rfl|rfl|rfl|rfl|⟨⟨k1,k2,k3⟩,k4,k5,k6⟩;·exact .inl ⟨.inl rfl,hR.symm⟩
    ·exact .inl ⟨.inr rfl,hR.symm⟩
    ·exact .inr (.inl ⟨rfl,hR.symm⟩)
    ·exact .inr (.inr (.inl ⟨.inl rfl,hR.symm⟩))
    ·exact .inr (.inr (.inl ⟨.inr rfl,hR.symm⟩))
    ·refine .inr (.inr (.inr ⟨⟨⟨k1,k2,k3⟩,k4,k5,k6⟩,?_⟩));rw [<- hR,Ah (by rw [La];exact⟨Bo.1 k1,Bo.1 k2⟩),Ah (Bo.1 k4),k5,k6];rfl
   clear hR hop;rcases hop2 with⟨rfl|rfl,hr⟩|⟨rfl,hr⟩|⟨rfl|rfl,hr⟩|⟨⟨⟨k1,k2,k3⟩,k4,k5,k6⟩,hr⟩ <;> rcases hn with rfl|rfl|⟨⟨n0,n1⟩,⟨n2,n3⟩,n4,n5⟩;all_goals
    first
    |rw [n1] at hr
    |rw [n3] at hr
    |rw [n5] at hr
    |skip
    replace hr:=Aa hr;go_enter func319,ntmps319;go_wp2;go_ret;exact⟨by rw [hr.out];rfl,hB0.out _⟩
theorem Dev:∀ {l:List CH.Formula},(∀ x∈l,x.ok=true)->eU l=true
 |[],_=>rfl
 |f::l,h=>by
  show (f.ok&&eU l)=true
  rw [h f sM,Dev fun x hx=>h x (Gp _ hx)]
  rfl
theorem Tg (k:Nat):∀ (f:CH.Formula) (vk:ZC) (w:ZB),f.depth<=k->A6 w w f vk->C7 f -> ZE prog 288 #[.agg (An f vk)] w (Ret w (.bool f.ok)):=by
 induction k with
 |zero=>intro f vk w hk;exact absurd hk (by rw [Fu];omega)
 |succ k ih =>
  intro f vk w hk hK hS;obtain⟨ak,ck,rfl,hc1,hc2,hrow⟩:=hK.form;have iR:=Fu f;obtain⟨R,hR⟩:∃ R,f.ok=R:=⟨_,rfl⟩
  have hok:=Hd2 f;rw [hR] at hok ⊢;have F:=fun (W:ZB)=>U3 f ak ck W (by have:=hS.name;omega);have hq:f.op=3->fM f.op f.name f.cmp f.n f.kids.length=true->CH.isKey f.name=false:=fun e h=>by rw [Wv e] at h;simp only [Aw,Fz] at h;exact h.2.2.2.2
  generalize fM f.op f.name f.cmp f.n f.kids.length=bn at *;have hcase:bn=false\/(bn=true/\((f.op==3)=true/\(ZH (f.n<0)=true\/ZH (f.n<0)=false/\ZH (1000000<f.n)=true)))\/(bn=true/\R=eU f.kids)/\((f.op==3)=false\/(f.op==3)=true/\ZH (f.n<0)=false/\ZH (1000000<f.n)=false):=by
   cases bn with
   |false=>exact .inl rfl
   |true =>
    cases h3:(f.op==3) with
    |false =>rw [h3] at hok;exact .inr (.inr ⟨⟨rfl,by simpa using hok⟩,.inl rfl⟩)
    |true =>
     rw [h3,hq (eq_of_beq h3) rfl,show ZH (f.n > 1000000)=ZH (1000000<f.n) from rfl] at hok;cases d1:ZH (f.n<0) with
     |true=>exact .inr (.inl ⟨rfl,rfl,.inl rfl⟩)
     |false =>
      cases d2:ZH (1000000<f.n) with
      |true=>exact .inr (.inl ⟨rfl,rfl,.inr ⟨rfl,rfl⟩⟩)
      |false =>rw [d1,d2] at hok;exact .inr (.inr ⟨⟨rfl,by simpa using hok⟩,.inr ⟨rfl,rfl,rfl⟩⟩)
  have hbad:(bn=false\/(bn=true/\((f.op==3)=true/\(ZH (f.n<0)=true\/ZH (f.n<0)=false/\ZH (1000000<f.n)=true))))->R=false:=fun h=>by
   rw [hok];rcases h with h|⟨h,h3,h4|⟨h5,h4⟩⟩;·rw [h];rfl
   ·rw [h,h3,h4];rfl
   ·rw [h,h3,h5,show ZH (f.n > 1000000)=ZH (1000000<f.n) from rfl,h4];rfl
  clear hok hq;generalize hKN:f.kids.length=KN at *;dsimp only [An] at F ⊢;have hB0:=Aa fun o=>(Ac _ w).alloc nR o;replace hrow:=Aa hrow;replace hKN:=Aa hKN;replace ih:=Aa ih;replace iR:=Aa iR;replace hk:=Aa hk;replace F:=Aa F;clear hK;rcases hcase with h|h|⟨⟨h,hall⟩,hcase⟩;·have hr:=Aa (hbad (.inl h));subst h;clear hbad;go_enter func288,ntmps288;go_wp2_with fail;refine (F.out _).mono ?_;rintro e w1 ⟨rfl,hb1⟩;go_wp2;go_ret;exact⟨by rw [hr.out];rfl,(hB0.out _).trans (hb1.mono (hB0.out _).size)⟩
  ·have hr:=Aa (hbad (.inr h));obtain⟨h,q3,q4⟩:=h;subst h;clear hbad;rcases q4 with q4|⟨q4,q5⟩ <;>
    (go_enter func288,ntmps288
     go_wp2_with fail
     have B:=hB0.out
     generalize hWd:w.alloc _=W at *
     have hBW:Below w w W:=by rw [<- hWd];exact B _
     have K:=Aa (Cv (C:=[↑f.op,↑f.name,↑f.cmp,↑f.n,.slice ak KN ck]) hWd)
     clear hWd hB0 B
     refine (F.out _).mono ?_
     rintro e w1 ⟨rfl,hb1⟩
     have c0:=K.out w1 hb1 0 _ rfl
     have c3:=K.out w1 hb1 3 _ rfl
     go_wp2
     go_ret
     exact⟨by rw [hr.out];rfl,hBW.trans (hb1.mono hBW.size)⟩)
  ·subst h;have HF:=Aa fun (x:CH.Formula) (hx:x∈f.kids) (h:x.ok=false)=>(by rw [hall,<- Gq];intro e;rw [R6 e hx] at h;exact Bool.noConfusion h:R=false)
   have HE:=Aa fun (h:∀ j x,j<KN->f.kids[j]?=some x->x.ok=true)=>(by rw [hall];exact Dev fun x hx=>(Fp.1 hx).elim fun k hk=>h k x (by have:=(lS hk);have:=hKN.out;omega) hk:R=true)
   clear hbad hall;have hSk:=Aa hS.kids;clear hS;rcases hcase with q3|⟨q3,q4,q5⟩;all_goals
    go_enter func288,ntmps288;go_wp2_with fail;have B:=hB0.out;generalize hWd:w.alloc _=W at *;have hBW:Below w w W:=by rw [<- hWd];exact B _
    have K:=Aa (Cv (C:=[↑f.op,↑f.name,↑f.cmp,↑f.n,.slice ak KN ck]) hWd);clear hWd hB0 B;refine (F.out _).mono ?_;rintro e w1 ⟨rfl,hb1⟩;have c0:=K.out w1 hb1 0 _ rfl;have c3:=K.out w1 hb1 3 _ rfl;have hb1:=Aa hb1;go_wp2_with fail;go_loopw [3] (fun iv wr=>∃ j:Nat,j<=KN/\iv=↑j/\Hid (∀ i x,i<j->f.kids[i]?=some x->x.ok=true)/\Hid (Below W W wr)) (fun iv _=>KN - (ZG iv).toNat);case atStart=>exact⟨0,Bg _,rfl,Aa fun i x h=>absurd h (Nat.not_lt_zero _),hb1⟩
    case round =>
     obtain⟨j,hj,rfl,hT,hB⟩:=hrel;have c4:=K.out wr hB.out 4 _ rfl;by_cases hlt:j<KN
     ·obtain⟨x,hx⟩:∃ x,f.kids[j]?=some x:=⟨_,Ad (by rw [hKN.out];omega)⟩
      obtain⟨bb,off,rfl,hblt,hcs⟩:=hrow.out (fun e=>by have:=hKN.out;rw [e] at this;simp at this;omega);obtain⟨vx,x0,x1,x2,x3,x4,hkx⟩:=dn.get _ _ _ _ _ hcs hx;have hBw:Below w w wr:=hBW.trans (hB.out.mono hBW.size);have hcl:=fun o=>hBw.cell (p:=⟨bb,o,none⟩) hblt;have e0:=(hcl _).trans x0;have e1:=(hcl _).trans x1;have e2:=(hcl _).trans x2;have e3:=(hcl _).trans x3;have e4:=(hcl _).trans x4;have hmem:x∈f.kids:=Aq hx;have hdx:=Lv hmem;have IH:=ih.out x vx wr (by have:=hk.out;have:=iR.out;omega) (A6.mono hBw.size _ _ (A6.below hBw nR _ _ hkx)) (hSk.out.mem hmem);obtain⟨ax,cx,rfl,_,_,_⟩:=hkx.form;dsimp only [An] at IH;generalize x.kids.length=xn at *;have z0:(0:Int)<=(j:Int):=oM;have zk:((j:Int)).toNat=j:=oM;have hk':(j:Int)<(KN:Int):=oM;have HFx:=Aa (HF.out x hmem);have Hx:=Aa hx;clear x0 x1 x2 x3 x4 hcl hcs hkx hmem hx hdx hBw;cases hb:x.ok with
      |false =>rw [hb] at IH;replace IH:=Aa IH;have hr:=Aa (HFx.out hb);go_wp2_with fail;refine IH.out.mono ?_;rintro e w2 ⟨rfl,hb2⟩;have hB2:=hB.out.trans (hb2.mono hB.out.size);clear IH hb2 e0 e1 e2 e3 e4 c4 hB;go_wp2;go_ret;exact⟨by rw [hr.out];rfl,hBW.trans (hB2.mono hBW.size)⟩
      |true =>
       rw [hb] at IH;replace IH:=Aa IH;have hT1:Hid (∀ i y,i<j+1->f.kids[i]?=some y->y.ok=true):=Aa fun i y hi hy=>by
        by_cases e:i=j;·subst e;cases Hx.out.symm.trans hy;exact hb
        ·exact hT.out i y oM hy
       go_wp2_with fail;refine IH.out.mono ?_;rintro e w2 ⟨rfl,hb2⟩;have hB2:=Aa (hB.out.trans (hb2.mono hB.out.size));clear IH hb2 e0 e1 e2 e3 e4 c4 hB;go_wp2;go_roundw;case rel=>exact⟨j+1,oM,by go_num,hT1,hB2⟩
       case measure=>simp [ZG];omega
     ·obtain rfl:j=KN:=oM;have hr:=Aa (HE.out hT.out);go_wp2;go_ret;exact⟨by rw [hr.out];rfl,hBW.trans (hB.out.mono hBW.size)⟩
theorem V7 (k:Nat) (f:CH.Formula) (vk:ZC) (w:ZB) (hk:f.depth<=k) (hK:A6 w w f vk) (hS:C7 f) (h:f.ok=true) : ZE prog 288 #[.agg (An f vk)] w (Ret w (.bool true)):=by have:=Tg k f vk w hk hK hS;rwa [h] at this
end
section
open Go.Lib Go.Proofs.Tryz Go.RowKit Go.Shelf Go.Sort CH
attribute [local irreducible] wpQuiet
theorem Oi {P:Program} {md:Region.Mode} {ops:Array Oper} {Q:Exit->Act->ZB->Prop} {S S':ZB->Prop} (hS:∀ w,S' w->S w) :
  ∀ (fuel:Nat) (listed:Array Bool) (a:Act) (w:ZB),wpAnyH P md ops Q S' fuel listed a w->wpAnyH P md ops Q S fuel listed a w
 |0,_,_,_,h=>h
 |fuel+1,_,_,_,h=>⟨h.1,fun i hi=>wpOp_mono (fun a' w' h'=>⟨hS _ h'.1,Oi hS fuel _ a' w' h'.2⟩) (h.2 i hi)⟩
def Isi:List (List UInt8):=[[],[61],[33,61],[60],[60,61],[62],[62,61]]
def Our (w:ZB) (e:Ending) (w':ZB):Prop:=Below w.heap.size w w'/\∃ g,e=.returned (.slice (some ⟨g,0,none⟩) 7 7)/\w.heap.size<=g/\∀ k l,Isi[k]?=some l->w'.cell? ⟨g,k,none⟩=some (.string ⟨l.toArray⟩)
theorem Git (w:ZB):ZE prog 320 #[] w (Our w):=by
 have hB0:=fun o=>(Ac _ w).alloc nR o;go_enter func320,ntmps320;go_wp2;go_ret;refine⟨hB0 _,_,rfl,Bv _,fun k l hk=>?_⟩;rw [Cj _ _ _ _ rfl];match k,hk with
 |0,hk|1,hk|2,hk|3,hk|4,hk|5,hk|6,hk=>cases hk;rfl
theorem Ody (c:Int) (h1:1<=c) (h6:c<=6):Isi[c.toNat]?=some (gB c)/\(gB c).length<=2:=by rcases (oM:c=1\/c=2\/c=3\/c=4\/c=5\/c=6) with rfl|rfl|rfl|rfl|rfl|rfl <;> exact⟨rfl,dC⟩
theorem Ggt (f:CH.Formula) (ak:Option Addr) (nk ck:Nat) (w:ZB) (h3:f.op=3) (hc1:1<=f.cmp) (hc6:f.cmp<=6) (hn0:0<=f.n) (hn1:f.n<=1000000) (hname:f.name.length<=20000) : ZE prog 289 #[.agg (An f (.slice ak nk ck))] w (Ret w ↑f.text):=by
 have hres:Hid (f.name++[32]++gB f.cmp++[32]++Go.Lib.itoa f.n=f.text):=Aa (by rw [text_eq,Ah oM,Ah oM,Ar h3]);have hil:=Lib.itoa_length_le f.n oM oM;have D:=Aa fun (W:ZB)=>C0 f.n W hn0 oM;have hB0:=Aa fun o=>(Ac _ w).alloc nR o;obtain⟨hca,hcl⟩:=Ody f.cmp hc1 hc6;have C:=Aa fun (W:ZB)=>Git W;generalize f.text=R at *;dsimp only [An];rw [h3];clear h3;obtain⟨c,hc⟩:∃ c:Nat,f.cmp=c:=⟨f.cmp.toNat,oM⟩
 have hc7:c<7:=oM;generalize gB f.cmp=cw at *;rw [hc] at *;rw [Int.toNat_natCast] at hca;generalize ZK f.n=nt at *;generalize f.name=nm at *;generalize f.n=n at *;have z0:(0:Int)<=(c:Int):=oM;have zk:((c:Int)).toNat=c:=oM;have z7:(c:Int)<7:=oM;have hq1:¬ 9223372036854775807<nm.length+1:=oM;have hq2:¬ 9223372036854775807<nm.length+1+cw.length:=oM;have hq3:¬ 9223372036854775807<nm.length+1+cw.length+1:=oM;have hq4:¬ 9223372036854775807<nm.length+1+cw.length+1+nt.length:=oM;replace hca:=Aa hca;clear hc hc1 hc6 hc7 hn0 hn1 hname hil hcl;go_enter func289,ntmps289;go_wp2_with fail;have B:=hB0.out;generalize hWd:w.alloc _=W at *;have hBW:Below w w W:=by rw [<- hWd];exact B _
 have K:=Aa (Cv (C:=[.int .i64 3,↑nm,↑c,↑n,.slice ak nk ck]) hWd);clear hWd hB0 B;have hD:Below W W W.drew:=(Ac _ W).drew;refine Fe (S:=fun W'=>Below W W W') kR hD (fun hHeld=>?_);refine tj 0 rfl rF hHeld ?_;(try simp only [ZF,pD,pE,pF,pA,pB,pC]);refine tk 1 (v:=?_) rfl rF hHeld ?_ ?_;rotate_left;·(intro w hSw;have q:=K.out w hSw 1 _ rfl;go_simp;try with_reducible rfl)
 (try simp only [ZF,pD,pE,pF,pA,pB,pC]);refine tj 2 rfl rF hHeld ?_;(try simp only [ZF,pD,pE,pF,pA,pB,pC]);refine tj 4 rfl rF hHeld ?_;(try simp only [ZF,pD,pE,pF,pA,pB,pC]);refine tk 5 (v:=?_) rfl rF hHeld ?_ ?_;rotate_left;·(intro w hSw;have q:=K.out w hSw 2 _ rfl;go_simp;try with_reducible rfl)
 (try simp only [ZF,pD,pE,pF,pA,pB,pC]);refine tj 10 rfl rF hHeld ?_;(try simp only [ZF,pD,pE,pF,pA,pB,pC]);refine tk 11 (v:=?_) rfl rF hHeld ?_ ?_;rotate_left;·(intro w hSw;have q:=K.out w hSw 3 _ rfl;go_simp;try with_reducible rfl)
 (try simp only [ZF,pD,pE,pF,pA,pB,pC]);refine rk 3 rfl (fun K hK=>?_);go_simp;refine (C.out _).mono ?_;rintro e w2 ⟨hb2,g,rfl,hg,hcell⟩;have hE:Below W W w2:=hD.trans (hb2.mono hD.size);have hgc:=hcell c cw hca.out;go_wp2_with fail;refine hK.out _ _ hE (fun _=>?_);clear hK hHeld hcell;refine Oi (S':=fun W'=>Below W W W'/\W'.cell? ⟨g,c,none⟩=some ↑cw) (fun _ h=>h.1) _ _ _ _ ?_;have hHeld:Below W W w2/\w2.cell? ⟨g,c,none⟩=some ↑cw:=⟨hE,hgc⟩
 (try simp only [ZF,pD,pE,pF,pA,pB,pC]);refine tj 6 rfl rF hHeld ?_;(try simp only [ZF,pD,pE,pF,pA,pB,pC]);refine tk 7 (v:=?_) rfl rF hHeld ?_ ?_;rotate_left;·(intro w hSw;have q:=hSw.2;go_simp;try with_reducible rfl)
 (try simp only [ZF,pD,pE,pF,pA,pB,pC]);refine tj 8 rfl rF hHeld ?_;(try simp only [ZF,pD,pE,pF,pA,pB,pC]);refine tj 9 rfl rF hHeld ?_;(try simp only [ZF,pD,pE,pF,pA,pB,pC]);refine rk 12 rfl (fun K hK=>?_);go_simp;refine (D.out _).mono ?_;rintro e w3 ⟨rfl,hb3⟩;have hF:Below W W w3:=hE.trans (hb3.mono hE.size);have hgl:g<w2.heap.size:=by
  by_cases h:g<w2.heap.size;·exact h
  ·rw [World.cell?,Io (by show _<=g;omega)] at hgc;cases hgc
 have hgd:=(hb3.cell (p:=⟨g,c,none⟩) hgl).trans hgc;go_wp2_with fail;refine hK.out _ _ ⟨hF,hgd⟩ (fun _=>?_);clear hK hHeld;have hHeld:Below W W w3/\w3.cell? ⟨g,c,none⟩=some ↑cw:=⟨hF,hgd⟩
 (try simp only [ZF,pD,pE,pF,pA,pB,pC]);refine tj 13 rfl rF hHeld ?_;(try simp only [ZF,pD,pE,pF,pA,pB,pC]);refine tj 14 rfl rF hHeld ?_;(try simp only [ZF,pD,pE,pF,pA,pB,pC]);refine D8 kR ?_ _;have hfin:(⟨nm.toArray⟩:ByteArray)++⟨#[32]⟩++⟨cw.toArray⟩++⟨#[32]⟩++⟨nt.toArray⟩=⟨R.toArray⟩:=by rw [show (⟨#[32]⟩:ByteArray)=⟨([32]:List UInt8).toArray⟩ from rfl,bytes_append,bytes_append,bytes_append,bytes_append,hres.out]
 go_wp2;go_ret;exact⟨by first|rfl|rw [hfin];rfl,hBW.trans (hF.mono hBW.size)⟩
end
section
open Go.Lib Go.Proofs.Tryz Go.RowKit Go.Shelf Go.Sort CH
attribute [local irreducible] wpQuiet
def tX (op:Int):List UInt8:=if op=5 then ([32,97,110,100,32]:List UInt8) else ([32,111,114,32]:List UInt8)
def oq (op:Int) (kts:List (List UInt8)):List UInt8:=if op=4 then (match kts with|[]=>[]|x::_=>([110,111,116,32]:List UInt8)++x) else CH.join (tX op) kts
def Bar (op:Int) (j:Nat) (t:List UInt8):List UInt8:=if (op==4)=true then ([110,111,116,32]:List UInt8)++t else if 0<j then (if (op==5)=true then ([32,97,110,100,32]:List UInt8)++t else ([32,111,114,32]:List UInt8)++t) else t
theorem Kc8 (op:Int) (kts:List (List UInt8)) (t:List UInt8) (h:op=4->kts=[]):oq op (kts++[t])=oq op kts++Bar op kts.length t:=by
 unfold oq Bar tX;by_cases h4:op=4;·subst h4;rw [h rfl];rfl
 ·have b4:(op==4)=false:=by simpa using h4
  rw [b4];simp only [Ah h4,H6,Kr];rw [N4];cases kts with
  |nil=>simp [CH.join]
  |cons x l =>
   by_cases h5:op=5;·subst h5;simp
   ·have b5:(op==5)=false:=by simpa using h5
    rw [b5];simp [h5]
theorem Lzv (op:Int) (l r:List (List UInt8)) (h:op=4->(l++r).length<=1):(oq op l).length<=(oq op (l++r)).length:=by
 unfold oq;by_cases h4:op=4
 ·rw [Ar h4,Ar h4];cases l with
  |nil=>exact Bg _
  |cons x l=>exact Bv _
 ·rw [Ah h4,Ah h4];exact Qf _ _ _
theorem Kk8 {f:CH.Formula} (h:f.op=4/\f.kids.length=1\/f.op=5\/f.op=6):f.text=oq f.op (f.kids.map (A7 f.op)):=by
 rw [text_eq];unfold oq tX;rcases h with⟨e,e1⟩|e|e
 ·rw [Ah oM,Ah oM,Ah oM,Ar e,Ar e];cases hk:f.kids with
  |nil=>rw [hk] at e1;simp at e1
  |cons x l=>rfl
 ·rw [Ah oM,Ah oM,Ah oM,Ah oM,Ar e,Ah oM,Ar e]
 ·rw [Ah oM,Ah oM,Ah oM,Ah oM,Ah oM,Ah oM,Ah oM]
theorem Zr (f:CH.Formula) (ak:Option Addr) (nk ck:Nat) (w:ZB) (h:f.op=1\/f.op=2) : ZE prog 289 #[.agg (An f (.slice ak nk ck))] w (Ret w ↑f.text):=by
 have ht:=text_eq f;have hB0:=Aa fun o=>(Ac _ w).alloc nR o;generalize f.text=R at *;dsimp only [An];rcases h with h|h;·rw [h] at ht ⊢;replace ht:R=([116,114,117,101]:List UInt8):=ht;subst ht;go_enter func289,ntmps289;exact FD116
 ·rw [h] at ht ⊢;replace ht:R=([102,97,108,115,101]:List UInt8):=ht;subst ht;go_enter func289,ntmps289;exact FD116
theorem Pn (f:CH.Formula) (vk:ZC) (w:ZB) (hK:A6 w w f vk) (hop:f.op=4/\f.kids.length=1\/f.op=5\/f.op=6) (hlen:f.text.length<=3000000000) (IH0:∀ x∈f.kids,∀ (vx:ZC) (W:ZB),A6 W W x vx->ZE prog 289 #[.agg (An x vx)] W (Ret W ↑x.text)) (hx0:∀ x∈f.kids,x.text.length<=3000000000) : ZE prog 289 #[.agg (An f vk)] w (Ret w ↑f.text):=by
 have hta:=Kk8 hop;have HL:=Aa fun (j:Nat)=>(show (oq f.op ((f.kids.take j).map (A7 f.op))).length<=3000000000 from by have h1:=Lzv f.op ((f.kids.take j).map (A7 f.op)) ((f.kids.drop j).map (A7 f.op)) (fun h4=>by rw [<- F8,Ep,Dt];omega);rw [<- F8,Ep,<- hta] at h1;omega)
 obtain⟨R,hR⟩:∃ R,f.text=R:=⟨_,rfl⟩
 rw [hR] at hta ⊢;obtain⟨ak,ck,rfl,hc1,hc2,hrow⟩:=hK.form;generalize hKN:f.kids.length=KN at *;dsimp only [An];have hB0:=Aa fun o=>(Ac _ w).alloc nR o;replace hrow:=Aa hrow;replace hKN:=Aa hKN;replace hta:=Aa hta;replace IH0:=Aa IH0;replace hx0:=Aa hx0;have h1:(f.op==1)=false:=by simp;omega
 have h2:(f.op==2)=false:=by simp;omega
 have h3:(f.op==3)=false:=by simp;omega
 clear hK hR hlen;go_enter func289,ntmps289;go_wp2_with fail;have B:=hB0.out;generalize hWd:w.alloc _=W at *;have hBW:Below w w W:=by rw [<- hWd];exact B _
 have K:=Aa (Cv (C:=[↑f.op,↑f.name,↑f.cmp,↑f.n,.slice ak KN ck]) hWd);clear hWd hB0 B;go_loopw [3,4] (fun sv iv wr=>∃ (j:Nat) (t:List UInt8),j<=KN/\iv=↑j/\sv=↑t/\t.length<=3000000000/\Hid (t=oq f.op ((f.kids.take j).map (A7 f.op)))/\Hid (Below W W wr)) (fun _ iv _=>KN - (ZG iv).toNat);case atStart=>exact⟨0,[],Bg _,rfl,rfl,sM,Aa (by rw [Ik];unfold oq;simp [CH.join]),hid (Below.refl _ _)⟩
 case round =>
  obtain⟨j,t,hj,rfl,rfl,htl,ht,hB⟩:=hrel;have c4:=K.out wr hB.out 4 _ rfl;by_cases hlt:j<KN
  ·obtain⟨x,hx⟩:∃ x,f.kids[j]?=some x:=⟨_,Ad (by rw [hKN.out];omega)⟩
   obtain⟨bb,off,rfl,hblt,hcs⟩:=hrow.out (fun e=>by have:=hKN.out;rw [e] at this;simp at this;omega);obtain⟨vx,x0,x1,x2,x3,x4,hkx⟩:=dn.get _ _ _ _ _ hcs hx;have hBw:Below w w wr:=hBW.trans (hB.out.mono hBW.size);have hcl:=fun o=>hBw.cell (p:=⟨bb,o,none⟩) hblt;have e0:=(hcl _).trans x0;have e1:=(hcl _).trans x1;have e2:=(hcl _).trans x2;have e3:=(hcl _).trans x3;have e4:=(hcl _).trans x4;have hmem:x∈f.kids:=Aq hx;have hts:(f.kids.take (j+1)).map (A7 f.op)=(f.kids.take j).map (A7 f.op)++[A7 f.op x]:=by rw [aI f.kids j x hx,F8];rfl
   have hjl:((f.kids.take j).map (A7 f.op)).length=j:=by rw [Dt,Dz,hKN.out];omega
   have hac:=Kc8 f.op ((f.kids.take j).map (A7 f.op)) (A7 f.op x) (fun h4=>by have:j=0:=oM;rw [this];rfl);rw [<- hts,hjl,<- ht.out] at hac;have hL:=HL.out (j+1);rw [hac] at hL;have IH:=Aa (IH0.out x hmem vx wr (A6.mono hBw.size _ _ (A6.below hBw nR _ _ hkx)));have hxl:=hx0.out x hmem;obtain⟨ax,cx,rfl,_,_,_⟩:=hkx.form;dsimp only [An] at IH;generalize x.kids.length=xn at *;have hkt:A7 f.op x=if x.op=6 then [40]++x.text++[41] else if x.op=5 then (if (f.op != 6)=true then [40]++x.text++[41] else x.text) else x.text:=by
    unfold A7;by_cases h6:x.op=6;·rw [Ar h6,Ar (by simp [h6])]
    ·by_cases h5:x.op=5
     ·rw [Ah h6,Ar h5];have e6:(x.op==6)=false:=by simpa using h6
      have e5:(x.op==5)=true:=by simpa using h5
      rw [e6,e5,Ju,a_Bool_true_and]
     ·rw [Ah h6,Ah h5];have e6:(x.op==6)=false:=by simpa using h6
      have e5:(x.op==5)=false:=by simpa using h5
      rw [e6,e5];rfl
   generalize A7 f.op x=kt at *;generalize x.text=T at *;have z0:(0:Int)<=(j:Int):=oM;have zk:((j:Int)).toNat=j:=oM;have hk':(j:Int)<(KN:Int):=oM;replace hac:=Aa hac.symm;replace hkt:=Aa hkt;replace hL:=Aa hL;clear x1 x2 x3 x4 hcs hkx hmem hx hts hjl ht hcl;go_wp2_with fail;refine IH.out.mono ?_;rintro e w2 ⟨rfl,hb2⟩;have hB2:=hB.out.trans (hb2.mono hB.out.size);have hBw2:=hBw.trans (hb2.mono hBw.size);have e0:=(hBw2.cell (p:=⟨bb,_,none⟩) hblt).trans x0;have c0:=K.out w2 hB2 0 _ rfl;have c4:=K.out w2 hB2 4 _ rfl;replace hB2:=Aa hB2;clear IH hb2 e1 e2 e3 e4 x0 hBw hBw2;generalize x.op=xo at *;go_wp2_with fail;all_goals refine⟨⟨j+1,t++Bar f.op j kt,oM,by go_num,?_,hL.out,hac,hB2⟩,by simp [ZG];omega⟩;have hk:=hkt.out;rw [hk];clear hk hac hL hkt hB2 htl hxl c0 c4 e0;unfold Bar;simp only [*,Np,Kr,H6,Int.reduceEq,bytes_append]
  ·obtain rfl:j=KN:=oM;have htR:t=R:=by rw [ht.out,hta.out,Cb (by rw [hKN.out];exact Bv _)]
   subst htR;clear ht;go_wp2;go_ret;exact⟨rfl,hBW.trans (hB.out.mono hBW.size)⟩
end
section
open Go.Lib Go.Proofs.Tryz Go.RowKit Go.Shelf Go.Sort CH
attribute [local irreducible] wpQuiet
theorem Yk (k:Nat):∀ (f:CH.Formula) (vk:ZC) (w:ZB),f.depth<=k->A6 w w f vk->f.ok=true->C7 f->f.count<=90000 -> ZE prog 289 #[.agg (An f vk)] w (Ret w ↑f.text):=by
 induction k with
 |zero=>intro f vk w hk;exact absurd hk (by rw [Fu];omega)
 |succ k ih =>
  intro f vk w hk hK hok hS hcount;have nH:=Pa hok;have hd:=Fu f;have hcn:=Wc f;have hIH:∀ x∈f.kids,∀ (vx:ZC) (W:ZB),A6 W W x vx->ZE prog 289 #[.agg (An x vx)] W (Ret W ↑x.text):=fun x hx vx W hKx=>ih x vx W (by have:=Lv hx;omega) hKx (R6 nH.2.2 hx) (hS.kids.mem hx) (by have:=Sc hx;omega);have hxl:∀ x∈f.kids,x.text.length<=3000000000:=fun x hx=>by have:=Rp x (hS.kids.mem hx) (R6 nH.2.2 hx);have:=Sc hx;omega
  have hfl:=Rp f hS hok;obtain⟨ak,ck,rfl,hc1,hc2,hrow⟩:=hK.form;rcases Den hok with h|h|⟨h,h1,h6⟩|⟨h,h1⟩|h|h;·exact Zr f ak _ ck w (.inl h)
  ·exact Zr f ak _ ck w (.inr h)
  ·have hn:=nH.2.1 h;exact Ggt f ak _ ck w h h1 h6 hn.1 hn.2 hS.name
  ·exact Pn f _ w hK (.inl ⟨h,h1⟩) oM hIH hxl
  ·exact Pn f _ w hK (.inr (.inl h)) oM hIH hxl
  ·exact Pn f _ w hK (.inr (.inr h)) oM hIH hxl
theorem Qk (f:CH.Formula) (vk:ZC) (w:ZB) (t:List UInt8) (hK:A6 w w f vk) (hS:C7 f) (h:bf f=some t) : ZE prog 235 #[.agg (An f vk)] w (Ret w (.tuple #[↑t,.int .i64 0])):=by
 unfold bf at h;split at h;·cases h
 ·rename_i hl;simp only [Dy,Bl,La,Nat.not_lt] at hl;split at h
  ·rename_i hok;cases h;have KB:=fun (W:ZB) (hb:Below w w W)=>A6.mono hb.size _ _ (A6.below hb nR _ _ hK);have L:=Aa fun (W:ZB) (hb:Below w w W)=>Coq f vk W (KB W hb) oM oM;have V:=Aa fun (W:ZB) (hb:Below w w W)=>V7 f.depth f vk W nR (KB W hb) hS hok;have T:=Aa fun (W:ZB) (hb:Below w w W)=>Yk f.depth f vk W nR (KB W hb) hok hS oM;have hB0:=Aa fun o=>(Ac _ w).alloc nR o;obtain⟨ak,ck,rfl,_,_,_⟩:=hK.form;clear hK KB hl hok hS;generalize f.kids.length=KN at *;dsimp only [An] at *;generalize f.text=t at *;go_enter func235,ntmps235;go_wp2_with fail;have B:=hB0.out;generalize hWd:w.alloc _=W at *;have hBW:Below w w W:=by rw [<- hWd];exact B _
   have K:=Aa (Cv (C:=[↑f.op,↑f.name,↑f.cmp,↑f.n,.slice ak KN ck]) hWd);clear hWd hB0 B;refine (L.out _ hBW).mono ?_;rintro e w1 ⟨rfl,hb1⟩;have hB1:=hBW.trans (hb1.mono hBW.size);have c0:=K.out w1 hb1 0 _ rfl;have c1:=K.out w1 hb1 1 _ rfl;have c2:=K.out w1 hb1 2 _ rfl;have c3:=K.out w1 hb1 3 _ rfl;have c4:=K.out w1 hb1 4 _ rfl;go_wp2_with fail;refine (V.out _ hB1).mono ?_;rintro e w2 ⟨rfl,hb2⟩;have hB2:=hB1.trans (hb2.mono hB1.size);have hb2:=hb1.trans (hb2.mono hb1.size);clear c0 c1 c2 c3 c4;have c0:=K.out w2 hb2 0 _ rfl;have c1:=K.out w2 hb2 1 _ rfl;have c2:=K.out w2 hb2 2 _ rfl;have c3:=K.out w2 hb2 3 _ rfl;have c4:=K.out w2 hb2 4 _ rfl;go_wp2_with fail;refine (T.out _ hB2).mono ?_;rintro e w3 ⟨rfl,hb3⟩;clear L V T c0 c1 c2 c3 c4;go_wp2;refine Ag (Am rfl _ _ _) rfl ?_;exact⟨rfl,hB2.trans (hb3.mono hB2.size)⟩
  ·cases h
theorem Apr (f:CH.Formula) (vk:ZC) (w:ZB) (hK:A6 w w f vk) (hS:C7 f) (hc:f.count<=100000000) (hd:f.depth<=100000000) (h:bf f=none) : ZE prog 235 #[.agg (An f vk)] w (Ret w (.tuple #[.string ⟨#[]⟩,.int .i64 1])):=by
 have KB:=fun (W:ZB) (hb:Below w w W)=>A6.mono hb.size _ _ (A6.below hb nR _ _ hK);have L:=fun (W:ZB) (hb:Below w w W)=>Qm f vk W (KB W hb) hc hd;have V:=Aa fun (W:ZB) (hb:Below w w W)=>Tg f.depth f vk W nR (KB W hb) hS;have hB0:=Aa fun o=>(Ac _ w).alloc nR o;obtain⟨ak,ck,rfl,_,_,_⟩:=hK.form;unfold bf at h;generalize (ZH (f.count > 200)||ZH (f.depth > 20))=bl at *;replace L:=Aa L;have hcase:bl=true\/bl=false/\f.ok=false:=by
  cases bl with
  |true=>exact .inl rfl
  |false =>
   rw [Ah sM] at h;cases hb:f.ok with
   |false=>exact .inr ⟨rfl,rfl⟩
   |true=>rw [hb,Ar rfl] at h;cases h
 clear hK KB h hS hc hd;generalize f.ok=bo at *;generalize f.kids.length=KN at *;dsimp only [An] at *;rcases hcase with rfl|⟨rfl,rfl⟩;·go_enter func235,ntmps235;go_wp2_with fail;refine (L.out _ (hB0.out _)).mono ?_;rintro e w1 ⟨rfl,hb1⟩;have hB1:=(hB0.out _).trans (hb1.mono (hB0.out _).size);clear L V;exact FD96
 ·go_enter func235,ntmps235;go_wp2_with fail;have B:=hB0.out;generalize hWd:w.alloc _=W at *;have hBW:Below w w W:=by rw [<- hWd];exact B _
  have K:=Aa (Cv (C:=[↑f.op,↑f.name,↑f.cmp,↑f.n,.slice ak KN ck]) hWd);clear hWd hB0 B;refine (L.out _ hBW).mono ?_;rintro e w1 ⟨rfl,hb1⟩;have hB1:=hBW.trans (hb1.mono hBW.size);have c0:=K.out w1 hb1 0 _ rfl;have c1:=K.out w1 hb1 1 _ rfl;have c2:=K.out w1 hb1 2 _ rfl;have c3:=K.out w1 hb1 3 _ rfl;have c4:=K.out w1 hb1 4 _ rfl;go_wp2_with fail;refine (V.out _ hB1).mono ?_;rintro e w2 ⟨rfl,hb2⟩;have hB2:=hB1.trans (hb2.mono hB1.size);clear L V;exact FD95
theorem Yn (f:CH.Formula) (vk:ZC) (w:ZB) (hK:A6 w w f vk) (hS:C7 f) (hc:f.count<=100000000) (hd:f.depth<=100000000) : ∃ (t:List UInt8) (er:Int),((er != 0)=(bf f).isNone)/\∀ W,Below w w W->ZE prog 235 #[.agg (An f vk)] W (Ret W (.tuple #[↑t,↑er])):=by
 have KB:=fun (W:ZB) (hb:Below w w W)=>A6.mono hb.size _ _ (A6.below hb nR _ _ hK);cases h:bf f with
 |none=>exact⟨[],1,rfl,fun W hb=>Apr f vk W (KB W hb) hS hc hd h⟩
 |some t=>exact⟨t,0,rfl,fun W hb=>Qk f vk W t (KB W hb) hS h⟩
end
section
open Go.Lib Go.Proofs.Tryz Go.RowKit Go.Shelf Go.Sort CH
attribute [local irreducible] wpQuiet
theorem I58 {f:CH.Formula} {t:List UInt8} (hS:C7 f) (h:bf f=some t):t.length<=6000000:=by
 unfold bf at h;split at h;·cases h
 ·rename_i hl;simp only [Dy,Bl,La,Nat.not_lt] at hl;split at h;·rename_i hok;cases h;have:=Rp f hS hok;omega
  ·cases h
theorem Pd {n:Int} (h0:0<=n) (h1:n<=144001439):(ZK n).length<=21:=Lib.itoa_length_le n oM oM
theorem Hia {m:bD} {t:List UInt8} (h:cZ m=some t):∃ ft,bf m.aB=some ft/\aT m=true/\bg m=true /\ t=CH.join [32] ([dP m.kind]++(if m.target != [] then [m.target] else [])++[m.id,([111,102]:List UInt8),m.authority] ++ (if m.aB.op != 1 then [([105,102]:List UInt8),ft] else [])++[([102,114,111,109]:List UInt8),Go.Lib.itoa m.start]++(if m.aF >= 0 then [([117,110,116,105,108]:List UInt8),Go.Lib.itoa m.aF] else []) ++ (if m.dN > 0 then [([119,105,110,100]:List UInt8),Go.Lib.itoa m.dN] else []))++[59]:=by
 unfold cZ at h;split at h;·cases h
 ·rename_i ft hft;split at h;·rename_i hnd;rw [Aw] at hnd;cases h;exact⟨ft,hft,hnd.1,hnd.2,rfl⟩
  ·cases h
def Pc (k o:Int) (tg id au ft s1 s2 s3:List UInt8) (u x:Bool):List UInt8 := (if k=1 then ([102,111,114,98,105,100,32]:List UInt8) else if k=2 then ([101,120,101,109,112,116,32]:List UInt8)++tg++[32] else ([98,108,111,99,107,32]:List UInt8)++tg++[32])++id++([32,111,102,32]:List UInt8)++au++(if o != 1 then ([32,105,102,32]:List UInt8)++ft else []) ++ (([32,102,114,111,109,32]:List UInt8)++s1)++(if u then ([32,117,110,116,105,108,32]:List UInt8)++s2 else [])++(if x then ([32,119,105,110,100,32]:List UInt8)++s3 else [])++[59]
theorem Duo (m:bD) (ft:List UInt8) (hn:m.kind=1/\m.target=[]\/(m.kind=2\/m.kind=3)/\m.target≠[]) : CH.join [32] ([dP m.kind]++(if m.target != [] then [m.target] else [])++[m.id,([111,102]:List UInt8),m.authority] ++ (if m.aB.op != 1 then [([105,102]:List UInt8),ft] else [])++[([102,114,111,109]:List UInt8),Go.Lib.itoa m.start]++(if m.aF >= 0 then [([117,110,116,105,108]:List UInt8),Go.Lib.itoa m.aF] else []) ++ (if m.dN > 0 then [([119,105,110,100]:List UInt8),Go.Lib.itoa m.dN] else []))++[59]=Pc m.kind m.aB.op m.target m.id m.authority ft (Go.Lib.itoa m.start) (Go.Lib.itoa m.aF) (Go.Lib.itoa m.dN) (ZH (0<=m.aF)) (ZH (0<m.dN)):=by unfold Pc dP;generalize m.aB.op=o;generalize Go.Lib.itoa m.start=s1;generalize Go.Lib.itoa m.aF=s2;generalize Go.Lib.itoa m.dN=s3;generalize m.id=id;generalize m.authority=au;generalize m.aF=u;generalize m.dN=x;cases ho:(o != 1) <;> by_cases hu:0<=u <;> by_cases hx:0<x;all_goals rcases hn with⟨e1,e2⟩|⟨e1|e1,e2⟩;all_goals simp [e1,e2,hu,hx,CH.join]
theorem Yq (m:bD) (vk:ZC) (w:ZB) (t:List UInt8) (hK:A6 w w m.aB vk) (hS:C7 m.aB) (h:cZ m=some t) : ZE prog 183 #[.agg (A4 m vk).toArray] w (Ret w (.tuple #[↑t,.int .i64 0])):=by
 obtain⟨ft,hft,hn,hd,rfl⟩:=Hia h;have hlf:=I58 hS hft;have KB:=fun (W:ZB) (hb:Below w w W)=>A6.mono hb.size _ _ (A6.below hb nR _ _ hK);have T1:=Aa fun (W:ZB) (hb:Below w w W)=>Qk m.aB vk W ft (KB W hb) hS hft;have T2:=Aa fun (W:ZB) (hb:Below w w W)=>Col m vk W (KB W hb) hn;have T3:=Aa fun (W:ZB) (hb:Below w w W)=>Cst m vk W (KB W hb) hd;have hB0:=Aa fun o=>(Ac _ w).alloc nR o;obtain⟨ak,ck,rfl,_,_,_⟩:=hK.form;unfold bg at hd;simp only [Aw,Dy,D7,Bl] at hd;obtain⟨d1,d2,d3,d4,d5⟩:=hd;have hnm:CH.isName m.id=true/\CH.isName m.authority=true/\(m.kind=1/\m.target=[]\/(m.kind=2\/m.kind=3)/\CH.isName m.target=true):=by
  unfold aT at hn;simp only [kF] at hn;by_cases h1:m.kind=1;·rw [Ar h1] at hn;simp only [Aw,D7] at hn;exact⟨hn.1.1,hn.1.2,.inl ⟨h1,hn.2⟩⟩
  rw [Ah h1] at hn;by_cases h2:m.kind=2;·rw [Ar h2] at hn;simp only [Aw] at hn;exact⟨hn.1.1,hn.1.2,.inr ⟨.inl h2,hn.2.1⟩⟩
  rw [Ah h2] at hn;by_cases h3:m.kind=3;·rw [Ar h3] at hn;simp only [Aw] at hn;exact⟨hn.1.1,hn.1.2,.inr ⟨.inr h3,hn.2.1⟩⟩
  rw [Ah h3] at hn;cases hn
 obtain⟨n1,n2,n3⟩:=hnm;have l1:=(Bn n1).2;have l2:=(Bn n2).2;have l3:m.target.length<=24:=by
  rcases n3 with⟨_,e⟩|⟨_,e⟩;·rw [e];simp
  ·exact (Bn e).2
 have n3':m.kind=1/\m.target=[]\/(m.kind=2\/m.kind=3)/\m.target≠[]:=n3.imp id fun h=>⟨h.1,fun e=>by have:=(Bn h.2).1;rw [e] at this;simp at this⟩
 rw [Duo m ft n3'];obtain⟨R,hR⟩:∃ R,Hid (Pc m.kind m.aB.op m.target m.id m.authority ft (Go.Lib.itoa m.start) (Go.Lib.itoa m.aF) (Go.Lib.itoa m.dN) (ZH (0<=m.aF)) (ZH (0<m.dN))=R):=⟨_,Aa rfl⟩
 rw [hR.out];have D1:=Aa fun (W:ZB)=>C0 m.start W oM oM;have i1:=Pd (n:=m.start) oM oM;have D3:=Aa fun (W:ZB)=>C0 m.dN W oM (by split at d5 <;> omega);have i3:=Pd (n:=m.dN) oM (by split at d5 <;> omega);have D2:=Aa fun (h:0<=m.aF) (W:ZB)=>C0 m.aF W h oM;have i2:0<=m.aF->(ZK m.aF).length<=21:=fun h=>Pd h oM;have hk:m.kind=1\/m.kind=2\/m.kind=3:=oM;clear h hK KB hS hft d1 d2 d3 d4 d5 n1 n2 n3 n3' hn;generalize m.aB.kids.length=KN at *;dsimp only [A4,An] at *;generalize ZK m.start=s1 at *;generalize ZK m.aF=s2 at *;generalize ZK m.dN=s3 at *;have kr:∀ k:Int,m.kind=k->ZE prog 183 #[.agg #[↑m.id,↑m.authority,↑k,↑m.target,↑m.aB.op,↑m.aB.name,↑m.aB.cmp,↑m.aB.n,.slice ak KN ck,↑m.start,↑m.aF,↑m.dN]] w (Ret w (.tuple #[↑R,.int .i64 0]))->ZE prog 183 #[.agg #[↑m.id,↑m.authority,↑m.kind,↑m.target,↑m.aB.op,↑m.aB.name,↑m.aB.cmp,↑m.aB.n,.slice ak KN ck,↑m.start,↑m.aF,↑m.dN]] w (Ret w (.tuple #[↑R,.int .i64 0])):=fun k e h=>by rw [e];exact h
 rcases hk with hk|hk|hk;all_goals
  refine kr _ hk ?_;rw [hk] at hR T2 T3;clear kr hk;go_enter func183,ntmps183;go_wp2_with fail;have B:=hB0.out;generalize hWd:w.alloc _=W at *;have hBW:Below w w W:=by rw [<- hWd];exact B _
  have K:=Aa (Cv (C:=_) hWd);clear hWd hB0 B;refine (T1.out _ hBW).mono ?_;rintro e w1 ⟨rfl,hb1⟩;have hB1:=hBW.trans (hb1.mono hBW.size);have c0:=K.out w1 hb1 0 _ rfl;have c1:=K.out w1 hb1 1 _ rfl;have c2:=K.out w1 hb1 2 _ rfl;have c3:=K.out w1 hb1 3 _ rfl;have c4:=K.out w1 hb1 4 _ rfl;have c5:=K.out w1 hb1 5 _ rfl;have c6:=K.out w1 hb1 6 _ rfl;have c7:=K.out w1 hb1 7 _ rfl;have c8:=K.out w1 hb1 8 _ rfl;have c9:=K.out w1 hb1 9 _ rfl;have c10:=K.out w1 hb1 10 _ rfl;have c11:=K.out w1 hb1 11 _ rfl;go_wp2_with fail;refine (T2.out _ hB1).mono ?_;rintro e w2 ⟨rfl,hb2⟩;have hB2:=hB1.trans (hb2.mono hB1.size);replace hb2:=hb1.trans (hb2.mono hb1.size);clear c0 c1 c2 c3 c4 c5 c6 c7 c8 c9 c10 c11;have c0:=K.out w2 hb2 0 _ rfl;have c1:=K.out w2 hb2 1 _ rfl;have c2:=K.out w2 hb2 2 _ rfl;have c3:=K.out w2 hb2 3 _ rfl;have c4:=K.out w2 hb2 4 _ rfl;have c5:=K.out w2 hb2 5 _ rfl;have c6:=K.out w2 hb2 6 _ rfl;have c7:=K.out w2 hb2 7 _ rfl;have c8:=K.out w2 hb2 8 _ rfl;have c9:=K.out w2 hb2 9 _ rfl;have c10:=K.out w2 hb2 10 _ rfl;have c11:=K.out w2 hb2 11 _ rfl;go_wp2_with fail;refine (T3.out _ hB2).mono ?_;rintro e w3 ⟨rfl,hb3⟩;have hB3:=hB2.trans (hb3.mono hB2.size);replace hb3:=hb2.trans (hb3.mono hb2.size);clear c0 c1 c2 c3 c4 c5 c6 c7 c8 c9 c10 c11;have c0:=K.out w3 hb3 0 _ rfl;have c1:=K.out w3 hb3 1 _ rfl;have c2:=K.out w3 hb3 2 _ rfl;have c3:=K.out w3 hb3 3 _ rfl;have c4:=K.out w3 hb3 4 _ rfl;have c9:=K.out w3 hb3 9 _ rfl;clear T1 T2 T3;go_wp2_with fail;all_goals
   refine (D1.out _).mono ?_;rintro e w4 ⟨rfl,hb4⟩;have hB4:=hB3.trans (hb4.mono hB3.size);replace hb4:=hb3.trans (hb4.mono hb3.size);have c10:=K.out w4 hb4 10 _ rfl;have c11:=K.out w4 hb4 11 _ rfl;by_cases hu:0<=m.aF <;> by_cases hx:0<m.dN;·have ku:=Aa (Aj hu);have kx:=Aa (Aj hx);go_wp2_with fail;refine (D2.out hu _).mono ?_;rintro e w5 ⟨rfl,hb5⟩;have hB5:=hB4.trans (hb5.mono hB4.size);have hb5:=hb4.trans (hb5.mono hb4.size);clear c10 c11;have c10:=K.out w5 hb5 10 _ rfl;have c11:=K.out w5 hb5 11 _ rfl;go_wp2_with fail;refine (D3.out _).mono ?_;rintro e w6 ⟨rfl,hb6⟩;have hB6:=hB5.trans (hb6.mono hB5.size);clear c10 c11;go_wp2;refine Ag (Am rfl _ _ _) rfl ?_;refine⟨congrArg (fun b=>Ending.returned (.tuple #[.string b,.int .i64 0])) ?_,hB6⟩;rw [<- hR.out];clear hR D1 D2 D3 K hB4 hB3 hB2 hB1 hb4 hb3 hb2 hb1;simp only [Pc, *,ku.out,kx.out,decide_true,decide_false,Np,Kr,H6,Int.reduceEq,bytes_append,D9,Dp,Hz]
   ·have ku:=Aa (Aj hu);have kx:=Aa (Ak hx);go_wp2_with fail;refine (D2.out hu _).mono ?_;rintro e w5 ⟨rfl,hb5⟩;have hB5:=hB4.trans (hb5.mono hB4.size);have hb5:=hb4.trans (hb5.mono hb4.size);clear c10 c11;have c10:=K.out w5 hb5 10 _ rfl;have c11:=K.out w5 hb5 11 _ rfl;go_wp2;refine Ag (Am rfl _ _ _) rfl ?_;refine⟨congrArg (fun b=>Ending.returned (.tuple #[.string b,.int .i64 0])) ?_,hB5⟩;rw [<- hR.out];clear hR D1 D2 D3 K hB4 hB3 hB2 hB1 hb4 hb3 hb2 hb1;simp only [Pc, *,ku.out,kx.out,decide_true,decide_false,Np,Kr,H6,Int.reduceEq,bytes_append,D9,Dp,Hz]
   ·have ku:=Aa (Ak hu);have kx:=Aa (Aj hx);go_wp2_with fail;refine (D3.out _).mono ?_;rintro e w6 ⟨rfl,hb6⟩;have hB6:=hB4.trans (hb6.mono hB4.size);clear c10 c11;go_wp2;refine Ag (Am rfl _ _ _) rfl ?_;refine⟨congrArg (fun b=>Ending.returned (.tuple #[.string b,.int .i64 0])) ?_,hB6⟩;rw [<- hR.out];clear hR D1 D2 D3 K hB4 hB3 hB2 hB1 hb4 hb3 hb2 hb1;simp only [Pc, *,ku.out,kx.out,decide_true,decide_false,Np,Kr,H6,Int.reduceEq,bytes_append,D9,Dp,Hz]
   ·have ku:=Aa (Ak hu);have kx:=Aa (Ak hx);go_wp2;refine Ag (Am rfl _ _ _) rfl ?_;refine⟨congrArg (fun b=>Ending.returned (.tuple #[.string b,.int .i64 0])) ?_,hB4⟩;rw [<- hR.out];clear hR D1 D2 D3 K hB4 hB3 hB2 hB1 hb4 hb3 hb2 hb1;simp only [Pc, *,ku.out,kx.out,decide_true,decide_false,Np,Kr,H6,Int.reduceEq,bytes_append,D9,Dp,Hz]
theorem Yr (m:bD) (vk:ZC) (w:ZB) (hK:A6 w w m.aB vk) (hS:C7 m.aB) (hc:m.aB.count<=100000000) (hd:m.aB.depth<=100000000) (hi1:m.id.length<=9223372036854775807) (hi2:m.authority.length<=9223372036854775807) (hi3:m.target.length<=9223372036854775807) (h:cZ m=none) : ZE prog 183 #[.agg (A4 m vk).toArray] w (Ret w (.tuple #[.string ⟨#[]⟩,.int .i64 1])):=by
 have KB:=fun (W:ZB) (hb:Below w w W)=>A6.mono hb.size _ _ (A6.below hb nR _ _ hK);obtain⟨ft,er,her,T1⟩:=Yn m.aB vk w hK hS hc hd;have T2:=Aa fun (W:ZB) (hb:Below w w W)=>Ql m vk W (KB W hb) hi1 hi2 hi3;have T3:=Aa fun (W:ZB) (hb:Below w w W)=>Qp m vk W (KB W hb);replace T1:=Aa T1;have hB0:=Aa fun o=>(Ac _ w).alloc nR o;obtain⟨ak,ck,rfl,_,_,_⟩:=hK.form;have hcase:aT m=false\/aT m=true/\(bg m=false\/bg m=true/\(er != 0)=true):=by
  unfold cZ at h;cases hn:aT m with
  |false=>exact .inl rfl
  |true =>
   cases hd:bg m with
   |false=>exact .inr ⟨rfl,.inl rfl⟩
   |true =>
    refine .inr ⟨rfl,.inr ⟨rfl,?_⟩⟩;rw [her];cases hf:bf m.aB with
    |none=>rfl
    |some t =>rw [hf] at h;simp [hn,hd] at h
 clear her hK KB hS hc hd hi1 hi2 hi3 h;generalize aT m=bn at *;generalize bg m=bd at *;generalize m.aB.kids.length=KN at *;dsimp only [A4,An] at *;rcases hcase with rfl|⟨rfl,rfl|⟨rfl,q⟩⟩;all_goals
  go_enter func183,ntmps183;go_wp2_with fail;have B:=hB0.out;generalize hWd:w.alloc _=W at *;have hBW:Below w w W:=by rw [<- hWd];exact B _
  have K:=Aa (Cv (C:=_) hWd);clear hWd hB0 B;refine (T1.out _ hBW).mono ?_;rintro e w1 ⟨rfl,hb1⟩;have hB1:=hBW.trans (hb1.mono hBW.size);have c0:=K.out w1 hb1 0 _ rfl;have c1:=K.out w1 hb1 1 _ rfl;have c2:=K.out w1 hb1 2 _ rfl;have c3:=K.out w1 hb1 3 _ rfl;have c4:=K.out w1 hb1 4 _ rfl;have c5:=K.out w1 hb1 5 _ rfl;have c6:=K.out w1 hb1 6 _ rfl;have c7:=K.out w1 hb1 7 _ rfl;have c8:=K.out w1 hb1 8 _ rfl;have c9:=K.out w1 hb1 9 _ rfl;have c10:=K.out w1 hb1 10 _ rfl;have c11:=K.out w1 hb1 11 _ rfl;go_wp2_with fail;refine (T2.out _ hB1).mono ?_;rintro e w2 ⟨rfl,hb2⟩;have hB2:=hB1.trans (hb2.mono hB1.size);replace hb2:=hb1.trans (hb2.mono hb1.size);clear c0 c1 c2 c3 c4 c5 c6 c7 c8 c9 c10 c11
 ·exact FD95
 all_goals have c0:=K.out w2 hb2 0 _ rfl;have c1:=K.out w2 hb2 1 _ rfl;have c2:=K.out w2 hb2 2 _ rfl;have c3:=K.out w2 hb2 3 _ rfl;have c4:=K.out w2 hb2 4 _ rfl;have c5:=K.out w2 hb2 5 _ rfl;have c6:=K.out w2 hb2 6 _ rfl;have c7:=K.out w2 hb2 7 _ rfl;have c8:=K.out w2 hb2 8 _ rfl;have c9:=K.out w2 hb2 9 _ rfl;have c10:=K.out w2 hb2 10 _ rfl;have c11:=K.out w2 hb2 11 _ rfl;go_wp2_with fail;refine (T3.out _ hB2).mono ?_;rintro e w3 ⟨rfl,hb3⟩;have hB3:=hB2.trans (hb3.mono hB2.size);clear c0 c1 c2 c3 c4 c5 c6 c7 c8 c9 c10 c11;go_wp2;refine Ag (Am rfl _ _ _) rfl ?_;exact⟨rfl,hB3⟩
end
section
open Go.Lib Go.Proofs.Tryz Go.RowKit Go.Shelf Go.Sort CH
attribute [local irreducible] wpQuiet
def chH (k:Int) (id ps:List UInt8):List UInt8 :=
 if k=1 then ([97,100,100,32]:List UInt8)++id++[32]++ps else if k=2 then ([114,101,109,111,118,101,32]:List UInt8)++id++[32]++ps else if k=3 then ([99,111,114,114,101,99,116,32]:List UInt8)++id else ([118,111,105,100,32]:List UInt8)++id
def K9 (n:CH.Name):List UInt8:=[32,34]++aV n++[34]
def chT (k:Int) (id ps:List UInt8) (ns:List CH.Name):List UInt8:=chH k id ps++(ns.map K9).flatten
theorem Rq (k:Int) (id ps:List UInt8) (ns:List CH.Name) (n:CH.Name):chT k id ps (ns++[n])=chT k id ps ns++K9 n:=by unfold chT;simp
theorem Ety (A:List (List UInt8)) (hA:A≠[]) (ns:List CH.Name):CH.join [32] (A++ns.map fun n=>[34]++aV n++[34])=CH.join [32] A++(ns.map K9).flatten:=by
 induction ns generalizing A with
 |nil=>simp
 |cons n l ih =>have h:=ih (A++[[34]++aV n++[34]]) sM;rw [D9,List.singleton_append] at h;rw [F9,h,N4,Ah hA];simp [K9]
theorem Va {c:CH.Change} {t:List UInt8} (h:bJ c=some t):dh c=true/\(1<=c.kind/\c.kind<=4)/\t=chT c.kind c.id (ZK c.pos) c.entry.names++[59]:=by
 unfold bJ at h;split at h
 ·rename_i hok;have hk:1<=c.kind/\c.kind<=4:=by
   unfold dh at hok;dsimp only at hok;split at hok;·cases hok
   ·rename_i h1;simp only [Dy,Fz,Bl,La,Jk,Int.not_lt] at h1;omega
  cases h;refine⟨hok,hk,?_⟩;rw [Ety _ sM];unfold chT chH CH.kindWord;rcases (oM:c.kind=1\/c.kind=2\/c.kind=3\/c.kind=4) with e|e|e|e;all_goals simp [e,CH.join]
 ·cases h
theorem Aug (c:CH.Change) (v:ZC) (w:ZB) (t:List UInt8) (hv:Ds w w v c.entry.names) (hS:∀ n∈c.entry.names,Fd n.words) (h:bJ c=some t) : ZE prog 182 #[.agg (Bb c v).toArray] w (Ret w (.tuple #[↑t,.int .i64 0])):=by
 obtain⟨hok,hk,rfl⟩:=Va h;have hS6:∀ n∈c.entry.names,∀ l∈n.words,l.length<=1000000:=fun n hn l hl=>Af ((hS n hn).2 l hl) oM;have F:=Aa fun (W:ZB) (hb:Below w w W)=>At0 c v W (Gr.grow hv hb) hS6 hok;have hf:CH.isName c.id=true/\((c.kind=1\/c.kind=2)->0<=c.pos/\c.pos<=144001439)/\c.entry.names.length<=8/\∀ n∈c.entry.names,bH n=true:=by
  unfold dh at hok;dsimp only at hok;split at hok;·cases hok
  ·rename_i h1;simp only [Dy,Fz,Bl,La,Jk,Int.not_lt] at h1;refine⟨jV h1.1.1,?_⟩;unfold dL aW at hok;rcases (oM:c.kind=1\/c.kind=2\/c.kind=3\/c.kind=4) with e|e|e|e;all_goals simp [e] at hok ⊢;first |(obtain⟨⟨a1,a2,a3,a4,a5⟩,a6⟩:=hok;exact⟨oM,a4,a5⟩) |(obtain⟨⟨a1,a2,a3,a4,a5⟩,a6⟩:=hok;exact⟨a4,a5⟩) |(obtain⟨⟨a1,a2⟩,a6⟩:=hok;rw [a2];simp;omega) |(obtain⟨⟨a1,a2⟩,a6⟩:=hok;rw [a2];simp)
 obtain⟨hn,hp,hN8,hno⟩:=hf;have hil:=(Bn hn).2;have C:=Aa fun (k:Nat) (x:CH.Name) (hk:c.entry.names[k]?=some x)=>fun (vw:ZC) (W:ZB) (hvw:Strs W W vw x.words)=>V9 x vw W hvw (hS6 x (Aq hk)) (hno x (Aq hk)) (Af (Q4 x (hno x (Aq hk)) (hS x (Aq hk))) oM);have HQ:=Aa fun (k:Nat) (x:CH.Name) (hk:c.entry.names[k]?=some x)=>Q4 x (hno x (Aq hk)) (hS x (Aq hk));have D:=Aa fun (h:0<=c.pos/\c.pos<=144001439) (W:ZB)=>C0 c.pos W h.1 oM;have hpl:(0<=c.pos/\c.pos<=144001439)->(ZK c.pos).length<=21:=fun h=>Pd h.1 h.2;have hB0:=Aa fun o=>(Ac _ w).alloc nR o;obtain⟨a,cap,rfl,hl,hcap,hne⟩:=hv;replace hne:=Aa hne;obtain⟨R,hR⟩:∃ R,Hid (chT c.kind c.id (ZK c.pos) c.entry.names++[59]=R):=⟨_,Aa rfl⟩
 rw [hR.out];dsimp only [Bb] at *;generalize ZK c.pos=ps at *;generalize c.pos=ps0 at *;generalize c.entry.names=ns at *;generalize c.entry.id=eid at *;generalize c.id=id at *;generalize c.kind=kd at *;obtain⟨N,hN⟩:∃ N,ns.length=N:=⟨_,rfl⟩
 rw [hN] at hl hN8 F ⊢;replace hN:=Aa hN;clear hS hS6 hno h hok hn;rcases (oM:kd=1\/kd=2\/kd=3\/kd=4) with rfl|rfl|rfl|rfl
 ·have hpp:=hp oM;have hpl:=hpl hpp;have hq1:¬ 9223372036854775807<4+List.length id:=oM;have hq2:¬ 9223372036854775807<4+List.length id+1:=oM;have hq3:¬ 9223372036854775807<4+List.length id+1+ps.length:=oM;have D:=Aa (D.out hpp);clear hpp hp;go_enter func182,ntmps182;go_wp2_with fail;have B:=hB0.out;generalize hWd:w.alloc _=W at *;have hBW:Below w w W:=by rw [<- hWd];exact B _
  have K:=Aa (Cv (C:=[.int .i64 1,↑id,↑eid,.slice a N cap,↑ps0]) hWd);clear hWd hB0 B;refine (F.out _ hBW).mono ?_;rintro e w1 ⟨rfl,hb1⟩;have hB1:=hBW.trans (hb1.mono hBW.size);have c0:=K.out w1 hb1 0 _ rfl;have c1:=K.out w1 hb1 1 _ rfl;have c4:=K.out w1 hb1 4 _ rfl;clear F;have g1:=@Ae _ _ _ c1;have g4:=@Ae _ _ _ c4;go_wp2_with fail;refine Bc kR kR ?_;repeat (quiet_step ((with_reducible exact Bd (D.out _))))
  refine Cm ?_;intro wq hbq;replace hbq:=As hbq;clear g1 g4;have hBw:=Aa (hB1.trans (hbq.mono hB1.size));have hbw:=Aa (hb1.trans (hbq.mono hb1.size));clear D c0 c1 c4 hbq;have c0:=K.out _ hbw.out 0 _ rfl;have c1:=K.out _ hbw.out 1 _ rfl;go_wp2_with fail;go_loopw [4,5] (fun sv iv wr=>∃ (k:Nat) (t:List UInt8),k<=N/\iv=↑k/\sv=↑t/\t.length<=100+k*61000/\Hid (t=chT 1 id ps (ns.take k))/\Hid (Below w w wr)/\Hid (Below W W wr)) (fun _ iv _=>N - (ZG iv).toNat);case atStart=>exact⟨0,([97,100,100,32]:List UInt8)++id++[32]++ps,Bg _,rfl,by simp only [bytes_append],by simp only [Au,Ba,Bj];omega,Aa (by simp [chT,chH]),hBw,hbw⟩
  case round =>
   obtain⟨k,t,hk,rfl,rfl,htl,ht,hBr,hb⟩:=hrel;have c3:=K.out wr hb.out 3 _ rfl;by_cases hlt:k<N
   ·obtain⟨b,off,rfl,hbl,hcells⟩:=hne.out (by intro h;have:=hN.out;simp [h] at this;omega);obtain⟨n,hn'⟩:∃ n,ns[k]?=some n:=⟨_,Ad (by rw [hN.out];exact hlt)⟩
    obtain⟨vw,d1,d2,d3⟩:=hcells k n hn';have e1:=(hBr.out.cell (p:=⟨b,off+k*2,none⟩) hbl).trans d1;have e2:=(hBr.out.cell (p:=⟨b,off+k*2+1,none⟩) hbl).trans d2;have F:=Aa (C.out k n hn' vw wr ((d3.below hBr.out nR).mono hBr.out.size));have hs:chT 1 id ps (ns.take (k+1))=t++K9 n:=by rw [Ee,hn',Gh,Rq,ht.out]
    exact FD7
   ·exact FD18
 ·have hpp:=hp oM;have hpl:=hpl hpp;have hq1:¬ 9223372036854775807<7+List.length id:=oM;have hq2:¬ 9223372036854775807<7+List.length id+1:=oM;have hq3:¬ 9223372036854775807<7+List.length id+1+ps.length:=oM;have D:=Aa (D.out hpp);clear hpp hp;go_enter func182,ntmps182;go_wp2_with fail;have B:=hB0.out;generalize hWd:w.alloc _=W at *;have hBW:Below w w W:=by rw [<- hWd];exact B _
  have K:=Aa (Cv (C:=[.int .i64 2,↑id,↑eid,.slice a N cap,↑ps0]) hWd);clear hWd hB0 B;refine (F.out _ hBW).mono ?_;rintro e w1 ⟨rfl,hb1⟩;have hB1:=hBW.trans (hb1.mono hBW.size);have c0:=K.out w1 hb1 0 _ rfl;have c1:=K.out w1 hb1 1 _ rfl;have c4:=K.out w1 hb1 4 _ rfl;clear F;have g1:=@Ae _ _ _ c1;have g4:=@Ae _ _ _ c4;go_wp2_with fail;refine Bc kR kR ?_;repeat (quiet_step ((with_reducible exact Bd (D.out _))))
  refine Cm ?_;intro wq hbq;replace hbq:=As hbq;clear g1 g4;have hBw:=Aa (hB1.trans (hbq.mono hB1.size));have hbw:=Aa (hb1.trans (hbq.mono hb1.size));clear D c0 c1 c4 hbq;have c0:=K.out _ hbw.out 0 _ rfl;have c1:=K.out _ hbw.out 1 _ rfl;go_wp2_with fail;go_loopw [4,5] (fun sv iv wr=>∃ (k:Nat) (t:List UInt8),k<=N/\iv=↑k/\sv=↑t/\t.length<=100+k*61000/\Hid (t=chT 2 id ps (ns.take k))/\Hid (Below w w wr)/\Hid (Below W W wr)) (fun _ iv _=>N - (ZG iv).toNat);case atStart=>exact⟨0,([114,101,109,111,118,101,32]:List UInt8)++id++[32]++ps,Bg _,rfl,by simp only [bytes_append],by simp only [Au,Ba,Bj];omega,Aa (by simp [chT,chH]),hBw,hbw⟩
  case round =>
   obtain⟨k,t,hk,rfl,rfl,htl,ht,hBr,hb⟩:=hrel;have c3:=K.out wr hb.out 3 _ rfl;by_cases hlt:k<N
   ·obtain⟨b,off,rfl,hbl,hcells⟩:=hne.out (by intro h;have:=hN.out;simp [h] at this;omega);obtain⟨n,hn'⟩:∃ n,ns[k]?=some n:=⟨_,Ad (by rw [hN.out];exact hlt)⟩
    obtain⟨vw,d1,d2,d3⟩:=hcells k n hn';have e1:=(hBr.out.cell (p:=⟨b,off+k*2,none⟩) hbl).trans d1;have e2:=(hBr.out.cell (p:=⟨b,off+k*2+1,none⟩) hbl).trans d2;have F:=Aa (C.out k n hn' vw wr ((d3.below hBr.out nR).mono hBr.out.size));have hs:chT 2 id ps (ns.take (k+1))=t++K9 n:=by rw [Ee,hn',Gh,Rq,ht.out]
    exact FD7
   ·exact FD18
 ·clear hp hpl D;go_enter func182,ntmps182;go_wp2_with fail;have B:=hB0.out;generalize hWd:w.alloc _=W at *;have hBW:Below w w W:=by rw [<- hWd];exact B _
  have K:=Aa (Cv (C:=[.int .i64 3,↑id,↑eid,.slice a N cap,↑ps0]) hWd);clear hWd hB0 B;refine (F.out _ hBW).mono ?_;rintro e w1 ⟨rfl,hb1⟩;have hB1:=hBW.trans (hb1.mono hBW.size);have c0:=K.out w1 hb1 0 _ rfl;have c1:=K.out w1 hb1 1 _ rfl;have c4:=K.out w1 hb1 4 _ rfl;clear F;have hBw:=Aa hB1;have hbw:=Aa hb1;go_wp2_with fail;go_loopw [4,5] (fun sv iv wr=>∃ (k:Nat) (t:List UInt8),k<=N/\iv=↑k/\sv=↑t/\t.length<=100+k*61000/\Hid (t=chT 3 id ps (ns.take k))/\Hid (Below w w wr)/\Hid (Below W W wr)) (fun _ iv _=>N - (ZG iv).toNat);case atStart=>exact⟨0,([99,111,114,114,101,99,116,32]:List UInt8)++id,Bg _,rfl,by simp only [bytes_append],by simp only [Au,Ba,Bj];omega,Aa (by simp [chT,chH]),hBw,hbw⟩
  case round =>
   obtain⟨k,t,hk,rfl,rfl,htl,ht,hBr,hb⟩:=hrel;have c3:=K.out wr hb.out 3 _ rfl;by_cases hlt:k<N
   ·obtain⟨b,off,rfl,hbl,hcells⟩:=hne.out (by intro h;have:=hN.out;simp [h] at this;omega);obtain⟨n,hn'⟩:∃ n,ns[k]?=some n:=⟨_,Ad (by rw [hN.out];exact hlt)⟩
    obtain⟨vw,d1,d2,d3⟩:=hcells k n hn';have e1:=(hBr.out.cell (p:=⟨b,off+k*2,none⟩) hbl).trans d1;have e2:=(hBr.out.cell (p:=⟨b,off+k*2+1,none⟩) hbl).trans d2;have F:=Aa (C.out k n hn' vw wr ((d3.below hBr.out nR).mono hBr.out.size));have hs:chT 3 id ps (ns.take (k+1))=t++K9 n:=by rw [Ee,hn',Gh,Rq,ht.out]
    exact FD7
   ·exact FD18
 ·clear hp hpl D;go_enter func182,ntmps182;go_wp2_with fail;have B:=hB0.out;generalize hWd:w.alloc _=W at *;have hBW:Below w w W:=by rw [<- hWd];exact B _
  have K:=Aa (Cv (C:=[.int .i64 4,↑id,↑eid,.slice a N cap,↑ps0]) hWd);clear hWd hB0 B;refine (F.out _ hBW).mono ?_;rintro e w1 ⟨rfl,hb1⟩;have hB1:=hBW.trans (hb1.mono hBW.size);have c0:=K.out w1 hb1 0 _ rfl;have c1:=K.out w1 hb1 1 _ rfl;have c4:=K.out w1 hb1 4 _ rfl;clear F;have hBw:=Aa hB1;have hbw:=Aa hb1;go_wp2_with fail;go_loopw [4,5] (fun sv iv wr=>∃ (k:Nat) (t:List UInt8),k<=N/\iv=↑k/\sv=↑t/\t.length<=100+k*61000/\Hid (t=chT 4 id ps (ns.take k))/\Hid (Below w w wr)/\Hid (Below W W wr)) (fun _ iv _=>N - (ZG iv).toNat);case atStart=>exact⟨0,([118,111,105,100,32]:List UInt8)++id,Bg _,rfl,by simp only [bytes_append],by simp only [Au,Ba,Bj];omega,Aa (by simp [chT,chH]),hBw,hbw⟩
  case round =>
   obtain⟨k,t,hk,rfl,rfl,htl,ht,hBr,hb⟩:=hrel;have c3:=K.out wr hb.out 3 _ rfl;by_cases hlt:k<N
   ·obtain⟨b,off,rfl,hbl,hcells⟩:=hne.out (by intro h;have:=hN.out;simp [h] at this;omega);obtain⟨n,hn'⟩:∃ n,ns[k]?=some n:=⟨_,Ad (by rw [hN.out];exact hlt)⟩
    obtain⟨vw,d1,d2,d3⟩:=hcells k n hn';have e1:=(hBr.out.cell (p:=⟨b,off+k*2,none⟩) hbl).trans d1;have e2:=(hBr.out.cell (p:=⟨b,off+k*2+1,none⟩) hbl).trans d2;have F:=Aa (C.out k n hn' vw wr ((d3.below hBr.out nR).mono hBr.out.size));have hs:chT 4 id ps (ns.take (k+1))=t++K9 n:=by rw [Ee,hn',Gh,Rq,ht.out]
    exact FD7
   ·exact FD18
theorem Bad (c:CH.Change) (v:ZC) (w:ZB) (hv:Ds w w v c.entry.names) (hS:∀ n∈c.entry.names,∀ l∈n.words,l.length<=1000000) (hi:c.id.length<=9223372036854775807) (hi2:c.entry.id.length<=9223372036854775807) (h:bJ c=none) : ZE prog 182 #[.agg (Bb c v).toArray] w (Ret w (.tuple #[.string ⟨#[]⟩,.int .i64 1])):=by
 have hok:dh c=false:=by
  unfold bJ at h;split at h;·cases h
  ·rename_i e;simpa using e
 have F:=Aa fun (W:ZB) (hb:Below w w W)=>Ou c v W (Gr.grow hv hb) hS hi hi2;rw [hok] at F;have hB0:=Aa fun o=>(Ac _ w).alloc nR o;obtain⟨a,cap,rfl,_,_,_⟩:=hv;clear hS hi hi2 h hok;generalize c.entry.names.length=N at *;dsimp only [Bb] at *;go_enter func182,ntmps182;go_wp2_with fail;refine (F.out _ (hB0.out _)).mono ?_;rintro e w1 ⟨rfl,hb1⟩;have hB1:=(hB0.out _).trans (hb1.mono (hB0.out _).size);exact FD96
end
end Go.Proofs.YtdgmgjeoikcgbaaGreatDoor
