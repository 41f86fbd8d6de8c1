/- ChainTexts, part 7 of 31. -/
import Derived.Test.YtkboocifdaebgaaGreatDoorP03
import Derived.Test.YtkboocifdaebgaaGreatDoorP04
import Derived.Test.YtkboocifdaebgaaGreatDoorP05
set_option linter.all false
set_option maxHeartbeats 40000000
set_option maxRecDepth 100000
open Go renaming World -> ZB, Value -> ZC, Calls -> ZE, redrawn -> ZI
open Go.RowKit renaming intOf -> ZG
open Decidable renaming decide -> ZH
open Go.Lib renaming itoa -> ZK
open Go.World renaming alloc -> ZM
namespace Go.Proofs.Y
section
open Go.Lib Go.Proofs.Tryz Go.RowKit CH
theorem Lk2 (ch:UInt8):bits BinOp.or IntKind.u8 (ch.toNat:Int) 32=(((ch ||| 32).toNat:Nat):Int):=by have:∀ n:Fin 256,bits BinOp.or IntKind.u8 ((UInt8.ofNat n.val).toNat:Int) 32=(((UInt8.ofNat n.val ||| 32).toNat:Nat):Int):=nah;have h:=this ⟨ch.toNat,Fz ch⟩;simpa using h
theorem Tz (s:Q00) (w:ZB) (hs:s.length<=4611686018427387904) : ZE prog 177 #[↑s] w (fun e w'=>e=.returned (.bool (fU s))/\Below w w w'):=by
 go_in;go_wp2_with fail;go_loopw [9] (fun iv wr=>∃ k:Nat,k<=s.length/\iv=↑k/\Hid (CH.upTo jc nM s k=true)/\Below w w wr) (fun iv _=>s.length - (ZG iv).toNat);case atStart=>exact⟨0,Ak _,rfl,Aa (CH.upTo_zero _ _ _),Ac _ _⟩
 case round =>
  obtain⟨k,hk,rfl,hu,hb⟩:=hrel;by_cases hlt:k<s.length
  ·obtain⟨ch,hch⟩:∃ ch,s[k]?=some ch:=⟨_,Ae hlt⟩
   have hgk:=Qv s k hlt ch hch;have Hch:=Aa hch;clear hch;have hcb:=Fz ch;have good:∀ b:Bool,(if k=0 then jc ch else nM ch)=b->(b=true->CH.upTo jc nM s (k+1)=true)/\(b=false->fU s=false):=fun b hb =>⟨fun h=>by rw [CH.upTo_succ _ _ _ _ _ Hch.out,hu.out,hb,h];rfl,fun h=>by rw [qQ,CH.upTo_false _ _ _ _ _ Hch.out (hb.trans h)];rfl⟩
   have G:=Aa good;clear good;go_wp2_with fail;rw [Lk2];obtain⟨b1,h1⟩:=naa (ZH ((97:Int)<=(((ch ||| 32).toNat:Nat):Int)));obtain⟨b2,h2⟩:=naa (ZH ((((ch ||| 32).toNat:Nat):Int)<=(122:Int)));obtain⟨b3,h3⟩:=naa (ZH ((48:Int)<=((ch.toNat:Nat):Int)));obtain⟨b4,h4⟩:=naa (ZH (((ch.toNat:Nat):Int)<=(57:Int)));obtain⟨b5,h5⟩:=naa (((ch.toNat:Nat):Int)==(95:Int));obtain⟨b6,h6⟩:=naa (((k:Nat):Int)==(0:Int));have hval:(if k=0 then jc ch else nM ch)=(if b6=true then b1&&b2 else b1&&b2||(b3&&b4||b5)):=by
    have e6:(b6=true)=(k=0):=by rw [<- h6];simp
    have e5:(ch==95)=b5:=by rw [CH.beq_toNat,<- h5,Fv];simp;omega
    have e1:ZH (97<=(ch ||| 32).toNat)=b1:=by rw [<- h1];exact Ed.2 oM
    have e2:ZH ((ch ||| 32).toNat<=122)=b2:=by rw [<- h2];exact Ed.2 oM
    have e3:ZH (48<=ch.toNat)=b3:=by rw [<- h3];exact Ed.2 oM
    have e4:ZH (ch.toNat<=57)=b4:=by rw [<- h4];exact Ed.2 oM
    simp only [nM,jc,e1,e2,e3,e4,e5,e6]
   have hv:=G.out _ hval;clear hval G;have HV:=Aa hv;clear hv;generalize (ch ||| 32).toNat=m at *;rcases (by cases b1 <;> cases b2 <;> simp:(b1=false)\/(b1=true/\b2=false)\/(b1=true/\b2=true)) with rfl|⟨rfl,rfl⟩|⟨rfl,rfl⟩;all_goals rcases (by cases b3 <;> cases b4 <;> cases b5 <;> simp:(b3=false/\b5=false)\/(b3=false/\b5=true)\/(b3=true/\b4=true)\/(b3=true/\b4=false/\b5=false)\/(b3=true/\b4=false/\b5=true)) with⟨rfl,rfl⟩|⟨rfl,rfl⟩|⟨rfl,rfl⟩|⟨rfl,rfl,rfl⟩|⟨rfl,rfl,rfl⟩
   all_goals
    go_quiet (fail);cases b6;all_goals
     go_wp2;first
      |(go_roundw
        case rel=>exact⟨k+1,oM,by go_num,Aa (HV.out.1 rfl),Go.below_drewN hb _⟩
        case measure=>simp [ZG];omega)
      |(go_ret
        exact⟨by rw [HV.out.2 rfl];rfl,Go.below_drewN hb _⟩)
  ·have e:k=s.length:=oM;subst e;have hres:fU s=(s != []&&ZH (s.length<=24)):=by rw [qQ,hu.out];rfl
   have Hr:=Aa hres;clear hres;cases s with
   |nil =>go_wp2;go_ret;exact⟨by rw [Hr.out];rfl,hb⟩
   |cons c l =>have z1:((⟨(c::l).toArray⟩:ByteArray) != ⟨#[]⟩)=true:=rfl;go_wp2;go_ret;refine⟨?_,hb⟩;rw [Hr.out];simp;rw [show (c::l != [])=true from rfl,a_Bool_true_and];exact Ed.2 oM
end
section
open Go.Lib Go.Proofs.Tryz Go.RowKit Go.Shelf Go.Sort CH
def Ans:List ByteArray:=[⟨([111,114]:Q00).toArray⟩,⟨([97,110,100]:Q00).toArray⟩,⟨([110,111,116]:Q00).toArray⟩,⟨([116,114,117,101]:Q00).toArray⟩,⟨([102,97,108,115,101]:Q00).toArray⟩]
theorem Chs (s:Q00):Lib.containsS (Ans.take 5) ⟨s.toArray⟩=CH.isKey s:=by rw [Fv,Lib.containsS_iff];simp [Ans,CH.isKey]
theorem Q3 (s:Q00) (w:ZB):ZE prog 173 #[↑s] w (Ret w (.bool (CH.isKey s))):=by have A:=fun t=>Tryz.slices_Contains_string w 0 5 5 Ans ⟨s.toArray⟩ (w.alloc (.cells #[.string ⟨([111,114]:Q00).toArray⟩,.string ⟨([97,110,100]:Q00).toArray⟩,.string ⟨([110,111,116]:Q00).toArray⟩,.string ⟨([116,114,117,101]:Q00).toArray⟩,.string ⟨([102,97,108,115,101]:Q00).toArray⟩] t)) dC dC (fun j hj=>by rw [Ba,Cb];have:j<5:=hj;rcases (oM:j=0\/j=1\/j=2\/j=3\/j=4) with rfl|rfl|rfl|rfl|rfl <;> rfl);rw [Chs] at A;have A:=Aa A;go_in;go_wp2_with fail;refine CmZ (A.out _) fun w1 hw1=>?_;rw [hw1];clear A hw1 w1;go_wp2;go_ret;exact⟨rfl,(Ac _ w).alloc nR _⟩
theorem Z8 (op cmp n:Int) (name:Q00) (ak:Option Addr) (nk ck:Nat) (w:ZB) (hn:name.length<=20000) : ZE prog 172 #[.agg #[↑op,↑name,↑cmp,↑n,.slice ak nk ck]] w (Ret w (.bool (jG op name cmp n nk))):=by
 obtain⟨r,hr⟩:=naa (jG op name cmp n nk);rw [hr];unfold jG at hr;have hB0:=fun o=>(Ac _ w).alloc nR o;have hW:=fun o=>Ag w o;by_cases h3:op=3
 ·subst h3;rw [Ah rfl] at hr;have I:=fun w'=>Xe name w' hn;have Y:=fun w'=>Q3 name w';obtain⟨bi,ei⟩:=naa (CH.ident name);obtain⟨by_,ey⟩:=naa (CH.isKey name);rw [ei] at I hr;rw [ey] at Y hr;replace I:=Aa I;replace Y:=Aa Y;clear ei ey;by_cases h0:nk=0
  ·have d0:=nak nk 0;by_cases h1:1<=cmp
   ·have d1:ZH (1<=cmp)=true:=by simpa using h1
    by_cases h6:cmp<=6
    ·have d6:ZH (cmp<=6)=true:=by simpa using h6
     have hr1:r=(bi&&!by_):=by rw [<- hr,d1,d6,Eh.2 h0];rfl
     clear hr;subst hr1;go_in;go_wp2_with fail;refine CmZ (I.out _) fun w1 hb1=>?_;have hB1:Below w w w1:=(hB0 _).trans (hb1.mono sM);have hblk:=(hb1.block w sM).trans (hW _);have k1:w1.cell? ⟨w,1,none⟩=some ↑name:=Ab hblk 1;clear I hb1 hW hB0;cases bi with
     |false =>clear Y;exact FD25
     |true =>go_wp2_with fail;refine CmZ (Y.out _) fun w2 hb2=>?_;clear Y;exact FD69
    ·have d6:ZH (cmp<=6)=false:=by simpa using h6
     have hr1:r=false:=by rw [<- hr,d6];simp
     clear hr I Y;subst hr1;exact FD26
   ·have d1:ZH (1<=cmp)=false:=by simpa using h1
    have hr1:r=false:=by rw [<- hr,d1];simp
    clear hr I Y;subst hr1;exact FD26
  ·have d0:=nal nk 0;have hr1:r=false:=by rw [<- hr,Dl.2 h0];rfl
   clear hr I Y;subst hr1;exact FD26
 rw [Ai h3] at hr;have z3:(op==3)=false:=by simpa using h3
 have te:=I0 name;by_cases hz:(name != []||cmp != 0||n != 0)=true
 ·rw [Ah hz] at hr;subst hr;cases hx:(name != []) with
  |true =>rw [hx] at te;replace te:List.isEmpty name=false:=te;exact FD26
  |false =>
   rw [hx] at te hz;replace te:List.isEmpty name=true:=te;cases hy:(cmp != 0) with
   |true =>exact FD26
   |false =>rw [hy] at hz;replace hz:(n != 0)=true:=hz;exact FD26
 ·rw [Ai hz] at hr;have hz':(name != []||cmp != 0||n != 0)=false:=by simpa using hz
  simp only [Ez] at hz';obtain⟨⟨hx,hy⟩,hnn⟩:=hz';rw [hx] at te;replace te:List.isEmpty name=true:=te;clear hz;by_cases o1:op=1
  ·subst o1;have hr1:r=((nk:Int)==0):=by rw [<- hr,Ah (.inl rfl),Fv];simp
   clear hr;subst hr1;exact FD26
  by_cases o2:op=2
  ·subst o2;have hr1:r=((nk:Int)==0):=by rw [<- hr,Ah (.inr rfl),Fv];simp
   clear hr;subst hr1;exact FD26
  rw [Ai oM] at hr;by_cases o4:op=4
  ·subst o4;have hr1:r=((nk:Int)==1):=by rw [<- hr,Ah rfl,Fv];simp;omega
   clear hr;subst hr1;exact FD26
  rw [Ai o4] at hr;have y1:(op==1)=false:=by simpa using o1
  have y2:(op==2)=false:=by simpa using o2
  have y4:(op==4)=false:=by simpa using o4
  have hd:ZH (2<=nk)=ZH ((2:Int)<=(nk:Int)):=Ed.2 oM;rw [hd] at hr;clear hd;cases y5:(op==5) with
  |true =>rw [y5] at hr;subst hr;exact FD26
  |false =>
   rw [y5] at hr;cases y6:(op==6) with
   |true =>rw [y6] at hr;subst hr;exact FD26
   |false =>rw [y6] at hr;subst hr;exact FD26
def Lf:Array ZC:=#[.string ⟨#[]⟩,.string ⟨([61]:Q00).toArray⟩,.string ⟨([33,61]:Q00).toArray⟩,.string ⟨([60]:Q00).toArray⟩,.string ⟨([60,61]:Q00).toArray⟩,.string ⟨([62]:Q00).toArray⟩,.string ⟨([62,61]:Q00).toArray⟩]
theorem Xq (w:ZB):ZE prog 241 #[] w (Ret w (.agg Lf)):=by
 go_in;go_wp2;refine Ar (Ge (p:=0) (ty:=235) rfl _ _ ⟨w,0,none⟩ _ rfl (Fq _ w 0 235 Lf.toList _ (fun j v hv=>?_) underlying235 rfl kR)) rfl ?_
 ·rw [Ba,Cb];have hv':Lf[j]?=some v:=by simpa using hv
  exact hv'
 ·exact⟨rfl,(Ac _ w).alloc nR _⟩
theorem Ext (ak:Option Addr) (nk ck:Nat) (w:ZB) (hck:nk<=9223372036854775807) : ZE prog 233 #[.slice ak nk ck,.slice none 0 0,.func (.func 165) #[] #[]] w (Ret w (.bool (nk==0))):=by
 by_cases h:nk=0
 ·subst h;go_in;go_wp2;go_loopw [17] (fun iv wr=>iv=.int .i64 0/\wr=w) (fun _ _=>0);case atStart=>exact⟨rfl,rfl⟩
  case round =>obtain⟨rfl,rfl⟩:=hrel;go_wp2;go_ret;exact⟨rfl,Ac _ _⟩
 ·have hb:((nk:Int) != 0)=true:=naf;have e:(nk==0)=false:=by simpa using h
  rw [e];exact FD64
theorem Q7 (op cmp n:Int) (name:Q00) (ak:Option Addr) (nk ck:Nat) (w:ZB) (hck:nk<=9223372036854775807) : ZE prog 165 #[.agg #[↑op,↑name,↑cmp,↑n,.slice ak nk ck],.agg #[.int .i64 0,.string ⟨#[]⟩,.int .i64 0,.int .i64 0,.slice none 0 0]] w (Ret w (.bool (op==0&&name==[]&&cmp==0&&n==0&&nk==0))):=by
 have E:=fun W=>Ext ak nk ck W hck;have te:=I0 name;obtain⟨b1,h1⟩:=naa (op==0);obtain⟨b2,h2⟩:=naa (name==[]);obtain⟨b3,h3⟩:=naa (cmp==0);obtain⟨b4,h4⟩:=naa (n==0);obtain⟨b5,h5⟩:=naa (nk==0);have t2:List.isEmpty name=b2:=by rw [<- h2];cases name <;> rfl
 rw [h1,h2,h3,h4,h5];rw [h5] at E;replace E:=Aa E;clear h5 h2 te;have hB0:=fun o o2=>((Ac _ w).alloc nR o).alloc sM o2;cases b1 with
 |false =>clear E;exact FD61
 |true =>
  cases b2 with
  |false =>clear E;exact FD61
  |true =>
   cases b3 with
   |false =>clear E;exact FD61
   |true =>
    cases b4 with
    |false =>clear E;exact FD61
    |true =>go_in;go_wp2_with fail;refine CmZ (E.out _) fun w1 hb1=>?_;clear E;go_wp2;go_ret;exact⟨rfl,(hB0 _ _).trans (hb1.mono naf)⟩
theorem Knb (m:aC) (ak:Option Addr) (nk ck:Nat) (w:ZB) (h1:m.id.length<=100000) (h2:m.authority.length<=100000) (h3:m.target.length<=100000) : ZE prog 107 #[.agg (A6 m (.slice ak nk ck)).toArray] w (Ret w (.bool (dH m))):=by
 obtain⟨r,hr⟩:=naa (dH m);rw [hr];unfold dH at hr;have hB0:=fun o=>(Ac _ w).alloc nR o;have hW:=fun o=>Ag w o;have I1:=fun w'=>Tz m.id w' oM;have I2:=fun w'=>Tz m.authority w' oM;have I3:=fun w'=>Tz m.target w' oM;have te:=I0 m.target;have t1:=Fr m.target m.id;have t2:=Fr m.target m.authority;obtain⟨b1,e1⟩:=naa (fU m.id);obtain⟨b2,e2⟩:=naa (fU m.authority);obtain⟨b3,e3⟩:=naa (fU m.target);obtain⟨q0,f0⟩:=naa (m.target==[]);obtain⟨q1,f1⟩:=naa (m.target==m.id);obtain⟨q2,f2⟩:=naa (m.target==m.authority);rw [e1] at I1;rw [e2] at I2;rw [e3] at I3;replace te:List.isEmpty m.target=q0:=by rw [te,<- f0];cases m.target <;> rfl
 rw [f1] at t1;rw [f2] at t2;replace hr:(if m.kind=1 then b1&&b2&&q0 else if m.kind=2 then b1&&b2&&(b3&&!q1) else if m.kind=3 then b1&&b2&&(b3&&!q2) else false)=r:=by rw [<- hr,e1,e2,e3,f0,bne,f1,bne,f2]
 clear e1 e2 e3 f0 h1 h2 h3;replace I1:=Aa I1;replace I2:=Aa I2;replace I3:=Aa I3;dsimp only [A6];generalize m.aB=f at *;generalize m.id=id at *;generalize m.authority=au at *;generalize m.target=tg at *;generalize m.kind=kd at *;generalize m.start=st at *;generalize m.aF=un at *;generalize m.aQ=wi at *;by_cases h1:kd=1
 ·subst h1;cases b1 with
  |false =>
   simp at hr;subst hr;go_in;go_wp2_with fail;refine CmZ (I1.out _) fun w1 hb1=>?_;have hB1:Below w w w1:=(hB0 _).trans (hb1.mono sM);have hblk:=(hb1.block w sM).trans (hW _);have hlt1:w.heap.size<w1.heap.size:=(aZ hblk)
   clear I1 hb1 hW hB0;have k0:w1.cell? ⟨w,0,none⟩=some (.string ⟨List.toArray id⟩):=Ab hblk 0;have k1:w1.cell? ⟨w,1,none⟩=some (.string ⟨List.toArray au⟩):=Ab hblk 1;have k2:w1.cell? ⟨w,2,none⟩=some (.int .i64 1):=Ab hblk 2;have k3:w1.cell? ⟨w,3,none⟩=some (.string ⟨List.toArray tg⟩):=Ab hblk 3;clear I2 I3;go_wp2;go_ret;exact⟨rfl,hB1⟩
  |true =>
   go_in;go_wp2_with fail;refine CmZ (I1.out _) fun w1 hb1=>?_;have hB1:Below w w w1:=(hB0 _).trans (hb1.mono sM);have hblk:=(hb1.block w sM).trans (hW _);have hlt1:w.heap.size<w1.heap.size:=(aZ hblk)
   clear I1 hb1 hW hB0;have k0:w1.cell? ⟨w,0,none⟩=some (.string ⟨List.toArray id⟩):=Ab hblk 0;have k1:w1.cell? ⟨w,1,none⟩=some (.string ⟨List.toArray au⟩):=Ab hblk 1;have k2:w1.cell? ⟨w,2,none⟩=some (.int .i64 1):=Ab hblk 2;have k3:w1.cell? ⟨w,3,none⟩=some (.string ⟨List.toArray tg⟩):=Ab hblk 3;go_wp2_with fail;refine CmZ (I2.out _) fun w2 hbw2=>?_;have hBw2:Below w w w2:=hB1.trans (hbw2.mono hB1.size);replace hblk:=(hbw2.block w hlt1).trans hblk;have uS:w.heap.size<w2.heap.size:=(aZ hblk)
   clear hbw2 I2 k0 k1 k2 k3;have k0:w2.cell? ⟨w,0,none⟩=some (.string ⟨List.toArray id⟩):=Ab hblk 0;have k1:w2.cell? ⟨w,1,none⟩=some (.string ⟨List.toArray au⟩):=Ab hblk 1;have k2:w2.cell? ⟨w,2,none⟩=some (.int .i64 1):=Ab hblk 2;have k3:w2.cell? ⟨w,3,none⟩=some (.string ⟨List.toArray tg⟩):=Ab hblk 3;cases b2 with
   |false =>simp at hr;subst hr;exact FD62
   |true =>
    replace hr:q0=r:=by simpa using hr
    subst hr;exact FD62
 by_cases h2:kd=2
 ·subst h2;cases b1 with
  |false =>
   simp at hr;subst hr;go_in;go_wp2_with fail;refine CmZ (I1.out _) fun w1 hb1=>?_;have hB1:Below w w w1:=(hB0 _).trans (hb1.mono sM);have hblk:=(hb1.block w sM).trans (hW _);have hlt1:w.heap.size<w1.heap.size:=(aZ hblk)
   clear I1 hb1 hW hB0;have k0:w1.cell? ⟨w,0,none⟩=some (.string ⟨List.toArray id⟩):=Ab hblk 0;have k1:w1.cell? ⟨w,1,none⟩=some (.string ⟨List.toArray au⟩):=Ab hblk 1;have k2:w1.cell? ⟨w,2,none⟩=some (.int .i64 2):=Ab hblk 2;have k3:w1.cell? ⟨w,3,none⟩=some (.string ⟨List.toArray tg⟩):=Ab hblk 3;clear I2 I3;go_wp2;go_ret;exact⟨rfl,hB1⟩
  |true =>
   go_in;go_wp2_with fail;refine CmZ (I1.out _) fun w1 hb1=>?_;have hB1:Below w w w1:=(hB0 _).trans (hb1.mono sM);have hblk:=(hb1.block w sM).trans (hW _);have hlt1:w.heap.size<w1.heap.size:=(aZ hblk)
   clear I1 hb1 hW hB0;have k0:w1.cell? ⟨w,0,none⟩=some (.string ⟨List.toArray id⟩):=Ab hblk 0;have k1:w1.cell? ⟨w,1,none⟩=some (.string ⟨List.toArray au⟩):=Ab hblk 1;have k2:w1.cell? ⟨w,2,none⟩=some (.int .i64 2):=Ab hblk 2;have k3:w1.cell? ⟨w,3,none⟩=some (.string ⟨List.toArray tg⟩):=Ab hblk 3;go_wp2_with fail;refine CmZ (I2.out _) fun w2 hbw2=>?_;have hBw2:Below w w w2:=hB1.trans (hbw2.mono hB1.size);replace hblk:=(hbw2.block w hlt1).trans hblk;have uS:w.heap.size<w2.heap.size:=(aZ hblk)
   clear hbw2 I2 k0 k1 k2 k3;have k0:w2.cell? ⟨w,0,none⟩=some (.string ⟨List.toArray id⟩):=Ab hblk 0;have k1:w2.cell? ⟨w,1,none⟩=some (.string ⟨List.toArray au⟩):=Ab hblk 1;have k2:w2.cell? ⟨w,2,none⟩=some (.int .i64 2):=Ab hblk 2;have k3:w2.cell? ⟨w,3,none⟩=some (.string ⟨List.toArray tg⟩):=Ab hblk 3;cases b2 with
   |false =>simp at hr;subst hr;exact FD62
   |true =>
    go_wp2_with fail;refine CmZ (I3.out _) fun w3 hbw3=>?_;have hBw3:Below w w w3:=hBw2.trans (hbw3.mono hBw2.size);replace hblk:=(hbw3.block w uS).trans hblk;have JG:w.heap.size<w3.heap.size:=(aZ hblk)
    clear hbw3 I3 k0 k1 k2 k3;have k0:w3.cell? ⟨w,0,none⟩=some (.string ⟨List.toArray id⟩):=Ab hblk 0;have k1:w3.cell? ⟨w,1,none⟩=some (.string ⟨List.toArray au⟩):=Ab hblk 1;have k2:w3.cell? ⟨w,2,none⟩=some (.int .i64 2):=Ab hblk 2;have k3:w3.cell? ⟨w,3,none⟩=some (.string ⟨List.toArray tg⟩):=Ab hblk 3;cases b3 with
    |false =>simp at hr;subst hr;exact FD84
    |true =>
     replace hr:(!q1)=r:=by simpa using hr
     subst hr;cases q1 with
     |true =>exact FD84
     |false =>exact FD84
 by_cases h3:kd=3
 ·subst h3;cases b1 with
  |false =>
   simp at hr;subst hr;go_in;go_wp2_with fail;refine CmZ (I1.out _) fun w1 hb1=>?_;have hB1:Below w w w1:=(hB0 _).trans (hb1.mono sM);have hblk:=(hb1.block w sM).trans (hW _);have hlt1:w.heap.size<w1.heap.size:=(aZ hblk)
   clear I1 hb1 hW hB0;have k0:w1.cell? ⟨w,0,none⟩=some (.string ⟨List.toArray id⟩):=Ab hblk 0;have k1:w1.cell? ⟨w,1,none⟩=some (.string ⟨List.toArray au⟩):=Ab hblk 1;have k2:w1.cell? ⟨w,2,none⟩=some (.int .i64 3):=Ab hblk 2;have k3:w1.cell? ⟨w,3,none⟩=some (.string ⟨List.toArray tg⟩):=Ab hblk 3;clear I2 I3;go_wp2;go_ret;exact⟨rfl,hB1⟩
  |true =>
   go_in;go_wp2_with fail;refine CmZ (I1.out _) fun w1 hb1=>?_;have hB1:Below w w w1:=(hB0 _).trans (hb1.mono sM);have hblk:=(hb1.block w sM).trans (hW _);have hlt1:w.heap.size<w1.heap.size:=(aZ hblk)
   clear I1 hb1 hW hB0;have k0:w1.cell? ⟨w,0,none⟩=some (.string ⟨List.toArray id⟩):=Ab hblk 0;have k1:w1.cell? ⟨w,1,none⟩=some (.string ⟨List.toArray au⟩):=Ab hblk 1;have k2:w1.cell? ⟨w,2,none⟩=some (.int .i64 3):=Ab hblk 2;have k3:w1.cell? ⟨w,3,none⟩=some (.string ⟨List.toArray tg⟩):=Ab hblk 3;go_wp2_with fail;refine CmZ (I2.out _) fun w2 hbw2=>?_;have hBw2:Below w w w2:=hB1.trans (hbw2.mono hB1.size);replace hblk:=(hbw2.block w hlt1).trans hblk;have uS:w.heap.size<w2.heap.size:=(aZ hblk)
   clear hbw2 I2 k0 k1 k2 k3;have k0:w2.cell? ⟨w,0,none⟩=some (.string ⟨List.toArray id⟩):=Ab hblk 0;have k1:w2.cell? ⟨w,1,none⟩=some (.string ⟨List.toArray au⟩):=Ab hblk 1;have k2:w2.cell? ⟨w,2,none⟩=some (.int .i64 3):=Ab hblk 2;have k3:w2.cell? ⟨w,3,none⟩=some (.string ⟨List.toArray tg⟩):=Ab hblk 3;cases b2 with
   |false =>simp at hr;subst hr;exact FD62
   |true =>
    go_wp2_with fail;refine CmZ (I3.out _) fun w3 hbw3=>?_;have hBw3:Below w w w3:=hBw2.trans (hbw3.mono hBw2.size);replace hblk:=(hbw3.block w uS).trans hblk;have JG:w.heap.size<w3.heap.size:=(aZ hblk)
    clear hbw3 I3 k0 k1 k2 k3;have k0:w3.cell? ⟨w,0,none⟩=some (.string ⟨List.toArray id⟩):=Ab hblk 0;have k1:w3.cell? ⟨w,1,none⟩=some (.string ⟨List.toArray au⟩):=Ab hblk 1;have k2:w3.cell? ⟨w,2,none⟩=some (.int .i64 3):=Ab hblk 2;have k3:w3.cell? ⟨w,3,none⟩=some (.string ⟨List.toArray tg⟩):=Ab hblk 3;cases b3 with
    |false =>simp at hr;subst hr;exact FD84
    |true =>
     replace hr:(!q2)=r:=by simpa using hr
     subst hr;cases q2 with
     |true =>exact FD84
     |false =>exact FD84
 rw [Ai h1,Ai h2,Ai h3] at hr;have z1:(kd==1)=false:=by simpa using h1
 have z2:(kd==2)=false:=by simpa using h2
 have z3:(kd==3)=false:=by simpa using h3
 subst hr;cases b1 with
 |false =>
  go_in;go_wp2_with fail;refine CmZ (I1.out _) fun w1 hb1=>?_;have hB1:Below w w w1:=(hB0 _).trans (hb1.mono sM);have hblk:=(hb1.block w sM).trans (hW _);have hlt1:w.heap.size<w1.heap.size:=(aZ hblk)
  clear I1 hb1 hW hB0;have k0:w1.cell? ⟨w,0,none⟩=some (.string ⟨List.toArray id⟩):=Ab hblk 0;have k1:w1.cell? ⟨w,1,none⟩=some (.string ⟨List.toArray au⟩):=Ab hblk 1;have k2:w1.cell? ⟨w,2,none⟩=some ↑kd:=Ab hblk 2;have k3:w1.cell? ⟨w,3,none⟩=some (.string ⟨List.toArray tg⟩):=Ab hblk 3;clear I2 I3;go_wp2;go_ret;exact⟨rfl,hB1⟩
 |true =>
  go_in;go_wp2_with fail;refine CmZ (I1.out _) fun w1 hb1=>?_;have hB1:Below w w w1:=(hB0 _).trans (hb1.mono sM);have hblk:=(hb1.block w sM).trans (hW _);have hlt1:w.heap.size<w1.heap.size:=(aZ hblk)
  clear I1 hb1 hW hB0;have k0:w1.cell? ⟨w,0,none⟩=some (.string ⟨List.toArray id⟩):=Ab hblk 0;have k1:w1.cell? ⟨w,1,none⟩=some (.string ⟨List.toArray au⟩):=Ab hblk 1;have k2:w1.cell? ⟨w,2,none⟩=some ↑kd:=Ab hblk 2;have k3:w1.cell? ⟨w,3,none⟩=some (.string ⟨List.toArray tg⟩):=Ab hblk 3;go_wp2_with fail;refine CmZ (I2.out _) fun w2 hbw2=>?_;have hBw2:Below w w w2:=hB1.trans (hbw2.mono hB1.size);replace hblk:=(hbw2.block w hlt1).trans hblk;have uS:w.heap.size<w2.heap.size:=(aZ hblk)
  clear hbw2 I2 k0 k1 k2 k3;have k0:w2.cell? ⟨w,0,none⟩=some (.string ⟨List.toArray id⟩):=Ab hblk 0;have k1:w2.cell? ⟨w,1,none⟩=some (.string ⟨List.toArray au⟩):=Ab hblk 1;have k2:w2.cell? ⟨w,2,none⟩=some ↑kd:=Ab hblk 2;have k3:w2.cell? ⟨w,3,none⟩=some (.string ⟨List.toArray tg⟩):=Ab hblk 3;cases b2 with
  |false =>exact FD62
  |true =>exact FD62
def Fm (m:aC):List Q00:=[m.id,m.authority,m.target,ZK m.kind,ZK m.start,ZK m.aF,ZK m.aQ]
theorem Asc (m:aC) (ak:Option Addr) (nk ck:Nat) (w:ZB) (hG:Gl w) (hk:-9223372036854775808<=m.kind/\m.kind<=9223372036854775807) (hs:-9223372036854775808<=m.start/\m.start<=9223372036854775807) (hu:-9223372036854775808<=m.aF/\m.aF<=9223372036854775807) (hw:-9223372036854775808<=m.aQ/\m.aQ<=9223372036854775807) : ZE prog 164 #[.agg (A6 m (.slice ak nk ck)).toArray] w (Ret w (.agg ((Fm m).map ay).toArray)):=by
 have I:=fun (n:Int) (h:-9223372036854775808<=n/\n<=9223372036854775807) (W:ZB) (hG':Gl W)=>Hd n W h.1 h.2 hG';have I1:=Aa (I _ hk);have I2:=Aa (I _ hs);have I3:=Aa (I _ hu);have I4:=Aa (I _ hw);clear I;dsimp only [A6,Fm,List.map];generalize m.aB=f at *;generalize m.id=id at *;generalize m.authority=au at *;generalize m.target=tg at *;generalize m.kind=kd at *;generalize m.start=st at *;generalize m.aF=un at *;generalize m.aQ=wi at *;obtain⟨O,hO⟩:∃ o:Obj,o=.cells #[↑id,↑au,↑kd,↑tg,↑f.op,↑f.name,↑f.cmp,↑f.n,.slice ak nk ck,↑st,↑un,↑wi] 60:=⟨_,rfl⟩
 obtain⟨Z,hZ⟩:=nad (.cells #[.string ⟨#[]⟩,.string ⟨#[]⟩,.string ⟨#[]⟩,.string ⟨#[]⟩,.string ⟨#[]⟩,.string ⟨#[]⟩,.string ⟨#[]⟩] 235:Obj);have hBX:Below w w ((w.alloc O).alloc Z):=((Ac _ w).alloc nR _).alloc sM _;have hX0:((w.alloc O).alloc Z).heap[w.heap.size]?=some O:=by simp only [ZM,Dh,D9];rw [Ai oM,Ah trivial]
 have hX1:((w.alloc O).alloc Z).heap[w.heap.size+1]?=some Z:=by simp only [ZM,Dh,D9];rw [Ah trivial]
 go_in;go_wp2_with fail;rw [<- hO,<- hZ];generalize (w.alloc O).alloc Z=X at *;subst hO hZ;have hGX:=hG.below hBX;have g0:∀ (d:Nat) (os:Array Obj),(grow (ZI X d) os).cell? ⟨w,0,none⟩=some ↑id:=A8 (Ab hX0 0);have g1:∀ (d:Nat) (os:Array Obj),(grow (ZI X d) os).cell? ⟨w,1,none⟩=some ↑au:=A8 (Ab hX0 1);have g2:∀ (d:Nat) (os:Array Obj),(grow (ZI X d) os).cell? ⟨w,2,none⟩=some ↑kd:=A8 (Ab hX0 2);have g3:∀ (d:Nat) (os:Array Obj),(grow (ZI X d) os).cell? ⟨w,3,none⟩=some ↑tg:=A8 (Ab hX0 3);have g9:∀ (d:Nat) (os:Array Obj),(grow (ZI X d) os).cell? ⟨w,9,none⟩=some ↑st:=A8 (Ab hX0 9);have g10:∀ (d:Nat) (os:Array Obj),(grow (ZI X d) os).cell? ⟨w,10,none⟩=some ↑un:=A8 (Ab hX0 10);have g11:∀ (d:Nat) (os:Array Obj),(grow (ZI X d) os).cell? ⟨w,11,none⟩=some ↑wi:=A8 (Ab hX0 11);have hX0:=Aa hX0;have hX1:=Aa hX1;refine Ha 19 kR kR ?_;simp only [Hw,Ic,Gx,Gv];repeat (quiet_step (first|exact Dp (I1.out _ (hGX.below (Ea _ _ _)))|exact Dp (I2.out _ (hGX.below (Ea _ _ _)))|exact Dp (I3.out _ (hGX.below (Ea _ _ _)))|exact Dp (I4.out _ (hGX.below (Ea _ _ _)))))
 refine D8 ?_;intro wq hbq;replace hbq:=Ay hbq;have hq1:=(hbq.block (w+1) (aZ hX1.out)).trans hX1.out;have hB3:Below w w wq:=hBX.trans (hbq.mono hBX.size);clear g0 g1 g2 g3 g9 g10 g11 I1 I2 I3 I4 hX0 hX1 hBX hGX hG;have z:=fun i=>Ab hq1 i;have fz:=fun i=>Ao hq1 i;go_wp2_with fail;have y0:=Al wq (w+1) 0 ↑id _ _ _ hq1;have y1:=Al _ (w+1) 1 ↑au _ _ _ y0;have y2:=Al _ (w+1) 2 ↑tg _ _ _ y1;have y3:=Al _ (w+1) 3 (.string ⟨(ZK kd).toArray⟩) _ _ _ y2;have y4:=Al _ (w+1) 4 (.string ⟨(ZK st).toArray⟩) _ _ _ y3;have y5:=Al _ (w+1) 5 (.string ⟨(ZK un).toArray⟩) _ _ _ y4;have y6:=Al _ (w+1) 6 (.string ⟨(ZK wi).toArray⟩) _ _ _ y5;clear y0 y1 y2 y3 y4 y5;refine Ar (Ge (p:=2) (ty:=235) rfl _ _ ⟨w+1,0,none⟩ _ rfl (Fq _ (w+1) 0 235 [ay id,ay au,ay tg,ay (ZK kd),ay (ZK st),ay (ZK un),ay (ZK wi)] _ (fun j v hv=>?_) underlying235 rfl kR)) rfl ?_;·rw [Ba,Ab y6];simpa using hv
 ·refine⟨rfl,?_⟩;have hs:∀ (W:ZB) (i:Nat) (v:ZC),Below w w W->Below w w (W.setCell ⟨w+1,i,none⟩ v):=fun W i v h=>h.setCell (p:=⟨w+1,i,none⟩) sM v;exact hs _ _ _ (hs _ _ _ (hs _ _ _ (hs _ _ _ (hs _ _ _ (hs _ _ _ (hs _ _ _ hB3))))))
def It:aC:=⟨[],[],0,[],.mk 0 [] 0 0 [],0,0,0⟩
theorem Alw (m:aC):dI m=((Fm m==Fm It)&&(m.aB.op==0&&m.aB.name==[]&&m.aB.cmp==0&&m.aB.n==0&&m.aB.kids.length==0)):=by
 have h0:ZK 0=[48]:=by unfold ZK;rw [if_neg dC];unfold Lib.decDigits;rfl
 unfold dI;simp only [Fm,It,h0]
theorem Ggm (xs:Array ZC) (i:Nat) (v:ZC) (h:xs[i]?=some v) (w:ZB):(part 9 xs i).run prog w=.ok v w:=by
 have h9:(isAgg 9).run prog w=.ok false w:=by simp [isAgg,Dv underlying9]
 simp [part,h9,h]
theorem Rcc (d:Nat) (w:ZB) (xs ys:Array ZC):∀ (a b:List Q00) (off:Nat),a.length=b.length->(∀ j l,a[j]?=some l->xs[off+j]?=some (ay l))->(∀ j l,b[j]?=some l->ys[off+j]?=some (ay l)) ->
  (forIn (List.range' off a.length) ((none,()):Option Bool × PUnit) (fun i _=>do
    if !(<- Op.equalIn (d+1) 9 (<- part 9 xs (i*1)) (<- part 9 ys (i*1))) then return ForInStep.done (some false,())
    return ForInStep.yield (none,())):Sem _).run prog w=.ok (if a==b then (none,()) else (some false,())) w:=by
 intro a
 induction a with
 |nil=>intro b off hl _ _;cases b with
  |nil=>simp
  |cons _ _=>simp at hl
 |cons x a ih =>
  intro b off hl hx hy
  cases b with
  |nil=>simp at hl
  |cons y b =>
   have h1:=Ggm xs off _ (hx 0 x rfl) w
   have h2:=Ggm ys off _ (hy 0 y rfl) w
   have ih':=ih b (off+1) (by simpa using hl) (fun j l hj=>by have:=hx (j+1) l (by simpa using hj);rwa [show off+1+j=off+(j+1) from by omega]) (fun j l hj=>by have:=hy (j+1) l (by simpa using hj);rwa [show off+1+j=off+(j+1) from by omega])
   simp only [Ap,List.range'_succ,List.forIn_cons,I9,Nat.mul_one,h1,h2,Io,run_equalIn_string w d 9 _ _ underlying9]
   rw [show (⟨x.toArray⟩:ByteArray).toList=x from by rw [Lib.toList_data],show (⟨y.toArray⟩:ByteArray).toList=y from by rw [Lib.toList_data]]
   simp only [Nat.mul_one] at ih'
   cases hxy:(x==y) with
   |true =>
    have e:(x::a==y::b)=(a==b):=by rw [List.cons_beq_cons,hxy];rfl
    rw [e]
    simp only [Oe,Nk,Aap,Lh,Io]
    exact ih'
   |false =>
    have e:(x::a==y::b)=false:=by rw [List.cons_beq_cons,hxy];rfl
    rw [e]
    simp
theorem Mem (a b:List Q00) (ha:a.length=7) (hb:b.length=7) (w:ZB):(binOp .eql 235 (.agg (a.map ay).toArray) (.agg (b.map ay).toArray)).run prog w=.ok (.bool (a==b)) w:=by
 rw [run_eql_struct];have hsz:∀ w,(sizeOf 9).run prog w=.ok 1 w:=fun w=>by kernel_rfl
 have key:(Op.equalIn (9998+1+1) 235 (.agg (a.map ay).toArray) (.agg (b.map ay).toArray)).run prog w=.ok (a==b) w:=by rw [Op.equalIn];have h:=Rcc 9998 w (a.map ay).toArray (b.map ay).toArray a b 0 oM (fun j l hj=>by simp [hj]) (fun j l hj=>by simp [hj]);rw [ha] at h;simp only [I9,Dv underlying235,Io,hsz,Std.Legacy.Range.forIn_eq_forIn_range',Std.Legacy.Range.size];simp only [Nat.sub_zero,Nat.add_sub_cancel,Nat.div_one];rw [h];cases (a==b) <;> rfl
 have e:(10000:Nat)=9998+1+1:=rfl;rw [e,key];rfl
def Fk:Array ZC:=#[.string ⟨#[]⟩,.string ⟨#[]⟩,.int .i64 0,.string ⟨#[]⟩,.int .i64 0,.string ⟨#[]⟩,.int .i64 0,.int .i64 0,.slice none 0 0,.int .i64 0,.int .i64 0,.int .i64 0]
structure jg (m:aC):Prop where
 k:-9223372036854775808<=m.kind/\m.kind<=9223372036854775807
 s:-9223372036854775808<=m.start/\m.start<=9223372036854775807
 u:-9223372036854775808<=m.aF/\m.aF<=9223372036854775807
 w:-9223372036854775808<=m.aQ/\m.aQ<=9223372036854775807
theorem Q5 (m:aC) (ak:Option Addr) (nk ck:Nat) (w:ZB) (hG:Gl w) (hm:jg m) (hnk:m.aB.kids.length=nk) (hck:nk<=9223372036854775807) : ZE prog 101 #[.agg (A6 m (.slice ak nk ck)).toArray,.agg Fk] w (Ret w (.bool (dI m))):=by
 obtain⟨R,hR⟩:=nac (dI m);rw [hR.out];have hRe:Hid (((Fm m==Fm It)&&(m.aB.op==0&&m.aB.name==[]&&m.aB.cmp==0&&m.aB.n==0&&nk==0))=R):=Aa (by rw [<- hnk,<- Alw];exact hR.out);have F1:=fun W hG'=>Asc m ak nk ck W hG' hm.k hm.s hm.u hm.w;have F2:=fun W hG'=>Asc It none 0 0 W hG' dC dC dC dC;have Q:=fun W=>Q7 m.aB.op m.aB.cmp m.aB.n m.aB.name ak nk ck W hck;have EQ:=fun W=>Mem (Fm m) (Fm It) rfl rfl W;obtain⟨b1,h1⟩:=naa (Fm m==Fm It);rw [h1] at EQ hRe;obtain⟨b2,h2⟩:=naa (m.aB.op==0&&m.aB.name==[]&&m.aB.cmp==0&&m.aB.n==0&&nk==0);rw [h2] at Q hRe;clear h1 h2 hnk hR;obtain rfl:=hRe.out;clear hRe;generalize hA:((Fm m).map ay).toArray=A at *;generalize hZ:((Fm It).map ay).toArray=Z at *;clear hA hZ;replace F1:=Aa F1;replace F2:=Aa F2;replace Q:=Aa Q;dsimp only [A6,It,CH.Formula.op,CH.Formula.name,CH.Formula.cmp,CH.Formula.n] at F2;dsimp only [A6,Fk] at F1 ⊢;generalize m.aB=f at *;generalize m.id=id at *;generalize m.authority=au at *;generalize m.target=tg at *;generalize m.kind=kd at *;generalize m.start=st at *;generalize m.aF=un at *;generalize m.aQ=wi at *;clear hm;obtain⟨O,hO⟩:∃ o:Obj,o=.cells #[↑id,↑au,↑kd,↑tg,↑f.op,↑f.name,↑f.cmp,↑f.n,.slice ak nk ck,↑st,↑un,↑wi] 60:=⟨_,rfl⟩
 obtain⟨Zo,hZo⟩:=nad (.cells #[.string ⟨#[]⟩,.string ⟨#[]⟩,.int .i64 0,.string ⟨#[]⟩,.int .i64 0,.string ⟨#[]⟩,.int .i64 0,.int .i64 0,.slice none 0 0,.int .i64 0,.int .i64 0,.int .i64 0] 60:Obj);have hBX:Below w w ((w.alloc O).alloc Zo):=((Ac _ w).alloc nR _).alloc sM _;have hX0:((w.alloc O).alloc Zo).heap[w.heap.size]?=some O:=by simp only [ZM,Dh,D9];rw [Ai oM,Ah trivial]
 have hX1:((w.alloc O).alloc Zo).heap[w.heap.size+1]?=some Zo:=by simp only [ZM,Dh,D9];rw [Ah trivial]
 go_in;go_wp2_with fail;rw [<- hO,<- hZo];generalize (w.alloc O).alloc Zo=X at *;subst hO hZo;have hGX:=hG.below hBX;have g0:∀ (i:Nat) (d:Nat) (os:Array Obj),(grow (ZI X d) os).cell? ⟨w,i,none⟩=X.cell? ⟨w,i,none⟩:=fun i d os=>(Ea X d os).cell (p:=⟨w,i,none⟩) (aZ hX0);have g1:∀ (i:Nat) (d:Nat) (os:Array Obj),(grow (ZI X d) os).cell? ⟨w+1,i,none⟩=X.cell? ⟨w+1,i,none⟩:=fun i d os=>(Ea X d os).cell (p:=⟨w+1,i,none⟩) (aZ hX1);have c0:=fun i=>Ab hX0 i;have c1:=fun i=>Ab hX1 i;have hX0:=Aa hX0;have hX1:=Aa hX1;cases b1 with
 |false =>
  clear Q;refine Bh kR kR ?_;repeat (quiet_step (first|(with_reducible exact Dp (F1.out _ (hGX.below (Ea _ _ _))))|(with_reducible exact Dp (F2.out _ (hGX.below (Ea _ _ _))))))
  refine D8 ?_;intro wq hbq;replace hbq:=Ay hbq;clear F1 F2 g0 g1 c0 c1;go_wp2;go_ret;exact⟨rfl,hBX.trans (hbq.mono hBX.size)⟩
 |true =>
  refine Bh kR kR ?_;repeat (quiet_step (first|(with_reducible exact Dp (F1.out _ (hGX.below (Ea _ _ _))))|(with_reducible exact Dp (F2.out _ (hGX.below (Ea _ _ _))))|(with_reducible exact Dp (Q.out _))))
  refine D8 ?_;intro wq hbq;replace hbq:=Ay hbq;clear F1 F2 g0 g1 c0 c1 Q;go_wp2;go_ret;exact⟨rfl,hBX.trans (hbq.mono hBX.size)⟩
def Su (f:CH.Formula) (nk:Nat):Bool:=jG f.op f.name f.cmp f.n nk&&!(f.op==3&&(ZH (f.n<0)||ZH (f.n > 1000000)||CH.isKey f.name))
def BG (b:Bool):Int:=if b then 0 else 1
abbrev Ptr (b:Bool):ZC:=.int .i64 (BG b)
theorem C13:(BG true != 0)=false:=rfl
theorem Ask:(BG false != 0)=true:=rfl
theorem Mpd (f:CH.Formula):f.ok=(Su f f.kids.length&&fH f.kids):=Mpo f
theorem Hdv (f:CH.Formula) (ak:Option Addr) (nk ck:Nat) (w:ZB) (hn:f.name.length<=20000) : ZE prog 171 #[.agg (An f (.slice ak nk ck))] w (Ret w (Ptr (Su f nk))):=by
 have F:=fun w'=>Z8 f.op f.cmp f.n f.name ak nk ck w' hn;have Y:=fun w'=>Q3 f.name w';obtain⟨r,hr⟩:=nac (Su f nk);rw [hr.out];have hB0:=fun o=>(Ac _ w).alloc nR o;have hW:=fun o=>Ag w o;dsimp only [An];unfold Su at hr;generalize f.op=op at *;generalize f.name=name at *;generalize f.cmp=cmp at *;generalize f.n=n at *;cases ho:jG op name cmp n nk with
 |false =>
  rw [ho] at F;have F:=Aa F;have hr1:r=false:=by rw [<- hr.out,ho];rfl
  clear hr Y;subst hr1;go_in;go_wp2_with fail;refine CmZ (F.out _) fun w1 hb1=>?_;clear F;go_wp2;go_ret;exact⟨rfl,(hB0 _).trans (hb1.mono sM)⟩
 |true =>
  rw [ho] at F;have F:=Aa F;have hr1:Hid (r=!(op==3&&(ZH (n<0)||ZH (n > 1000000)||CH.isKey name))):=Aa (by rw [<- hr.out,ho];rfl);clear hr;go_in;go_wp2_with fail;refine CmZ (F.out _) fun w1 hb1=>?_;have hB1:Below w w w1:=(hB0 _).trans (hb1.mono sM);have hblk:=(hb1.block w sM).trans (hW _);have k0:w1.cell? ⟨w,0,none⟩=some ↑op:=Ab hblk 0;have k1:w1.cell? ⟨w,1,none⟩=some ↑name:=Ab hblk 1;have k3:w1.cell? ⟨w,3,none⟩=some ↑n:=Ab hblk 3;clear F hb1 hblk hW hB0;cases z3:(op==3) with
  |false =>
   have hr2:r=true:=by rw [hr1.out,z3];rfl
   clear hr1 Y;subst hr2;exact FD25
  |true =>
   cases d1:ZH (n<0) with
   |true =>
    have hr2:r=false:=by rw [hr1.out,z3,d1];rfl
    clear hr1 Y;subst hr2;exact FD25
   |false =>
    cases d2:ZH (1000000<n) with
    |true =>
     have hr2:r=false:=by rw [hr1.out,z3,d1];show (!(true&&(false||ZH (1000000<n)||_)))=false;rw [d2];rfl
     clear hr1 Y;subst hr2;exact FD25
    |false =>
     have hr2:r=!(CH.isKey name):=by rw [hr1.out,z3,d1];show (!(true&&(false||ZH (1000000<n)||_)))=_;rw [d2];rfl
     clear hr1;obtain⟨by_,ey⟩:=naa (CH.isKey name);rw [ey] at Y hr2;have Y:=Aa Y;subst hr2;clear ey;go_wp2_with fail;refine CmZ (Y.out _) fun w2 hb2=>?_;clear Y;cases by_;·exact FD69
     ·exact FD69
mutual
def Ct:CH.Formula->Prop
 |.mk _ name _ _ kids=>name.length<=20000/\Cp kids
def Cp:List CH.Formula->Prop
 |[]=>True
 |f::l=>Ct f/\Cp l
end
theorem Ct.name {f:CH.Formula} (h:Ct f):f.name.length<=20000:=by cases f with|mk op name cmp n kids=>unfold Ct at h;exact h.1
theorem Ct.kids {f:CH.Formula} (h:Ct f):Cp f.kids:=by cases f with|mk op name cmp n kids=>unfold Ct at h;exact h.2
theorem Cp.mem {l:List CH.Formula} (h:Cp l) {f:CH.Formula} (hf:f∈l):Ct f:=by
 induction l with
 |nil=>cases hf
 |cons g l ih =>
  unfold Cp at h;rcases Az.1 hf with rfl|hf;·exact h.1
  ·exact ih h.2 hf
theorem Uw (l m:List CH.Formula):fH (l++m)=(fH l&&fH m):=by
 induction l with
 |nil=>simp [fH]
 |cons f l ih=>simp [fH,ih,Bool.and_assoc]
theorem Is4 {l:List CH.Formula} (k:Nat) (h:fH (l.take k)=false):fH l=false:=by rw [<- Fb k l,Uw,h];rfl
theorem Va (args:Array ZC) (w:ZB):(callFunc 171 args).run prog w=.ok (.enter 171 args) w:=enters_of func171 kR rfl args w
theorem Lcm (k:Nat):∀ (f:CH.Formula) (vk:ZC) (w:ZB),f.depth<=k->Ax w w f vk->Ct f -> ZE prog 175 #[.agg (An f vk),.func (.func 171) #[] #[]] w (Ret w (Ptr f.ok)):=by
 induction k with
 |zero=>intro f vk w hk;exact absurd hk (by rw [Li];omega)
 |succ k ih =>
  intro f vk w hk hK hS;obtain⟨ak,ck,rfl,hc1,hc2,hrow⟩:=hK.form;have DZ:=Li f;have N0:=fun w'=>Hdv f ak f.kids.length ck w' hS.name;obtain⟨r,hr⟩:=nac f.ok;rw [hr.out];have hr':Hid ((Su f f.kids.length&&fH f.kids)=r):=Aa (by rw [<- Mpd];exact hr.out);clear hr;have hrow:=Aa hrow;have hSk:=Aa hS.kids;obtain⟨g,hg⟩:=naa (Su f f.kids.length);rw [hg] at N0 hr';have N0:=Aa N0;have hB0:=fun o=>(Ac _ w).alloc nR o;have hW:=fun o=>Ag w o;generalize hKN:f.kids.length=KN at *;dsimp only [An] at N0 ⊢;clear hg hK hS;have FE:=Va;go_in;go_wp2_with fail;refine CmZ (N0.out _) fun w1 hb1=>?_;have hB1:Below w w w1:=(hB0 _).trans (hb1.mono sM);have hblk:=(hb1.block w sM).trans (hW _);have k4:w1.cell? ⟨w,4,none⟩=some (.slice ak KN ck):=Ab hblk 4;clear N0 hb1 hblk hW hB0;have QX:=Aa hB1;clear hB1;go_wp2_with fail;go_loopw [5,14] (fun ev iv wr=>∃ j:Nat,j<=KN/\iv=↑j/\ev=.int .i64 (BG (g&&fH (f.kids.take j)))/\Hid (Below w w wr)) (fun _ iv _=>KN - (ZG iv).toNat);case atStart=>exact⟨0,Ak _,rfl,by simp [fH],QX⟩
  case round =>
   obtain⟨j,hj,rfl,rfl,hb⟩:=hrel;obtain⟨b,hbj⟩:=naa (g&&fH (f.kids.take j));rw [hbj];have hz1:=C13;have hz2:=Ask;by_cases hlt:j<KN
   ·obtain⟨x,hx⟩:∃ x,f.kids[j]?=some x:=⟨_,Ae oM⟩
    obtain⟨bb,off,rfl,hblt,hcs⟩:=hrow.out (fun e=>by rw [e] at hKN;simp at hKN;omega);obtain⟨vx,c0,c1,c2,c3,c4,hkx⟩:=bP.get _ _ _ _ _ hcs hx;have hc:=fun o=>hb.out.cell (p:=⟨bb,o,none⟩) hblt;have e0:=(hc _).trans c0;have e1:=(hc _).trans c1;have e2:=(hc _).trans c2;have e3:=(hc _).trans c3;have e4:=(hc _).trans c4;have hmem:x∈f.kids:=Bg hx;have hdx:x.depth<=k:=by have:=Sw hmem;omega
    have IH:=Aa fun (W:ZB) (hbW:Below w w W)=>ih x vx W hdx (Ax.mono hbW.size _ _ (Ax.below hbW nR _ _ hkx)) (hSk.out.mem hmem);have hts:Hid (fH (f.kids.take (j+1))=(fH (f.kids.take j)&&x.ok)):=Aa (by rw [Ip,hx];show fH (_++[x])=_;rw [Uw];simp [fH]);obtain⟨ax,cx,rfl,_,_⟩:=hkx.form;generalize x.kids.length=xn at *;clear c0 c1 c2 c3 c4 hc hcs hx hkx hmem hdx;dsimp only [An] at IH;have EJ:=Aa hbj;clear hbj;cases b with
    |true =>
     go_wp2_with fail;refine (IH.out _ ?_).mono ?_;·exact (hb.out.alloc hb.out.size _)
     rintro e w2 ⟨rfl,hb2⟩;have hB2:Hid (Below w w w2):=Aa ((hb.out.alloc hb.out.size _).trans (hb2.mono (by have:=hb.out.size;simp;omega)));clear IH hb2;go_wp2;go_roundw;case rel=>exact⟨j+1,oM,by go_num,by rw [hts.out,<- Bool.and_assoc,EJ.out];simp,hB2⟩
     case measure=>simp [ZG];omega
    |false =>
     have hr2:r=false:=by
      rw [<- hr'.out];cases g with
      |false=>rfl
      |true=>rw [Is4 j (by simpa using EJ.out)];rfl
     subst hr2;clear IH;have hB2:=Aa (fun o=>hb.out.alloc hb.out.size o);clear hb;go_wp2;go_ret;exact⟨rfl,hB2.out _⟩
   ·obtain rfl:j=KN:=oM;have hr2:r=b:=by rw [<- hr'.out,<- hbj,<- hKN,D5]
    subst hr2;have EJ:=Aa hbj;clear hbj;go_wp2;go_ret;exact⟨rfl,hb.out⟩
theorem To {f:CH.Formula} (h:f.ok=true):jG f.op f.name f.cmp f.n f.kids.length=true/\(f.op=3->0<=f.n/\f.n<=1000000)/\fH f.kids=true:=by rw [Mpo] at h;simp only [Aq,G8] at h;refine⟨h.1.1,fun h3=>?_,h.2⟩;have h2:=h.1.2;rw [h3] at h2;simp at h2;omega
theorem Mon {f:CH.Formula} (h:f.ok=true):f.op=1\/f.op=2\/(f.op=3/\1<=f.cmp/\f.cmp<=6)\/(f.op=4/\f.kids.length=1)\/f.op=5\/f.op=6:=by
 have hn:=(To h).1;unfold jG at hn;by_cases h3:f.op=3;·rw [Ah h3] at hn;simp only [Aq,Bj,Eh] at hn;exact .inr (.inr (.inl ⟨h3,hn.2.1,hn.2.2.1⟩))
 ·rw [Ai h3] at hn;split at hn;·cases hn
  ·split at hn
   ·rename_i h12;rcases h12 with h|h;·exact .inl h
    ·exact .inr (.inl h)
   ·split at hn;·rename_i h4;exact .inr (.inr (.inr (.inl ⟨h4,by simpa using hn⟩)))
    ·simp only [Aq,Ej,Eh] at hn;rcases hn.1 with h|h;·exact .inr (.inr (.inr (.inr (.inl h))))
     ·exact .inr (.inr (.inr (.inr (.inr h))))
def ah (op:Int) (f:CH.Formula):Q00:=if f.op==6||f.op==5&&op != 6 then [40]++f.text++[41] else f.text
theorem iI (op:Int) (l:List CH.Formula):jL op l=l.map (ah op):=by
 induction l with
 |nil=>rfl
 |cons f l ih=>simp [jL,ah,ih]
theorem text_eq (f:CH.Formula):f.text=(if f.op=1 then ([116,114,117,101]:Q00) else if f.op=2 then ([102,97,108,115,101]:Q00) else if f.op=3 then f.name++[32]++bZ f.cmp++[32]++Go.Lib.itoa f.n else if f.op=4 then ([110,111,116,32]:Q00)++((f.kids.map (ah f.op))[0]?.getD []) else if f.op=5 then CH.join ([32,97,110,100,32]:Q00) (f.kids.map (ah f.op)) else CH.join ([32,111,114,32]:Q00) (f.kids.map (ah f.op))):=by
 cases f with
 |mk op name cmp n kids=>simp only [CH.Formula.op,CH.Formula.name,CH.Formula.cmp,CH.Formula.n,CH.Formula.kids,<- iI];rfl
theorem Our (op:Int) (name:Q00) (cmp n:Int) (kids:List CH.Formula):(CH.Formula.mk op name cmp n kids).text=(if op=1 then ([116,114,117,101]:Q00) else if op=2 then ([102,97,108,115,101]:Q00) else if op=3 then name++[32]++bZ cmp++[32]++Go.Lib.itoa n else if op=4 then ([110,111,116,32]:Q00)++((kids.map (ah op))[0]?.getD []) else if op=5 then CH.join ([32,97,110,100,32]:Q00) (kids.map (ah op)) else CH.join ([32,111,114,32]:Q00) (kids.map (ah op))):=text_eq _
theorem Yc (c:Int):(bZ c).length<=2:=by unfold bZ;exact FD108
theorem Tu (sep:Q00):∀ ls:List Q00,(CH.join sep ls).length<=(ls.map fun l=>l.length+sep.length).sum:=by
 intro ls;induction ls with
 |nil=>simp [CH.join]
 |cons x l ih =>
  cases l with
  |nil=>simp [CH.join]
  |cons y l =>rw [CH.join];simp only [Am,Gg,Mc] at ih ⊢;omega
mutual
theorem Zf:∀ f:CH.Formula,Ct f->f.ok=true->f.text.length+20<=f.count*30000
 |.mk op name cmp n kids,hS,hok=>by
  have hn:=(To hok).2.1
  have hk:=V5 op kids (by unfold Ct at hS;exact hS.2) (To hok).2.2
  have hname:name.length<=20000:=by unfold Ct at hS;exact hS.1
  rw [Our,At2]
  replace hn:op=3->0<=n/\n<=1000000:=hn
  show _<=(1+aA kids)*30000
  have hc:=Yc cmp
  by_cases h1:op=1
  ·rw [Ah h1];simp;omega
  rw [Ai h1]
  by_cases h2:op=2
  ·rw [Ah h2];simp;omega
  rw [Ai h2]
  by_cases h3:op=3
  ·rw [Ah h3]
   have:=hn h3
   have hi:=Lib.itoa_length_le n oM oM
   simp only [Am,Ap,Bf]
   omega
  rw [Ai h3]
  by_cases h4:op=4
  ·rw [Ah h4]
   simp only [Am,Ap,Bf]
   have h0:(((kids.map (ah op))[0]?).getD []).length<=((kids.map (ah op)).map fun l=>l.length+5).sum:=by
    cases kids with
    |nil=>simp
    |cons a l=>simp;omega
   omega
  rw [Ai h4]
  by_cases h5:op=5
  ·rw [Ah h5]
   have:(CH.join ([32,97,110,100,32]:Q00) (kids.map (ah op))).length<=((kids.map (ah op)).map fun l=>l.length+5).sum:=Tu ([32,97,110,100,32]:Q00) (kids.map (ah op))
   omega
  rw [Ai h5]
  have:(CH.join ([32,111,114,32]:Q00) (kids.map (ah op))).length<=((kids.map (ah op)).map fun l=>l.length+4).sum:=Tu ([32,111,114,32]:Q00) (kids.map (ah op))
  have h45:((kids.map (ah op)).map fun l=>l.length+4).sum<=((kids.map (ah op)).map fun l=>l.length+5).sum:=by
   generalize kids.map (ah op)=ls
   induction ls with
   |nil=>simp
   |cons a l ih=>simp only [Gg,Mc];omega
  omega
theorem V5 (op:Int):∀ l:List CH.Formula,Cp l->fH l=true->((l.map (ah op)).map fun t=>t.length+5).sum<=aA l*30000
 |[],_,_=>by simp
 |f::l,hS,hok=>by
  unfold Cp at hS
  simp only [fH,Aq] at hok
  have h1:=Zf f hS.1 hok.1
  have h2:=V5 op l hS.2 hok.2
  have h3:(ah op f).length<=f.text.length+2:=by unfold ah;split <;> simp
  simp only [Gg,Mc,aA]
  omega
end
theorem Kb8 (c:Int) (h1:1<=c) (h6:c<=6) (w:ZB):(Instr.index 235 (.agg Lf) ↑c).run prog w=.ok (.string ⟨(bZ c).toArray⟩) w:=by rcases (oM:c=1\/c=2\/c=3\/c=4\/c=5\/c=6) with rfl|rfl|rfl|rfl|rfl|rfl <;> simp [Instr.index,Dv underlying235,go_sem,Lf,bZ]
theorem Dev (f:CH.Formula) (ak:Option Addr) (nk ck:Nat) (w:ZB) (hG:Gl w) (h3:f.op=3) (hc1:1<=f.cmp) (hc6:f.cmp<=6) (hn0:0<=f.n) (hn1:f.n<=1000000) (hname:f.name.length<=20000) : ZE prog 176 #[.agg (An f (.slice ak nk ck))] w (Ret w ↑f.text):=by
 have hres:Hid (f.name++[32]++bZ f.cmp++[32]++Go.Lib.itoa f.n=f.text):=Aa (by rw [text_eq,Ai oM,Ai oM,Ah h3]);generalize f.text=R at *;have hwl:=Yc f.cmp;have hil:=Lib.itoa_length_le f.n oM oM;have hix:=fun w'=>Kb8 f.cmp hc1 hc6 w';dsimp only [An];rw [h3];have cT0:=fun W'=>Xq W';have cI0:=fun (W':ZB) (hG':Gl W')=>Hd f.n W' oM oM hG';dsimp only [Lf] at cT0 hix;generalize f.name=name at *;generalize f.cmp=cmp at *;generalize f.n=n at *;generalize bZ cmp=Wd at *;generalize ZK n=J at *;have hB0:=fun o=>(Ac _ w).alloc nR o;have hW:=fun o=>Ag w o;have hG0:=fun o=>hG.below (hB0 o);have cT:=Aa cT0;have cI:=Aa cI0;clear cT0 cI0;go_in;go_wp2_with fail;have hb0:=hW (.cells #[.int .i64 3,↑name,↑cmp,↑n,.slice ak nk ck] 58);have hg0:=hG0 (.cells #[.int .i64 3,↑name,↑cmp,↑n,.slice ak nk ck] 58);have LH:=hB0 (.cells #[.int .i64 3,↑name,↑cmp,↑n,.slice ak nk ck] 58);clear hW hG0 hB0;generalize w.alloc (.cells #[.int .i64 3,↑name,↑cmp,↑n,.slice ak nk ck] 58)=w1 at *;have g1:∀ (d:Nat) (os:Array Obj),(grow (ZI w1 d) os).cell? ⟨w,1,none⟩=some ↑name:=A8 (Ab hb0 1);have g2:∀ (d:Nat) (os:Array Obj),(grow (ZI w1 d) os).cell? ⟨w,2,none⟩=some ↑cmp:=A8 (Ab hb0 2);have g3:∀ (d:Nat) (os:Array Obj),(grow (ZI w1 d) os).cell? ⟨w,3,none⟩=some ↑n:=A8 (Ab hb0 3);have l1:¬ (9223372036854775807<name.length+1):=oM;have l2:¬ (9223372036854775807<name.length+1+Wd.length):=oM;have l3:¬ (9223372036854775807<name.length+1+Wd.length+1):=oM;have l4:¬ (9223372036854775807<name.length+1+Wd.length+1+J.length):=oM;clear hb0;refine Bh kR kR ?_;repeat (quiet_step (first|exact Dp (cT.out _)|exact Dp (cI.out _ (hg0.below (Ea _ _ _)))))
 refine D8 ?_;intro wq hbq;replace hbq:=Ay hbq;clear cT cI g1 g2 g3 hix;go_wp2;go_ret;refine⟨?_,LH.trans (hbq.mono LH.size)⟩;rw [<- hres.out];simp only [<- A5];rfl
structure eG (bn bd bv:Nat) (w:ZB) (N D:Int):Prop where
 n:w.heap[bn]?=some (.cells #[↑N] 3 (0,0))
 d:w.heap[bd]?=some (.cells #[↑D] 3 (0,0))
 v:w.heap[bv]?=some (.cells #[.func (.func 284) #[] #[.pointer (some ⟨bn,0,none⟩),.pointer (some ⟨bd,0,none⟩),.pointer (some ⟨bv,0,none⟩)]] 355 (0,0))
 nd:bn≠bd
 nv:bn≠bv
 dv:bd≠bv
theorem eG.below {bn bd bv:Nat} {w w':ZB} {N D:Int} (h:eG bn bd bv w N D) (hb:Below w w w'):eG bn bd bv w' N D := ⟨(hb.block bn (aZ h.n)).trans h.n,(hb.block bd (aZ h.d)).trans h.d,(hb.block bv (aZ h.v)).trans h.v,h.nd,h.nv,h.dv⟩
theorem bf (w:ZB) (g o k:Nat) (v:ZC) (h:g≠k):(w.setCell ⟨g,o,none⟩ v).heap[k]?=w.heap[k]?:=by simp only [World.setCell];rw [Fp,Ai h]
theorem eG.set {bn bd bv:Nat} {w:ZB} {N D:Int} (h:eG bn bd bv w N D) (N' D':Int):eG bn bd bv ((w.setCell ⟨bn,0,none⟩ ↑N').setCell ⟨bd,0,none⟩ ↑D') N' D':=by
 refine⟨?_,?_,?_,h.nd,h.nv,h.dv⟩;·rw [bf _ _ _ _ _ (Ne.symm h.nd)];have:=Al w bn 0 ↑N' _ _ _ h.n;exact FD86
 ·have:=Al (w.setCell ⟨bn,0,none⟩ ↑N') bd 0 ↑D' _ _ _ ((bf _ _ _ _ _ h.nd).trans h.d);exact FD86
 ·rw [bf _ _ _ _ _ h.dv,bf _ _ _ _ _ h.nv];exact h.v
theorem eG.drew {bn bd bv:Nat} {w:ZB} {N D:Int} (h:eG bn bd bv w N D):eG bn bd bv w.drew N D:=⟨h.n,h.d,h.v,h.nd,h.nv,h.dv⟩
def I48 (base bn bd bv:Nat) (w:ZB) (N D:Int) (e:Ending) (w':ZB):Prop:=e=.returned (.tuple #[])/\eG bn bd bv w' N D/\Below base w w'
theorem I56 (k:Nat):∀ (f:CH.Formula) (vk:ZC) (level N D:Int) (base bn bd bv:Nat) (w:ZB),f.depth<=k->Ax base w f vk->eG bn bd bv w N D->base<=bn->base<=bd->base<=bv->base<=w.heap.size -> 0<=N->N+f.count<=1000000000->0<=D->D<=1000000000->1<=level->level+f.depth<=1000000000 -> ZE prog 284 #[.agg (An f vk),↑level,.pointer (some ⟨bn,0,none⟩),.pointer (some ⟨bd,0,none⟩),.pointer (some ⟨bv,0,none⟩)] w (I48 base bn bd bv w (N+f.count) (max D (level - 1+f.depth))):=by
 induction k with
 |zero=>intro f vk level N D base bn bd bv w hk;exact absurd hk (by rw [Li];omega)
 |succ k ih =>
  intro f vk level N D base bn bd bv w hk hK hV b1 b2 b3 b4 n0 n1 d0 d1 l0 l1;obtain⟨ak,ck,rfl,hc1,hc2,hrow⟩:=hK.form;have hcount:=At2 f;have DZ:=Li f;have hlen:=Q2 f.kids;obtain⟨R,hR⟩:=nae (I48 base bn bd bv w (N+f.count) (max D (level - 1+f.depth)));rw [<- hR.out];generalize hKN:f.kids.length=KN at *;dsimp only [An];have hB0:=fun o=>(Ac base w).alloc b4 o;have hV0:=fun o=>hV.below ((Ac _ w).alloc nR o);have hrow:=Aa hrow;have cn:=fun o=>Ab (hV0 o).n 0;have cd:=fun o=>Ab (hV0 o).d 0;have fn:=fun o=>Ao (hV0 o).n 0;have fd:=fun o=>Ao (hV0 o).d 0;have hnd:=hV.nd;have hdn:=Ne.symm hV.nd;go_in;go_wp2;go_region;have hVX:=((hV0 (.cells #[↑f.op,↑f.name,↑f.cmp,↑f.n,.slice ak KN ck] 58)).set (N+1) (max D level)).drew;have hBX:=(((hB0 (.cells #[↑f.op,↑f.name,↑f.cmp,↑f.n,.slice ak KN ck] 58)).setCell (p:=⟨bn,0,none⟩) b1 (.int .i64 (N+1))).setCell (p:=⟨bd,0,none⟩) b2 (.int .i64 (max D level))).drew;have hbn:bn<w.heap.size:=(aZ hV.n)
  have hbd:bd<w.heap.size:=(aZ hV.d)
  have hX4:((((w.alloc (.cells #[↑f.op,↑f.name,↑f.cmp,↑f.n,.slice ak KN ck] 58)).setCell ⟨bn,0,none⟩ (.int .i64 (N+1))).setCell ⟨bd,0,none⟩ (.int .i64 (max D level))).drew).cell? ⟨w,4,none⟩=some (.slice ak KN ck) := Ab (w:=((((w.alloc (.cells #[↑f.op,↑f.name,↑f.cmp,↑f.n,.slice ak KN ck] 58)).setCell ⟨bn,0,none⟩ (.int .i64 (N+1))).setCell ⟨bd,0,none⟩ (.int .i64 (max D level))).drew)) (g:=w.heap.size) (((bf _ bd 0 w.heap.size _ oM).trans (bf _ bn 0 w.heap.size _ oM)).trans (Ag w _)) 4;clear hV0 hB0 cn cd fn fd;generalize ((((w.alloc (.cells #[↑f.op,↑f.name,↑f.cmp,↑f.n,.slice ak KN ck] 58)).setCell ⟨bn,0,none⟩ (.int .i64 (N+1))).setCell ⟨bd,0,none⟩ (.int .i64 (max D level))).drew)=X at *;have hN1:(0:Int)<=aA f.kids:=oM;clear hV hnd hdn;have hVX:=Aa hVX;have hBX:=Aa hBX;obtain⟨D1,hD1⟩:=naa (max D level);rw [hD1] at hVX ⊢;have hD1:=Aa hD1;have hd1:0<=D1/\D1<=1000000000:=by have:=hD1.out;omega
  have hfk:=Aa hKN;have ih:=Aa ih;clear hKN;go_wp2_with fail;go_loopw [17] (fun iv wr=>∃ j:Nat,j<=KN/\iv=↑j/\Hid (eG bn bd bv wr (N+1+aA (f.kids.take j)) (max D1 (level+aX (f.kids.take j))))/\Hid (Below base w wr)) (fun iv _=>KN - (ZG iv).toNat);case atStart=>exact⟨0,Ak _,rfl,Aa (by have:=hVX.out;have e:max D1 (level+((aX (f.kids.take 0):Nat):Int))=D1:=(by simp [aX];have:=hD1.out;omega);rw [e];simpa [aA] using this),hBX⟩
  case round =>
   obtain⟨j,hj,rfl,hv,hb⟩:=hrel;by_cases hlt:j<KN
   ·obtain⟨x,hx⟩:∃ x,f.kids[j]?=some x:=⟨_,Ae (by rw [hfk.out];omega)⟩
    obtain⟨bb,off,rfl,hblt,hcs⟩:=hrow.out (fun e=>by have:=hfk.out;rw [e] at this;simp at this;omega);obtain⟨vx,c0,c1,c2,c3,c4,hkx⟩:=bP.get _ _ _ _ _ hcs hx;have hc:=fun o=>hb.out.cell (p:=⟨bb,o,none⟩) hblt;have e0:=(hc _).trans c0;have e1:=(hc _).trans c1;have e2:=(hc _).trans c2;have e3:=(hc _).trans c3;have e4:=(hc _).trans c4;have cv:=Ab hv.out.v 0;have hlv:bv<wr.heap.size:=(aZ hv.out.v)
    have hmem:x∈f.kids:=Bg hx;have hdx:=Sw hmem;have hcx:x.count+aA (f.kids.take j)<=aA f.kids:=by
     have h1:f.kids=f.kids.take j++[x]++f.kids.drop (j+1):=by rw [<- aN f.kids j x hx,Fb]
     have h2:=congrArg aA h1;rw [Ni,Ni] at h2;simp only [aA] at h2;omega
    have hdj:aX (f.kids.take j)<=aX f.kids:=by have:=Vi (f.kids.take j) (f.kids.drop j);rw [Fb] at this;omega
    have hts:f.kids.take (j+1)=f.kids.take j++[x]:=aN f.kids j x hx;have hct:Hid (aA (f.kids.take (j+1))=aA (f.kids.take j)+x.count):=Aa (by rw [hts,Ni];simp [aA]);have hdt:Hid (aX (f.kids.take (j+1))=max (aX (f.kids.take j)) x.depth):=Aa (by rw [hts,Vi];simp [aX]);have IH:=Aa fun (W:ZB) (hbW:Below base w W) (hvW:eG bn bd bv W (N+1+aA (f.kids.take j)) (max D1 (level+aX (f.kids.take j)))) (hsW:base<=W.heap.size) =>ih.out x vx (level+1) (N+1+aA (f.kids.take j)) (max D1 (level+aX (f.kids.take j))) base bn bd bv W oM (Ax.below hbW nR _ _ hkx) hvW b1 b2 b3 hsW oM oM oM oM oM oM;obtain⟨ax,cx,rfl,_,_⟩:=hkx.form;generalize hxn:x.kids.length=xn at *;clear c0 c1 c2 c3 c4 hc hcs hkx hmem hts hx;dsimp only [An] at IH;go_wp2_with fail;refine (IH.out _ (hb.out.alloc (Aj b4 hb.out.size) _) (hv.out.below ((Ac _ _).alloc nR _)) (by simp;have:=hb.out.size;omega)).mono ?_;rintro e w2 ⟨rfl,hv2,hb2⟩;have hv2:=Aa hv2;have hB2:Hid (Below base w w2):=Aa ((hb.out.alloc (Aj b4 hb.out.size) _).trans hb2);clear IH hb2 cv e0 e1 e2 e3 e4;go_wp2;go_roundw;case rel =>
     refine⟨j+1,oM,by go_num,Aa ?_,hB2⟩;have h3:=hv2.out;have q1:N+1+((aA (f.kids.take j):Nat):Int)+x.count=N+1+((aA (f.kids.take (j+1)):Nat):Int):=by rw [hct.out];omega
     have q2:max (max D1 (level+((aX (f.kids.take j):Nat):Int))) (level+1 - 1+x.depth)=max D1 (level+((aX (f.kids.take (j+1)):Nat):Int)):=by rw [hdt.out];omega
     rw [q1,q2] at h3;exact h3
    case measure=>simp [ZG];omega
   ·obtain rfl:j=KN:=oM;go_wp2;go_end0;rw [hR.out];refine⟨rfl,?_,hb.out⟩;have h3:=hv.out;rw [<- hfk.out,D5] at h3;have q1:N+1+((aA f.kids:Nat):Int)=N+f.count:=oM;have q2:max D1 (level+((aX f.kids:Nat):Int))=max D (level - 1+f.depth):=by have:=hD1.out;omega
    rw [q1,q2] at h3;exact h3
theorem Did (w:ZB) (o:Obj):eG (w+1) (w.heap.size+1+1) (w.heap.size+1+1+1) ((((w.alloc o).alloc (.cells #[.int .i64 0] 3)).alloc (.cells #[.int .i64 0] 3)).alloc (.cells #[.func (.func 284) #[] #[.pointer (some ⟨w+1,0,none⟩),.pointer (some ⟨w+1+1,0,none⟩),.pointer (some ⟨w+1+1+1,0,none⟩)]] 355)) 0 0:=by
 refine⟨?_,?_,?_,oM,oM,oM⟩;·exact FD67
 ·simp only [ZM,Dh,D9];rw [Ai oM,Ah trivial]
 ·exact FD92
theorem May (f:CH.Formula) (vk:ZC) (w:ZB) (hK:Ax w w f vk) (hc:f.count<=100000000) (hd:f.depth<=100000000) : ZE prog 240 #[.agg (An f vk)] w (Ret w (.tuple #[↑f.count,↑f.depth])):=by
 have V:=Aa (I56 f.depth f vk 1 0 0 w.heap.size);obtain⟨ak,ck,rfl,hc1,hc2,hrow⟩:=hK.form;have hK:=Aa hK;clear hrow;generalize hKN:f.kids.length=KN at *;dsimp only [An] at V ⊢;have hB0:=Ac w w;have hS:=Aa (Did w);go_in;go_wp2_with fail;have hB4:=fun o1 o2 o3 o4=>(((hB0.alloc nR o1).alloc sM o2).alloc naf o3).alloc naf o4;refine (V.out _ _ _ _ nR (Ax.below (hB4 _ _ _ _) nR _ _ hK.out) (hS.out _) oM oM oM naf oM oM oM oM oM oM).mono ?_;rintro e w1 ⟨rfl,hv,hb1⟩;have hB1:Below w w w1:=(hB4 _ _ _ _).trans hb1;have e1:(0:Int)+f.count=f.count:=oM;have e2:max (0:Int) (1 - 1+f.depth)=f.depth:=oM;rw [e1,e2] at hv;have g1:∀ (d:Nat) (os:Array Obj),(grow (ZI w1 d) os).cell? ⟨w+1,0,none⟩=some ↑f.count:=A8 (Ab hv.n 0);have g2:∀ (d:Nat) (os:Array Obj),(grow (ZI w1 d) os).cell? ⟨w+1+1,0,none⟩=some ↑f.depth:=A8 (Ab hv.d 0);clear hS V hB4 hb1 hv e1 e2;go_wp2_with fail;refine Bh kR kR ?_;repeat (quiet_step (fail))
 refine D8 ?_;intro wq hbq;replace hbq:=Ay hbq;clear g1 g2;go_wp2;go_ret2;exact⟨rfl,hB1.trans (hbq.mono hB1.size)⟩
theorem Ctd (f:CH.Formula) (vk:ZC) (w:ZB) (hK:Ax w w f vk) (hc:f.count<=100000000) (hd:f.depth<=100000000) : ZE prog 174 #[.agg (An f vk)] w (Ret w (.bool (ZH (f.count > 200)||ZH (f.depth > 20)))):=by
 have hB0:=fun o=>(Ac _ w).alloc nR o;have S:=Aa fun o=>May f vk (w.alloc o) (Ax.mono (hB0 o).size _ _ (Ax.below (hB0 o) nR _ _ hK)) hc hd;obtain⟨ak,ck,rfl,hc1,hc2,hrow⟩:=hK.form;clear hK hrow;generalize f.kids.length=KN at *;dsimp only [An] at S ⊢;obtain⟨b1,h1⟩:=naa (ZH (f.count > 200));obtain⟨b2,h2⟩:=naa (ZH (f.depth > 20));have d1:ZH ((200:Int)<(f.count:Int))=b1:=by rw [<- h1];exact Ed.2 oM
 have d2:ZH ((20:Int)<(f.depth:Int))=b2:=by rw [<- h2];exact Ed.2 oM
 rw [h1,h2];clear h1 h2;generalize f.count=cc at *;generalize f.depth=dd at *;cases b1 <;> cases b2;all_goals go_in;go_wp2_with fail;refine CmZ (S.out _) fun w1 hb1=>?_;clear S;go_wp2;go_ret;exact⟨rfl,(hB0 _).trans (hb1.mono sM)⟩
end
end Go.Proofs.Y
namespace Go.Proofs.Y
section
open Go.Lib Go.Proofs.Tryz Go.RowKit Go.Shelf Go.Sort CH
def Fl:Code->Nat->Option (Array Oper)
 |.region id ops _,k=>if id=k then some ops else none
 |.seq a b,k=>match Fl a k with|some x=>some x|none=>Fl b k
 |.cond _ a b,k=>match Fl a k with|some x=>some x|none=>Fl b k
 |.block _ b,k=>Fl b k
 |.loop b,k=>Fl b k
 |.scope b,k=>Fl b k
 |_,_=>none
section
open CH
variable {P:Program} {ops:Array Oper} {md:Region.Mode} {S:ZB->Prop} {a:Act} {o:Oper} {Q:Exit->Act->ZB->Prop}
theorem Ui {ops':Array Oper} {id:Nat} {w:ZB} (h:ops'=ops) (hh:(Code.region id ops true).wp P Q a w):(Code.region id ops' true).wp P Q a w:=h ▸ hh
theorem Dcy {fuel:Nat} {kx listed':Array Bool} {a a':Act} {w:ZB} (ha:a'=a) (hl:listed'=kx) (h:wpAnyH P md ops Q S fuel listed' a' w):wpAnyH P md ops Q S fuel kx a w:=by subst ha hl;exact h
theorem Y4 {v:ZC} (hg:Region.wanted o (yielded ops a.tmps)=true) (h:∀ w,S w->(execOp a.eval o).run P w=.ok (.value v) w):YieldsIf P ops S o v a:=.inl ⟨hg,h⟩
theorem Flb {y:Bool} {x:ZC} (hw:Region.wanted o (yielded ops a.tmps)=(some y==some false)) (h:y=false->∀ w,S w->(execOp a.eval o).run P w=.ok (.value x) w):YieldsIf P ops S o (ite y undef x) a:=by
 cases y with
 |false=>exact .inl ⟨hw,h rfl⟩
 |true=>exact .inr ⟨hw,rfl⟩
theorem Ash {T:TypeId} {x:Operand} {f:Nat} {vx v:ZC} {w:ZB} (hop:o.op=.fieldAddr T x f) (hx:a.eval x=vx) (hr:(Instr.fieldAt T vx f).run P w=.ok v w):(execOp a.eval o).run P w=.ok (.value v) w:=by unfold execOp;simp [hop,hx,hr]
theorem I46 {T:TypeId} {x:Operand} {vx v:ZC} {w:ZB} (hop:o.op=.load T x) (hx:a.eval x=vx) (hr:(Instr.loadAt T vx).run P w=.ok v w):(execOp a.eval o).run P w=.ok (.value v) w:=by unfold execOp;simp [hop,hx,hr]
theorem Mzr {op:BinOp} {T T':TypeId} {x y:Operand} {vx vy v:ZC} {w:ZB} (hop:o.op=.binOp op T x y T') (hx:a.eval x=vx) (hy:a.eval y=vy) (hg:(eqGuard op T x y vx vy).run P w=.ok () w) (hr:(binOp op T vx vy).run P w=.ok v w):(execOp a.eval o).run P w=.ok (.value v) w:=by unfold execOp;simp [hop,hx,hy,hg,hr]
theorem I45 {x:Operand} {v:ZC} {w:ZB} (hop:o.op=.move x) (hx:a.eval x=v):(execOp a.eval o).run P w=.ok (.value v) w:=by unfold execOp;simp [hop,hx]
theorem I44 {c x y:Operand} {b:Bool} {vx vy:ZC} {w:ZB} (hop:o.op=.pick c x y) (hc:a.eval c=.bool b) (hx:a.eval x=vx) (hy:a.eval y=vy):(execOp a.eval o).run P w=.ok (.value (if b=true then vx else vy)) w:=by unfold execOp;simp [hop,hc,hx,hy,asBool]
theorem Raw {x:Operand} {T e:TypeId} {s:Option Addr} {n c:Nat} {w:ZB} (hu:P.underlying T=some (.slice e)) (hop:o.op=.call { callee:=.builtin .len,args:=#[x],argTypes:=#[T] }) (hx:a.eval x=.slice s n c):(execOp a.eval o).run P w=.ok (.value ↑n) w:=by unfold execOp;simp only [hop,resolve,invoke,builtin,I9,Lh,Io,List.map_toArray,Gg,Ja,hx];simp [Builtin.len_,Dv hu,goInt]
theorem Ys {J:Array Bool->Act->ZB->Prop} (hstep:∀ kx a w i,i∈Region.ready md ops kx->J kx a w->wpOp P ops Q i (fun a' w'=>S w'/\J (kx.setIfInBounds i true) a' w') a w)
  (hend:∀ kx a w,Region.ready md ops kx=[]->J kx a w->Q .normal a w):∀ (fuel:Nat) (kx:Array Bool) (a:Act) (w:ZB),Wb kx<=fuel->J kx a w->wpAnyH P md ops Q S fuel kx a w
 |0,kx,a,w,hu,h=>⟨Col oM,hend _ _ _ (Col oM) h⟩
 |fuel+1,kx,a,w,hu,h=>⟨fun h0=>hend _ _ _ h0 h,fun i hi=>wpOp_mono (fun a' w' h'=>⟨h'.1,Ys hstep hend fuel _ a' w' (by have:=Un (Jd.1 hi).1;omega) h'.2⟩) (hstep _ _ _ _ hi h)⟩
end
theorem Kg {w:ZB} {b o:Nat} {v:ZC} (h:w.cell? ⟨b,o,none⟩=some v):(Instr.loadAt 3 (.pointer (some ⟨b,o,none⟩))).run prog w=.ok v w:=by go_simp
theorem Mo {w:ZB} {b o:Nat} {v:ZC} (h:w.cell? ⟨b,o,none⟩=some v):(Instr.loadAt 9 (.pointer (some ⟨b,o,none⟩))).run prog w=.ok v w:=by go_simp
theorem Wy {w:ZB} {b o:Nat} {v:ZC} (h:w.cell? ⟨b,o,none⟩=some v):(Instr.loadAt 23 (.pointer (some ⟨b,o,none⟩))).run prog w=.ok v w:=by go_simp
theorem I05 {w:ZB} {b o:Nat} {v:ZC} (h:w.cell? ⟨b,o,none⟩=some v):(Instr.loadAt 51 (.pointer (some ⟨b,o,none⟩))).run prog w=.ok v w:=by go_simp
theorem Kf (n:Int) (w:ZB):(binOp .neq 3 ↑n (.int .i64 0)).run prog w=.ok (.bool (n != 0)) w:=by go_simp
theorem U9 (n:Nat) (w:ZB):(binOp .gtr 3 ↑n (.int .i64 0)).run prog w=.ok (.bool (ZH (0<n))) w:=by go_simp
theorem Mm (s:Q00) (w:ZB):(binOp .neq 9 ↑s (.string ⟨#[]⟩)).run prog w=.ok (.bool (s != [])) w:=by
 have:(binOp .neq 9 ↑s (.string ⟨#[]⟩)).run prog w=.ok (.bool (!s.isEmpty)) w:=by go_simp
 rw [this];cases s <;> rfl
end
end Go.Proofs.Y
