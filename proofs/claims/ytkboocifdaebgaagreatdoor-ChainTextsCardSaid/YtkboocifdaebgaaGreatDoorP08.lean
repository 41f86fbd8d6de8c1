/- ChainTexts, part 9 of 31. -/
import Derived.Test.YtkboocifdaebgaaGreatDoorP03
import Derived.Test.YtkboocifdaebgaaGreatDoorP04
import Derived.Test.YtkboocifdaebgaaGreatDoorP05
import Derived.Shelf.SlIter.Stops
set_option linter.all false
set_option maxHeartbeats 40000000
set_option maxRecDepth 100000
open Go renaming World -> ZB, Value -> ZC, Calls -> ZE, TypeId -> ZJ
open Go.RowKit renaming intOf -> ZG
open Decidable renaming decide -> ZH
namespace CH
def fJ (h0:Str) (js:List Str):Bool:=js.all isName&&Nw (h0::js)
theorem oq (h0:Str) (js:List Str) (x:Str):fJ h0 (js++[x])=(fJ h0 js&&(isName x&&!(h0::js).contains x)):=by unfold fJ;rw [Ju,<- D6,Ux];simp only [Nu,Oq,Og];cases js.all isName <;> cases Nw (h0::js) <;> cases isName x <;> rfl
theorem Aaf (h0:Str) (l1 l2:List Str) (h:fJ h0 (l1++l2)=true):fJ h0 l1=true:=by
 induction l2 generalizing l1 with
 |nil=>simpa using h
 |cons x l ih =>have:=ih (l1++[x]) (by simpa using h);rw [oq,Aq] at this;exact this.1
theorem tZ (h0:Str) (ls:List Str) (k:Nat) (h:fJ h0 (ls.take k)=false):fJ h0 ls=false:=by
 cases hb:fJ h0 ls with
 |false=>rfl
 |true =>rw [<- Fb k ls] at hb;rw [Aaf _ _ _ hb] at h;cases h
theorem aP (h:bC):dF h=(isName h.id&&isName h.company&&isName h.holder&&(h.aH==[]||isName h.aH)&&(h.aJ==[]||isName h.aJ)&&ZH (h.joint.length<=4) && !(h.aH != []&&ZH (0<h.joint.length))&&fJ h.holder h.joint && !((h.holder::h.joint).contains h.company||h.company==h.aH||!within h.capital 100||!within h.dV 100) && (within h.start 100000&&(h.stop==-1||within h.stop 100000&&ZH (h.stop > h.start)))):=rfl
end CH
namespace Go.Proofs.Y
open Go.RowKit Go.Lib Go.Shelf Go.Sort CH
theorem Lkn (s:Q00):((⟨s.toArray⟩:ByteArray) != ⟨#[]⟩)=(s != []):=by
 show (!((⟨s.toArray⟩:ByteArray)==⟨([]:Q00).toArray⟩))=(!(s==[]))
 rw [Fr]
theorem Lnb (s:Q00):((⟨s.toArray⟩:ByteArray)==⟨#[]⟩)=(s==[]):=Fr s []
theorem Ggj (n:Int) (w:ZB):ZE Tryz.prog 180 #[↑n] w (fun e w'=>e=.returned (.bool (CH.within n 100))/\w'=w):=by obtain⟨r,hr⟩:=nac (CH.within n 100);exact FD20
theorem K10 (n:Int) (w:ZB):ZE Tryz.prog 181 #[↑n] w (fun e w'=>e=.returned (.bool (CH.within n 100000))/\w'=w):=by obtain⟨r,hr⟩:=nac (CH.within n 100000);exact FD20
theorem El8 (s:Q00) (w:ZB) (hs:s.length<=20000):ZE Tryz.prog 178 #[↑s] w (fun e w'=>e=.returned (.bool (s==[]||CH.isName s))/\w'=w):=by
 have A:=Aa (Wf s w oM);have z:=Lnb s;cases h:(s==[]) with
 |true =>rw [h] at z;exact FD32
 |false =>rw [h] at z;go_in;go_wp2_with fail;refine A.out.mono ?_;rintro e w1 ⟨rfl,rfl⟩;clear A;go_wp2;go_ret;exact⟨rfl,rfl⟩
def Bi (h:bC) (vj:ZC):List ZC:=[ay h.id,ay h.company,ay h.holder,ay h.aH,ay h.aJ,vj,aI h.capital,aI h.dV,aI h.start,aI h.stop]
def Rc8 (B:Nat) (w:ZB) (cs:List ZC) (h:bC):Prop:=∃ vj,cs=Bi h vj/\Strs B w vj h.joint
structure jC (h:bC):Prop where
 id:h.id.length<=20000
 company:h.company.length<=20000
 holder:h.holder.length<=20000
 aH:h.aH.length<=20000
 aJ:h.aJ.length<=20000
 joint:Er h.joint
theorem Are (cs:List ZC) (h:bC) (w:ZB) (hl:Rc8 w w cs h) (hS:jC h) : ZE Tryz.prog 113 #[.agg cs.toArray] w (Ret w (.bool (dF h))):=by
 obtain⟨vj,rfl,hvj⟩:=hl;obtain⟨r,hr⟩:=nac (dF h);rw [hr.out];obtain⟨aj,cj,rfl,hc1,hc2,hcell⟩:=hvj;obtain⟨s1,s2,s3,s4,s5,s6⟩:=hS;have hblk:=Ag w (.cells (Bi h (.slice aj h.joint.length cj)).toArray 50);have hB:=(Ac _ w).alloc nR (.cells (Bi h (.slice aj h.joint.length cj)).toArray 50);generalize hnj:h.joint.length=nj at *;have N:=Aa fun (s:Q00) (w1:ZB) (hs:s.length<=20000)=>Wf s w1 oM;have O:=Aa fun (s:Q00) (w1:ZB) (hs:s.length<=20000)=>El8 s w1 hs;have PC:=Aa fun (n:Int) (w1:ZB)=>Ggj n w1;have DY:=Aa fun (n:Int) (w1:ZB)=>K10 n w1;have hmm:=@Hz Tryz.prog;dsimp only [Bi] at hblk hB ⊢;go_in;generalize hw0:w.alloc (.cells [ay h.id,ay h.company,ay h.holder,ay h.aH,ay h.aJ,.slice aj nj cj,aI h.capital,aI h.dV,aI h.start,aI h.stop].toArray 50)=w0 at hblk hB;have k0:w0.cell? ⟨w,0,none⟩=some ↑h.id:=Ab hblk 0;have k1:w0.cell? ⟨w,1,none⟩=some ↑h.company:=Ab hblk 1;have k2:w0.cell? ⟨w,2,none⟩=some ↑h.holder:=Ab hblk 2;have k3:w0.cell? ⟨w,3,none⟩=some ↑h.aH:=Ab hblk 3;have k4:w0.cell? ⟨w,4,none⟩=some ↑h.aJ:=Ab hblk 4;have k5:w0.cell? ⟨w,5,none⟩=some (.slice aj nj cj):=Ab hblk 5;have k6:w0.cell? ⟨w,6,none⟩=some ↑h.capital:=Ab hblk 6;have k7:w0.cell? ⟨w,7,none⟩=some ↑h.dV:=Ab hblk 7;have k8:w0.cell? ⟨w,8,none⟩=some ↑h.start:=Ab hblk 8;have k9:w0.cell? ⟨w,9,none⟩=some ↑h.stop:=Ab hblk 9;have hlt0:w.heap.size<w0.heap.size:=(aZ hblk)
 have HB:=Aa hblk;have HF:=Aa hcell;clear hblk hcell;have A:=N.out h.id w0 s1;cases i1:CH.isName h.id with
 |false =>rw [i1] at A;replace A:=Aa A;go_wp2_with fail;refine CmZ (A.out) fun w9 hw9=>?_;rw [hw9];clear hw9 w9;clear A;go_wp2;go_ret;exact⟨by rw [<- hr.out,aP,i1];simp,hB⟩
 |true =>
  rw [i1] at A;replace A:=Aa A;go_wp2_with fail;refine CmZ (A.out) fun w9 hw9=>?_;rw [hw9];clear hw9 w9;clear A;have A:=N.out h.company w0 s2;cases i2:CH.isName h.company with
  |false =>rw [i2] at A;replace A:=Aa A;go_wp2_with fail;refine CmZ (A.out) fun w9 hw9=>?_;rw [hw9];clear hw9 w9;clear A;go_wp2;go_ret;exact⟨by rw [<- hr.out,aP,i2];simp,hB⟩
  |true =>
   rw [i2] at A;replace A:=Aa A;go_wp2_with fail;refine CmZ (A.out) fun w9 hw9=>?_;rw [hw9];clear hw9 w9;clear A;have A:=N.out h.holder w0 s3;cases i3:CH.isName h.holder with
   |false =>rw [i3] at A;replace A:=Aa A;go_wp2_with fail;refine CmZ (A.out) fun w9 hw9=>?_;rw [hw9];clear hw9 w9;clear A;go_wp2;go_ret;exact⟨by rw [<- hr.out,aP,i3];simp,hB⟩
   |true =>
    rw [i3] at A;replace A:=Aa A;go_wp2_with fail;refine CmZ (A.out) fun w9 hw9=>?_;rw [hw9];clear hw9 w9;clear A;have A:=O.out h.aH w0 s4;cases i4:(h.aH==[]||CH.isName h.aH) with
    |false =>rw [i4] at A;replace A:=Aa A;go_wp2_with fail;refine CmZ (A.out) fun w9 hw9=>?_;rw [hw9];clear hw9 w9;clear A;go_wp2;go_ret;exact⟨by rw [<- hr.out,aP,i4];simp,hB⟩
    |true =>
     rw [i4] at A;replace A:=Aa A;go_wp2_with fail;refine CmZ (A.out) fun w9 hw9=>?_;rw [hw9];clear hw9 w9;clear A;have A:=O.out h.aJ w0 s5;cases i5:(h.aJ==[]||CH.isName h.aJ) with
     |false =>rw [i5] at A;replace A:=Aa A;go_wp2_with fail;refine CmZ (A.out) fun w9 hw9=>?_;rw [hw9];clear hw9 w9;clear A;go_wp2;go_ret;exact⟨by rw [<- hr.out,aP,i5];simp,hB⟩
     |true =>
      rw [i5] at A;replace A:=Aa A;go_wp2_with fail;refine CmZ (A.out) fun w9 hw9=>?_;rw [hw9];clear hw9 w9;clear A;clear N O;have N:True:=trivial;have O:True:=trivial;by_cases h6:nj<=4
      ·have d6:=naj ((4:Int)<(nj:Int));have h6':ZH (h.joint.length<=4)=true:=by rw [hnj];simpa using h6
       have z4:=Lkn h.aH;cases hN:(h.aH != []) <;> rw [hN] at z4;focus have zi:List.isEmpty h.aH=true:=by rw [I0,hN];rfl
       rotate_left;focus
        have zi:List.isEmpty h.aH=false:=by rw [I0,hN];rfl
        by_cases hj0:0<nj
        ·have d7:=nai ((0:Int)<(nj:Int));have h7':ZH (0<h.joint.length)=true:=by rw [hnj];simpa using hj0
         clear PC DY;go_wp2;go_ret;exact⟨by rw [<- hr.out,aP,hN,h7'];simp,hB⟩
        have d7:=naj ((0:Int)<(nj:Int));have h7':ZH (0<h.joint.length)=false:=by rw [hnj];simpa using hj0
       rotate_left;all_goals
        obtain⟨o,ho,hM1⟩:=Cn Kc Tryz.underlying183 (Lw ay w0) h.holder (.bool true) rfl;have hBm:=hB.alloc hB.size (.map #[] 0);have hB1:=Bn hBm hB.size o;have zh:=(Below.block ((Ac _ w0).alloc nR (.map #[] 0)) w.heap.size hlt0).trans HB.out;have hblk1:=(World.putObj_heap_other (w:=w0.alloc (.map #[] 0)) (o:=o) (Iu hlt0)).trans zh;have m2:(w0.alloc (.map #[] 0)).cell? ⟨w,2,none⟩=some ↑h.holder:=Ab zh 2;have hsz1:w.heap.size<((w0.alloc (.map #[] 0)).putObj w0.heap.size o).heap.size:=(aZ hblk1)
        have hr0:w.heap.size<=w0.heap.size:=hB.size;generalize hw1:(w0.alloc (.map #[] 0)).putObj w0.heap.size o=w1 at *;generalize hrr:w0.heap.size=R at *;have q0:w1.cell? ⟨w,0,none⟩=some ↑h.id:=Ab hblk1 0;have q1:w1.cell? ⟨w,1,none⟩=some ↑h.company:=Ab hblk1 1;have q2:w1.cell? ⟨w,2,none⟩=some ↑h.holder:=Ab hblk1 2;have q3:w1.cell? ⟨w,3,none⟩=some ↑h.aH:=Ab hblk1 3;have q4:w1.cell? ⟨w,4,none⟩=some ↑h.aJ:=Ab hblk1 4;have q5:w1.cell? ⟨w,5,none⟩=some (.slice aj nj cj):=Ab hblk1 5;have q6:w1.cell? ⟨w,6,none⟩=some ↑h.capital:=Ab hblk1 6;have q7:w1.cell? ⟨w,7,none⟩=some ↑h.dV:=Ab hblk1 7;have q8:w1.cell? ⟨w,8,none⟩=some ↑h.start:=Ab hblk1 8;have q9:w1.cell? ⟨w,9,none⟩=some ↑h.stop:=Ab hblk1 9;go_wp2_with fail;clear k0 k1 k2 k3 k4 k5 k6 k7 k8 k9;clear hmm ho m2 zh hBm HB N O q0 q1 q2 q3 q4 q5 q6 q7 q8 q9;have EH:=Aa hblk1;clear hblk1;go_loopw [61] (fun iv wr=>∃ k:Nat,k<=nj/\iv=↑k/\Hid (fJ h.holder (h.joint.take k)=true)/\CS R wr (h.holder::h.joint.take k)/\Below R w1 wr/\Below w w wr) (fun iv _=>nj - (ZG iv).toNat);case atStart=>exact⟨0,Ak _,rfl,Aa rfl,hM1,Ac _ _,hB1⟩
        case round =>
         obtain⟨k,hk,rfl,hu,hM,hbR,hb⟩:=hrel;by_cases hlt:k<nj
         ·obtain⟨x,hx⟩:∃ x,h.joint[k]?=some x:=⟨_,Ae oM⟩
          have hxl:=s6.2 x (Bg hx);obtain⟨b,off,rfl,hblt,hcs⟩:=HF.out (fun e=>by rw [e] at hnj;simp at hnj;omega);have hck:=(hb.cell (p:=⟨b,off+k,none⟩) hblt).trans (hcs k x hx);have hts:h.joint.take (k+1)=h.joint.take k++[x]:=by rw [Ip,hx];rfl
          have hno:fJ h.holder (h.joint.take (k+1))=(CH.isName x&&!(h.holder::h.joint.take k).contains x):=by rw [hts,oq,hu.out];rfl
          have A:=Aa (Wf x wr oM);have hlk:=Dg Kc Tryz.underlying183 (.bool false) Z6 hM x;rw [(Wt x (h.holder::h.joint.take k) 0).1] at hlk;have hko:((h.holder::h.joint.take k).map fun l=>(l,Value.bool true))++[(x,.bool true)]=(h.holder::h.joint.take (k+1)).map fun l=>(l,Value.bool true):=by rw [hts];simp
          have hup:=fun (hc:(h.holder::h.joint.take k).contains x=false)=>Cn Kc Tryz.underlying183 hM x (.bool true) (by
           cases hq:Bp x ((h.holder::h.joint.take k).map fun l=>(l,Value.bool true)) 0 with
           |none=>rfl
           |some p =>have:=(Wt x (h.holder::h.joint.take k) 0).2;rw [hq,hc] at this;cases this)
          rw [hko] at hup;have HN:=Aa hno;have HU:=Aa hup;have HT:=Aa (tZ h.holder h.joint (k+1));clear hno hup hts hko hcs hx;cases hin:CH.isName x with
          |false =>rw [hin] at A;have hr':fJ h.holder h.joint=false:=HT.out (by rw [HN.out,hin];rfl);go_wp2_with fail;refine CmZ A.out fun w2 hw2=>?_;rw [hw2];clear A hw2 w2;go_wp2;go_ret;exact⟨by rw [<- hr.out,aP,hr'];simp,hb⟩
          |true =>
           rw [hin] at A;cases hct:(h.holder::h.joint.take k).contains x with
           |true =>have hr':fJ h.holder h.joint=false:=HT.out (by rw [HN.out,hin,hct];rfl);rw [hct] at hlk;go_wp2_with fail;refine CmZ A.out fun w2 hw2=>?_;rw [hw2];clear A hw2 w2;go_wp2;go_ret;exact⟨by rw [<- hr.out,aP,hr'];simp,hb⟩
           |false =>
            have hr':fJ h.holder (h.joint.take (k+1))=true:=by rw [HN.out,hin,hct];rfl
            have HR:=Aa hr';rw [hct] at hlk;obtain⟨o',ho',hM'⟩:=HU.out hct;clear hr' HN HT HU;go_wp2_with fail;refine CmZ A.out fun w2 hw2=>?_;rw [hw2];clear A hw2 w2;go_wp2;go_roundw;case rel=>exact⟨k+1,oM,by go_num,HR,hM',Bn hbR nR _,Bn hb hr0 _⟩
            case measure=>simp [ZG];omega
         ·have e:nj=k:=oM;subst e;have hj:fJ h.holder h.joint=true:=by rw [<- hu.out,<- hnj,D5]
          rw [show h.joint.take nj=h.joint from by rw [<- hnj,D5]] at hM;have mV:=(hbR.block w hlt0).trans EH.out;clear hu hbR;have k0:wr.cell? ⟨w,0,none⟩=some ↑h.id:=Ab mV 0;have k1:wr.cell? ⟨w,1,none⟩=some ↑h.company:=Ab mV 1;have k2:wr.cell? ⟨w,2,none⟩=some ↑h.holder:=Ab mV 2;have k3:wr.cell? ⟨w,3,none⟩=some ↑h.aH:=Ab mV 3;have k4:wr.cell? ⟨w,4,none⟩=some ↑h.aJ:=Ab mV 4;have k5:wr.cell? ⟨w,5,none⟩=some (.slice aj nj cj):=Ab mV 5;have k6:wr.cell? ⟨w,6,none⟩=some ↑h.capital:=Ab mV 6;have k7:wr.cell? ⟨w,7,none⟩=some ↑h.dV:=Ab mV 7;have k8:wr.cell? ⟨w,8,none⟩=some ↑h.start:=Ab mV 8;have k9:wr.cell? ⟨w,9,none⟩=some ↑h.stop:=Ab mV 9;have hlk:=Dg Kc Tryz.underlying183 (.bool false) Z6 hM h.company;rw [(Wt h.company (h.holder::h.joint) 0).1] at hlk;have hse:=Fr h.company h.aH;cases hct:(h.holder::h.joint).contains h.company with
          |true =>rw [hct] at hlk;clear PC DY;go_wp2;go_ret;exact⟨by rw [<- hr.out,aP,hct];simp,hb⟩
          |false =>
           rw [hct] at hlk;cases hcn:(h.company==h.aH) with
           |true =>rw [hcn] at hse;clear PC DY;go_wp2;go_ret;exact⟨by rw [<- hr.out,aP,hcn];simp,hb⟩
           |false =>
            rw [hcn] at hse;have A:=PC.out h.capital wr;cases hp1:CH.within h.capital 100 with
            |false =>rw [hp1] at A;replace A:=Aa A;clear PC DY;go_wp2_with fail;refine CmZ (A.out) fun w9 hw9=>?_;rw [hw9];clear hw9 w9;clear A;go_wp2;go_ret;exact⟨by rw [<- hr.out,aP,hp1];simp,hb⟩
            |true =>
             rw [hp1] at A;replace A:=Aa A;go_wp2_with fail;refine CmZ (A.out) fun w9 hw9=>?_;rw [hw9];clear hw9 w9;clear A;have A:=PC.out h.dV wr;cases hp2:CH.within h.dV 100 with
             |false =>rw [hp2] at A;replace A:=Aa A;clear PC DY;go_wp2_with fail;refine CmZ (A.out) fun w9 hw9=>?_;rw [hw9];clear hw9 w9;clear A;go_wp2;go_ret;exact⟨by rw [<- hr.out,aP,hp2];simp,hb⟩
             |true =>
              rw [hp2] at A;replace A:=Aa A;go_wp2_with fail;refine CmZ (A.out) fun w9 hw9=>?_;rw [hw9];clear hw9 w9;clear A;have A:=DY.out h.start wr;cases hd1:CH.within h.start 100000 with
              |false =>rw [hd1] at A;replace A:=Aa A;clear DY;go_wp2_with fail;refine CmZ (A.out) fun w9 hw9=>?_;rw [hw9];clear hw9 w9;clear A;go_wp2;go_ret;exact⟨by rw [<- hr.out,aP,hd1];simp,hb⟩
              |true =>
               rw [hd1] at A;replace A:=Aa A;go_wp2_with fail;refine CmZ (A.out) fun w9 hw9=>?_;rw [hw9];clear hw9 w9;clear A;cases hst:(h.stop==-1) with
               |true =>clear DY;go_wp2;go_ret;exact⟨by rw [<- hr.out,aP];first|(simp only [hj,hct,hcn,i1,i2,i3,i4,i5,h6',hN,h7',hp1,hp2,hd1,hst];rfl)|(simp only [hj,hct,hcn,i1,i2,i3,i4,i5,h6',hN,hp1,hp2,hd1,hst];rfl),hb⟩
               |false =>
                have A:=DY.out h.stop wr;cases hd2:CH.within h.stop 100000 with
                |false =>rw [hd2] at A;replace A:=Aa A;clear DY;go_wp2_with fail;refine CmZ (A.out) fun w9 hw9=>?_;rw [hw9];clear hw9 w9;clear A;go_wp2;go_ret;exact⟨by rw [<- hr.out,aP,hd2,hst];simp,hb⟩
                |true =>rw [hd2] at A;replace A:=Aa A;clear DY;go_wp2_with fail;refine CmZ (A.out) fun w9 hw9=>?_;rw [hw9];clear hw9 w9;clear A;go_wp2;go_ret;exact⟨by rw [<- hr.out,aP];first|(simp only [hj,hct,hcn,i1,i2,i3,i4,i5,h6',hN,h7',hp1,hp2,hd1,hst,hd2];rfl)|(simp only [hj,hct,hcn,i1,i2,i3,i4,i5,h6',hN,hp1,hp2,hd1,hst,hd2];rfl),hb⟩
      ·have d6:=nai ((4:Int)<(nj:Int));have h6':ZH (h.joint.length<=4)=false:=by rw [hnj];simpa using h6
       clear PC DY;go_wp2;go_ret;exact⟨by rw [<- hr.out,aP,h6'];simp,hB⟩
end Go.Proofs.Y
namespace Go.Proofs.Y
section
open Go.Lib Go.Maps Go.Proofs.Tryz Go.RowKit Go.Shelf Go.Sort CH
theorem _root_.Go.World.grownBy.trans' {w w1 w2:ZB} {row:Option Nat} (h:w.grownBy w1 row) (h':w1.grownBy w2 row):w.grownBy w2 row := ⟨h'.os.trans h.os,h'.tape.trans h.tape,h'.output.trans h.output,Aj h.size h'.size,fun k hk hne=>(h'.block k (Af hk h.size) hne).trans (h.block k hk hne)⟩
abbrev Bk2 (w:ZB) (r n:Nat) (D:DataW Unit):Prop:=w.ownsMap prog 9 (plainElem prog 4) r n D
theorem Um {w:ZB} {r n:Nat} {D:DataW Unit} (h:Bk2 w r n D) (hn:n<1000000) (x:Q00) (hx:x.length<=20000) : ∃ w',(Instr.mapUpdate 183 (.map (some r)) ↑x (.bool true)).run prog w=.ok () w'/\(∃ D',Bk2 w' r (n+1) D')/\w.grownBy w' (some r):=by obtain⟨w',h1,h2,h3⟩:=h.update (Maps.string_keyed underlying9) underlying183 (by unfold maxLen;omega) (key:=↑x) (val:=.bool true) (kl:=.string x) (WideMaps.keyOf_string_mk underlying9 (by show x.toArray.size<=maxLen;unfold maxLen;simp;omega)) (plainElem_bool underlying4 true);exact⟨w',h1,⟨_,h2⟩,h3⟩
def Hld (w:ZB) (n:Nat) (e:Ending) (w':ZB):Prop:=∃ a m c,e=.returned (.slice a m c)/\m<=n/\Below w w w'
theorem Hxk {w:ZB} {r n:Nat} {D:DataW Unit} (h:Bk2 w r n D) (hn:n<=1000000) : ZE prog 182 #[.map (some r)] w (Hld w n):=by
 have hs:=h.size_le;refine (Iz (n:=6)).1 ?_;have hfK:Fence.wide.fn 243:=trivial;have hfS:Fence.wide.fn 242:=trivial;refine Ns func182 rfl trivial ?_ rfl;simp only [ntmps182,Gu,Ap,Bf,Nat.reduceAdd,Nat.reduceSub,Gt,Gs,Hl,Gy,Eu,D6];gi_wp2_with (first |(gi_at_call 243;refine (Tryz.rV _ _).mono ?_;rintro e w' ⟨rfl,rfl⟩) |(gi_at_call 242;refine (Tryz.jF r n D _ w h (by unfold maxLen;omega) oM).mono ?_;rintro e w' ⟨v,ss,rfl,hS,hrow,hnil,hb⟩))
 have hl:ss.length<=n:=by rw [hS.length_eq];refine Aj ?_ hs;cases D <;> simp [strKeys,Maps.size]
 obtain⟨av,cv,rfl⟩:∃ a c,v=.slice a ss.length c:=by
  obtain⟨hlen,⟨rfl,h0⟩|⟨g,cap,cur,rfl,_⟩⟩:=hrow;·exact⟨none,0,by rw [h0]⟩
  ·exact⟨_,cap,rfl⟩
 gi_wp2;go_ret;exact⟨_,_,_,rfl,hl,((Ac _ w).alloc nR _).trans (hb.mono sM)⟩
end
section
open Go.Lib Go.Proofs.Tryz Go.RowKit Go.Shelf Go.Sort CH
variable {w:ZB} {α:Type} {r:Nat} {kvs:List ((Int × Int) × ZC)}
def xK (B:Nat) (w:ZB) (v:ZC) (h:bC):Prop := ∃ (b:Nat) (vj:ZC),v=.slice (some ⟨b,0,none⟩) 1 1/\b<B/\(∀ j x,(Bi h vj)[j]?=some x->w.cell? ⟨b,j,none⟩=some x)/\Strs B w vj h.joint
theorem Nx (w:ZB) (ls:List Q00) (h:ls.length<=1000000):Av w (w.alloc (.cells (ls.map ay).toArray 9)) (.slice (some ⟨w,0,none⟩) ls.length ls.length) ls:=by
 refine⟨sM,.inr ⟨w,ls.length,(ls.map ay).toArray,rfl,Au _,Ag _ _,Au _,?_,?_,?_⟩⟩;·unfold maxLen;omega
 ·simp
 ·simp [Dz]
theorem Ggl (v:ZC) (h:bC) (w:ZB) (hv:xK w w v h) (hS:jC h) : ZE prog 114 #[v] w (Hld w (4+h.joint.length)):=by
 obtain⟨b,vj,rfl,hb,hc,hj⟩:=hv;obtain⟨aj,cj,rfl,hj1,hj2⟩:=hj.form;generalize hnj:h.joint.length=nj at *;have hmm:=@Hz prog;go_in;go_wp2_with fail;go_loopw [11] (fun iv wr=>(iv=.int .i64 0/\wr=w.alloc (.map #[] 0))\/(iv=.int .i64 1/\(∃ n D,n<=4+nj/\Bk2 wr w n D)/\Below w w wr)) (fun iv _=>1 - (ZG iv).toNat);case atStart=>exact .inl ⟨rfl,rfl⟩
 case round =>
  rcases hrel with⟨rfl,rfl⟩|⟨rfl,⟨n,D,hn,hM⟩,hb9⟩
  ·have hB0:=(Ac _ w).alloc nR (.map #[] 0);have k:∀ j x,(Bi h (.slice aj nj cj))[j]?=some x->(w.alloc (.map #[] 0)).cell? ⟨b,j,none⟩=some x:=fun j x hx=>(hB0.cell (p:=⟨b,j,none⟩) hb).trans (hc j x hx);have k0:=k 0 _ rfl;have k1:=k 1 _ rfl;have k2:=k 2 _ rfl;have k3:=k 3 _ rfl;have k4:=k 4 _ rfl;have k5:=k 5 _ rfl;have k6:=k 6 _ rfl;have k7:=k 7 _ rfl;have k8:=k 8 _ rfl;have k9:=k 9 _ rfl;have K:=Aa k;clear k hc;have hM0:=World.ownsMap_made (H:=Unit) w prog 9 (plainElem prog 4);have hr0:w.heap.size<(w.alloc (.map #[] 0)).heap.size:=sM;generalize hW:w.alloc (.map #[] 0)=W at *;go_wp2_with fail;have hM1:=hM0.alloc (.cells #[ay h.id,ay h.company,ay h.holder,ay h.aH,ay h.aJ,.slice aj nj cj,aI h.capital,aI h.dV,aI h.start,aI h.stop] 50);have hblk:=Ag W (.cells #[ay h.id,ay h.company,ay h.holder,ay h.aH,ay h.aJ,.slice aj nj cj,aI h.capital,aI h.dV,aI h.start,aI h.stop] 50);have hB1:=hB0.alloc (Dy hr0) (.cells #[ay h.id,ay h.company,ay h.holder,ay h.aH,ay h.aJ,.slice aj nj cj,aI h.capital,aI h.dV,aI h.start,aI h.stop] 50);generalize hW1:W.alloc (.cells #[ay h.id,ay h.company,ay h.holder,ay h.aH,ay h.aJ,.slice aj nj cj,aI h.capital,aI h.dV,aI h.start,aI h.stop] 50)=W1 at *;have hMd:=hM1.drew;obtain⟨wa,ra,⟨Da,ma⟩,ga⟩:=Um hMd dC h.company hS.company;obtain⟨wab,rab,⟨Dab,mab⟩,gab⟩:=Um ma dC h.holder hS.holder;obtain⟨wb,rb,⟨Db,mb⟩,gb⟩:=Um hMd dC h.holder hS.holder;obtain⟨wba,rba,⟨Dba,mba⟩,gba⟩:=Um mb dC h.company hS.company;have ltW:W.heap.size<W1.heap.size:=(aZ hblk)
   have neW:W.heap.size≠w.heap.size:=oM;have qP:∀ W',W1.grownBy W' (some w.heap.size)->W'.heap[W.heap.size]?=some (.cells #[ay h.id,ay h.company,ay h.holder,ay h.aH,ay h.aJ,.slice aj nj cj,aI h.capital,aI h.dV,aI h.start,aI h.stop] 50 (0,0)):=fun W' hg=>(hg.block _ ltW (fun e=>neW (Gh e))).trans hblk;have hgd:W1.grownBy W1.drew (some w.heap.size):=⟨rfl,rfl,rfl,Au _,fun _ _ _=>rfl⟩
   have S0:=qP _ hgd;have Sa:=qP _ (hgd.trans' ga);have Sab:=qP _ ((hgd.trans' ga).trans' gab);have Sb:=qP _ (hgd.trans' gb);have Sba:=qP _ ((hgd.trans' gb).trans' gba);have two:∀ {W':ZB},W'.heap[W.heap.size]?=some (.cells #[ay h.id,ay h.company,ay h.holder,ay h.aH,ay h.aJ,.slice aj nj cj,aI h.capital,aI h.dV,aI h.start,aI h.stop] 50 (0,0))->W'.cell? ⟨W,1,none⟩=some ↑h.company/\W'.cell? ⟨W,2,none⟩=some ↑h.holder:=fun hq=>⟨Ab hq 1,Ab hq 2⟩
   have Q0:=two S0;have Qa:=two Sa;have Qab:=two Sab;have Qb:=two Sb;have Qba:=two Sba;have HK:=Aa qP;have H1:=Aa hblk;clear qP hblk two S0 Sa Sab Sb Sba k0 k1 k2 k3 k4 k5 k6 k7 k8 k9;go_region_held3 (fun W'=>W'.cell? ⟨W,1,none⟩=some ↑h.company/\W'.cell? ⟨W,2,none⟩=some ↑h.holder) (first|exact Q0|exact Qa|exact Qab|exact Qb|exact Qba) (fail);have Gab:=(hgd.trans' ga).trans' gab;have hblk2:=HK.out _ Gab;have hB2:Below w w wab:=hB1.grown Gab (Dy (Nat.lt_trans hr0 ltW)) (fun k e=>by cases e;exact Au _);have hsz2:W.heap.size<wab.heap.size:=(aZ hblk2)
   clear Q0 Qa Qab Qb Qba HK H1 ra rab rb rba gba gb ga gab mba mb ma hgd Gab hMd hM1 hM0 hB1;have k3:wab.cell? ⟨W,3,none⟩=some ↑h.aH:=Ab hblk2 3;have k4:wab.cell? ⟨W,4,none⟩=some ↑h.aJ:=Ab hblk2 4;have k5:(wab.alloc (.cells #[↑h.aH,↑h.aJ] 9)).cell? ⟨W,5,none⟩=some (.slice aj nj cj):=by rw [Em _ _ _ (by rw [Ab hblk2 5];rfl)];exact Ab hblk2 5
   have hO:=Nx wab [h.aH,h.aJ] sM;have hBa:Below wab wab (wab.alloc (.cells #[↑h.aH,↑h.aJ] 9)):=(Ac _ wab).alloc nR _;have hJ:=(hj.below (hB2.trans (hBa.mono hB2.size)) nR)
   have hMa:=mab.alloc (.cells #[↑h.aH,↑h.aJ] 9);have hszA:wab.heap.size<=(wab.alloc (.cells #[↑h.aH,↑h.aJ] 9)).heap.size:=sM;go_wp2_with (refine R6 rfl _ _ rfl wab _ [h.aH,h.aJ] rfl hO w _ h.joint rfl hJ (by have:=hS.joint.1;simp;omega) hszA ?_;intro v3 w3 hO3 hg3 h43;clear h43;obtain⟨a3,c3,rfl,hf3⟩:=hO3.form)
   have hne:some w.heap.size≠some wab.heap.size:=fun e=>by injection e;omega
   have hM3:=hMa.kept hg3 hne;have hB3:Below w w w3:=(hB2.trans (hBa.mono hB2.size)).grown hg3 (Aj hB2.size hszA) (fun k e=>by cases e;exact hB2.size);have hN:([h.aH,h.aJ]++h.joint).length=nj+1+1:=naf;rw [hN] at hO3 hf3;obtain⟨hc3,UL,AA⟩:=hf3;obtain⟨g,rfl,hg1,hg2⟩:=AA sM;have hLs:∀ x∈[h.aH,h.aJ]++h.joint,x.length<=20000:=fun x hx=>by
    simp only [D6,Eu,Az] at hx;rcases hx with rfl|rfl|hx;·exact hS.aH
    ·exact hS.aJ
    ·exact hS.joint.2 x hx
   have hLs:=Aa hLs;generalize hLL:[h.aH,h.aJ]++h.joint=L at *;generalize hNN:nj+1+1=N at *;clear k3 k4 k5 hO hJ hMa AA hBa hblk2 hg3;go_loopw [30] (fun iv wr=>∃ (k n:Nat) (D:DataW Unit),k<=N/\iv=↑k/\n<=2+k/\Bk2 wr w n D/\Av wab wr (.slice (some ⟨g,0,none⟩) N c3) L/\Below w w wr) (fun iv _=>N - (ZG iv).toNat);case atStart=>exact⟨0,2,Dab,Ak _,rfl,Au _,hM3,hO3,hB3⟩
   case round =>
    obtain⟨k,n,D,hk,rfl,hnk,hMr,hOr,hBr⟩:=hrel;have TN:nj<=100000:=by have:=hS.joint.1;omega
    by_cases hlt:k<N
    ·obtain⟨x,hx⟩:∃ x,L[k]?=some x:=⟨_,Ae oM⟩
     have hxl:=hLs.out x (Bg hx);have hck:wr.cell? ⟨g,k,none⟩=some ↑x:=by obtain⟨a',c',e',_,_,hcc⟩:=hOr.strs;cases e';obtain⟨b',o',e',_,QH⟩:=hcc (fun e=>by rw [e] at hx;simp at hx);cases e';simpa using QH k x hx
     cases hxe:List.isEmpty x with
     |true =>
      clear hx;go_wp2;go_roundw;case rel=>exact⟨k+1,n,D,oM,by go_num,oM,hMr,hOr,hBr⟩
      case measure=>simp [ZG];omega
     |false =>
      obtain⟨wu,ru,⟨Du,mu⟩,gu⟩:=Um hMr oM x hxl;have hOu:Av wab wu (.slice (some ⟨g,0,none⟩) N c3) L:=Kq hOr gu (.inr (fun e=>by simp [Value.ownBlock] at e;omega));have hBu:=hBr.grown gu hBr.size (fun k e=>by cases e;exact Au _);clear hx;go_wp2;go_roundw;case rel=>exact⟨k+1,n+1,Du,oM,by go_num,oM,mu,hOu,hBu⟩
      case measure=>simp [ZG];omega
    ·have e:N=k:=oM;subst e;go_wp2;go_roundw;case rel=>exact .inr ⟨by go_num,⟨n,D,oM,hMr⟩,hBr⟩
     case measure=>simp [ZG]
  ·have hA:=Aa (Hxk hM (by have:=hS.joint.1;omega));go_wp2_with fail;refine hA.out.mono ?_;rintro e w2 ⟨a2,m2,c2,rfl,hm2,hb2⟩;clear hA;go_wp2;go_ret;exact⟨_,_,_,rfl,oM,hb9.trans (hb2.mono hb9.size)⟩
def We (h:bC) (day:Int):Bool:=ZH (h.start<=day)&&(h.stop==-1||ZH (day<h.stop))
theorem Mdn (h:bC) (aj:Option Addr) (nj cj:Nat) (day:Int) (w:ZB) : ZE prog 184 #[.agg (Bi h (.slice aj nj cj)).toArray,↑day] w (Ret w (.bool (We h day))):=by
 obtain⟨r,hr⟩:=nac (We h day);rw [hr.out];dsimp only [Bi];cases h1:ZH (h.start<=day) with
 |false =>go_in;go_wp2;go_ret;exact⟨by rw [<- hr.out];simp only [We,h1];rfl,(Ac _ w).alloc nR _⟩
 |true =>
  cases h2:(h.stop==-1) with
  |true =>exact FD105
  |false =>exact FD105
theorem Lsp (w:ZB):(zeroValue 248).run prog w=.ok (.agg #[.int .i64 0,.int .i64 0]) w:=Zr kR w
theorem Qty (h:bC) (aj:Option Addr) (nj cj:Nat) (day:Int) (p b:Nat) (w:ZB) (hp:w.cell? ⟨p,0,none⟩=some (.slice (some ⟨b,0,none⟩) 1 1)) (hpl:p<w.heap.size) (hb:b<w.heap.size) (hc:∀ j x,(Bi h (.slice aj nj cj))[j]?=some x->w.cell? ⟨b,j,none⟩=some x) (hr:We h day=true) (c1:CH.within h.capital 100=true) (c2:CH.within h.dV 100=true) : ZE prog 183 #[↑day,.pointer (some ⟨p,0,none⟩)] w (Ret w (.bool true)):=by
 have hmm:=@Hz prog;obtain⟨nc,hnc,hnc'⟩:∃ n:Nat,h.capital=n/\n<=100:=by simp [CH.within] at c1;exact⟨h.capital.toNat,oM,oM⟩
 obtain⟨nv,hnv,TM⟩:∃ n:Nat,h.dV=n/\n<=100:=by simp [CH.within] at c2;exact⟨h.dV.toNat,oM,oM⟩
 have hB0:=(Ac _ w).alloc nR (.map #[] 0);have hM0:=Lw ay w;have hp0:=(hB0.cell (p:=⟨p,0,none⟩) hpl).trans hp;go_in;generalize hW:w.alloc (.map #[] 0)=W at *;go_wp2_with fail;go_loopw [11] (fun iv wr=>(iv=.int .i64 0/\wr=W)\/(iv=.int .i64 1/\Below w w wr)) (fun iv _=>1 - (ZG iv).toNat);case atStart=>exact .inl ⟨rfl,rfl⟩
 case round =>
  rcases hrel with⟨rfl,hwr⟩|⟨rfl,hb9⟩
  ·rw [hwr];clear hwr wr;have k:∀ j x,(Bi h (.slice aj nj cj))[j]?=some x->W.cell? ⟨b,j,none⟩=some x:=fun j x hx=>(hB0.cell (p:=⟨b,j,none⟩) hb).trans (hc j x hx);have k0:=k 0 _ rfl;have k1:=k 1 _ rfl;have k2:=k 2 _ rfl;have k3:=k 3 _ rfl;have k4:=k 4 _ rfl;have k5:=k 5 _ rfl;have k6:=k 6 _ rfl;have k7:=k 7 _ rfl;have k8:=k 8 _ rfl;have k9:=k 9 _ rfl;clear k hc;have A:=Aa fun o=>Mdn h aj nj cj day (W.alloc o);rw [hr] at A;dsimp only [Bi] at A;rw [hnc,hnv] at A;go_wp2_with fail;refine CmZ (A.out _) fun w2 hb2=>?_;clear A k0 k1 k2 k3 k4 k5 k6 k7 k8 k9;have hblk:=(hb2.block W sM).trans (Ag W _);have hB2:Below W W w2:=((Ac _ W).alloc nR _).trans (hb2.mono sM);have hM2:=hM0.below hB2;have m1:w2.cell? ⟨W,1,none⟩=some ↑h.company:=Ab hblk 1;have m6:w2.cell? ⟨W,6,none⟩=some ↑nc:=Ab hblk 6;have m7:w2.cell? ⟨W,7,none⟩=some ↑nv:=Ab hblk 7;have hlk:=Dg Kc (underlying245) _ Lsp hM2 h.company;rw [show Bp h.company ([]:List (Q00 × ZC)) 0=none from rfl] at hlk;dsimp only [Option.map_none,Option.getD_none] at hlk;have n1:∀ o,(w2.alloc o).cell? ⟨W,1,none⟩=some ↑h.company:=fun o=>by rw [Em _ _ _ (by rw [m1];rfl)];exact m1
   have n6:∀ o,(w2.alloc o).cell? ⟨W,6,none⟩=some ↑nc:=fun o=>by rw [Em _ _ _ (by rw [m6];rfl)];exact m6
   have n7:∀ o,(w2.alloc o).cell? ⟨W,7,none⟩=some ↑nv:=fun o=>by rw [Em _ _ _ (by rw [m7];rfl)];exact m7
   have hM3:=hM2.below ((Ac _ w2).alloc nR (.cells #[↑nc,↑nv] 248));obtain⟨o,ho,hM4⟩:=Cn Kc (underlying245) hM3 h.company (.agg #[↑nc,↑nv]) rfl;have d1:=naj ((100:Int)<(nc:Int));have d2:=naj ((100:Int)<(nv:Int));have hBf:=Bn (r:=w.heap.size) ((hB0.trans (hB2.mono hB0.size)).alloc (Aj hB0.size hB2.size) (.cells #[↑nc,↑nv] 248)) nR o;clear hnc hnv;go_wp2;go_roundw;case rel=>exact .inr ⟨by go_num,hBf⟩
   case measure=>simp [ZG]
  ·go_wp2;go_ret;exact⟨rfl,hb9⟩
structure Bears (h:bC):Prop where
 runs:We h h.start=true
 capital:CH.within h.capital 100=true
 dV:CH.within h.dV 100=true
structure pY (h:bC) (aj:Option Addr) (nj cj p q b:Nat) (w:ZB):Prop where
 hp:w.cell? ⟨p,0,none⟩=some (.slice (some ⟨b,0,none⟩) 1 1)
 pl:p<w.heap.size
 bl:b<w.heap.size
 cells:∀ j x,(Bi h (.slice aj nj cj))[j]?=some x->w.cell? ⟨b,j,none⟩=some x
 hq:w.cell? ⟨q,0,none⟩=some (.func (.func 183) #[] #[.pointer (some ⟨p,0,none⟩)])
 ql:q<w.heap.size
theorem pY.below {h:bC} {aj:Option Addr} {nj cj p q b:Nat} {w':ZB} (H:pY h aj nj cj p q b w) (hb:Below w w w'):pY h aj nj cj p q b w' := ⟨(hb.cell (p:=⟨p,0,none⟩) H.pl).trans H.hp,Af H.pl hb.size,Af H.bl hb.size,fun j x hx=>(hb.cell (p:=⟨b,j,none⟩) H.bl).trans (H.cells j x hx),(hb.cell (p:=⟨q,0,none⟩) H.ql).trans H.hq,Af H.ql hb.size⟩
theorem Km8 (h:bC) (aj:Option Addr) (nj cj p q b:Nat) (w:ZB) (H:pY h aj nj cj p q b w) (hB:Bears h) : ZE prog 186 #[.agg (Bi h (.slice aj nj cj)).toArray,.pointer (some ⟨q,0,none⟩)] w (Ret w (.bool false)):=by have hBa:=fun o=>(Ac _ w).alloc nR o;have A:=Aa fun o=>Qty h aj nj cj h.start p b (w.alloc o) (H.below (hBa o)).hp (H.below (hBa o)).pl (H.below (hBa o)).bl (H.below (hBa o)).cells hB.runs hB.capital hB.dV;have hq:=fun o=>(H.below (hBa o)).hq;dsimp only [Bi];go_in;go_wp2_with fail;refine CmZ (A.out _) fun w1 hb1=>?_;clear A;go_wp2;go_ret;exact⟨rfl,(hBa _).trans (hb1.mono sM)⟩
theorem B3s (h:bC) (aj:Option Addr) (nj cj p q b:Nat) (w:ZB) (H:pY h aj nj cj p q b w) (hB:Bears h) : ZE prog 244 #[.slice (some ⟨b,0,none⟩) 1 1,.func (.func 186) #[] #[.pointer (some ⟨q,0,none⟩)]] w (Ret w (.int .i64 (-1))):=by
 have k0:=H.cells 0 _ rfl;have k1:=H.cells 1 _ rfl;have k2:=H.cells 2 _ rfl;have k3:=H.cells 3 _ rfl;have k4:=H.cells 4 _ rfl;have k5:=H.cells 5 _ rfl;have k6:=H.cells 6 _ rfl;have k7:=H.cells 7 _ rfl;have k8:=H.cells 8 _ rfl;have k9:=H.cells 9 _ rfl;have A:=Aa (Km8 h aj nj cj p q b w H hB);dsimp only [Bi] at A;go_in;go_wp2_with fail;go_loopw [8] (fun iv wr=>(iv=.int .i64 0/\wr=w)\/(iv=.int .i64 1/\Below w w wr)) (fun iv _=>1 - (ZG iv).toNat);case atStart=>exact .inl ⟨rfl,rfl⟩
 case round =>
  rcases hrel with⟨rfl,hwr⟩|⟨rfl,hb9⟩
  ·rw [hwr];clear hwr wr;go_wp2_with fail;refine CmZ A.out fun w1 hb1=>?_;clear A k0 k1 k2 k3 k4 k5 k6 k7 k8 k9;go_wp2;go_roundw;case rel=>exact .inr ⟨by go_num,hb1⟩
   case measure=>simp [ZG]
  ·clear A k0 k1 k2 k3 k4 k5 k6 k7 k8 k9;go_wp2;go_ret;exact⟨rfl,hb9⟩
theorem Xh (h:bC) (aj:Option Addr) (nj cj p q b:Nat) (w:ZB) (H:pY h aj nj cj p q b w) (hB:Bears h) : ZE prog 185 #[.slice (some ⟨b,0,none⟩) 1 1,.func (.func 186) #[] #[.pointer (some ⟨q,0,none⟩)]] w (Ret w (.bool false)):=by have A:=Aa (B3s h aj nj cj p q b w H hB);go_in;go_wp2_with fail;refine CmZ A.out fun w1 hb1=>?_;clear A;go_wp2;go_ret;exact⟨rfl,hb1⟩
theorem Fam (h:bC) (aj:Option Addr) (nj cj b:Nat) (w:ZB) (hb:b<w.heap.size) (hc:∀ j x,(Bi h (.slice aj nj cj))[j]?=some x->w.cell? ⟨b,j,none⟩=some x) (hB:Bears h) : ZE prog 115 #[.slice (some ⟨b,0,none⟩) 1 1] w (Ret w (.bool true)):=by
 have hB1:=fun o=>(Ac _ w).alloc nR o;have hB2:=fun o o'=>(hB1 o).alloc (Dy sM) o';have A:=Aa (Xh h aj nj cj w (w+1) b ((w.alloc (.cells #[.slice (some ⟨b,0,none⟩) 1 1] 111)).alloc (.cells #[.func (.func 183) #[] #[.pointer (some ⟨w,0,none⟩)]] 234)) ?_ hB);rotate_left
 ·refine⟨?_,by simp;omega,by simp;omega,fun j x hx=>((hB2 _ _).cell (p:=⟨b,j,none⟩) hb).trans (hc j x hx),?_,sM⟩;·rw [Em _ _ _ (by rw [Cb];rfl),Cb];rfl
  ·have:=Cb (w.alloc (.cells #[.slice (some ⟨b,0,none⟩) 1 1] 111)) #[.func (.func 183) #[] #[.pointer (some ⟨w,0,none⟩)]] 234 (0,0) 0;simp at this;simp
 clear hc;go_in;go_wp2_with fail;refine CmZ A.out fun w1 hb1=>?_;clear A;go_wp2;go_ret;exact⟨rfl,(hB2 _ _).trans (hb1.mono naf)⟩
theorem Bears.IJ {h:bC} (hk:dF h=true):Bears h:=by
 rw [aP] at hk;simp only [Aq,G8,Ez,Kt] at hk;obtain⟨⟨_,⟨⟨_,_⟩,hcap⟩,OE⟩,_,hst⟩:=hk;refine⟨?_,hcap,OE⟩;unfold We;simp only [Aq,Ej,Bj] at hst ⊢;refine⟨Int.le_refl _,?_⟩;rcases hst with hst|⟨_,hst⟩;·exact .inl hst
 ·exact .inr hst
theorem X4 {h:bC} (hk:dF h=true):h.joint.length<=4:=by rw [aP] at hk;simp only [Aq,Bj] at hk;exact hk.1.1.1.1.2
theorem Dot (v:ZC) (h:bC) (w:ZB) (hv:xK w w v h) (hS:jC h) : ZE prog 48 #[v] w (Ret w (.bool (dF h))):=by
 have hv':=hv;obtain⟨b,vj,rfl,hb,hc,hj⟩:=hv;obtain⟨aj,cj,rfl,hj1,hj2⟩:=hj.form;have hmm:=@Hz prog;have hM0:=Lw ay w;have hB0:=(Ac _ w).alloc nR (.map #[] 0);obtain⟨r,hr⟩:=naa (dF h);have HV:∀ w',Below w w w'->xK w' w' (.slice (some ⟨b,0,none⟩) 1 1) h:=fun w' hbw =>⟨b,_,rfl,Af hb hbw.size,fun j x hx=>(hbw.cell (p:=⟨b,j,none⟩) hb).trans (hc j x hx),(hj.below hbw nR).mono hbw.size⟩
 generalize hnj:h.joint.length=nj at *;rw [hr];have HVh:=Aa HV;have hch:=Aa hc;clear HV hv' hc;go_in;generalize hW:w.alloc (.map #[] 0)=W at *;go_wp2_with fail;go_loopw [9] (fun iv wr=>(iv=.int .i64 0/\wr=W)\/(iv=.int .i64 1/\r=true/\Below w w wr)) (fun iv _=>1 - (ZG iv).toNat);case atStart=>exact .inl ⟨rfl,rfl⟩
 case round =>
  rcases hrel with⟨rfl,hwr⟩|⟨rfl,hrt,hb9⟩
  ·rw [hwr];clear hwr wr;have k:∀ j x,(Bi h (.slice aj nj cj))[j]?=some x->W.cell? ⟨b,j,none⟩=some x:=fun j x hx=>(hB0.cell (p:=⟨b,j,none⟩) hb).trans (hch.out j x hx);have k0:=k 0 _ rfl;have k1:=k 1 _ rfl;have k2:=k 2 _ rfl;have k3:=k 3 _ rfl;have k4:=k 4 _ rfl;have k5:=k 5 _ rfl;have k6:=k 6 _ rfl;have k7:=k 7 _ rfl;have k8:=k 8 _ rfl;have k9:=k 9 _ rfl;clear k;have hBW:=fun o=>(Ac _ W).alloc nR o;have A:=Aa fun o=>Are (Bi h (.slice aj nj cj)) h (W.alloc o) ⟨_,rfl,by have h1:=(hj.below (hB0.trans ((hBW o).mono hB0.size)) nR).mono (hB0.trans ((hBW o).mono hB0.size)).size;exact h1⟩ hS;rw [hr] at A;dsimp only [Bi] at A;go_wp2_with fail;refine CmZ (A.out _) fun w2 hb2=>?_;clear A k0 k1 k2 k3 k4 k5 k6 k7 k8 k9;have hblk:=(hb2.block W sM).trans (Ag W _);have hB2:Below W W w2:=(hBW _).trans (hb2.mono sM);clear hb2 hBW;have hM2:=hM0.below hB2;have m0:w2.cell? ⟨W,0,none⟩=some ↑h.id:=Ab hblk 0;have hlk:=Dg Kc (underlying183) _ Z6 hM2 h.id;rw [show Bp h.id ([]:List (Q00 × ZC)) 0=none from rfl] at hlk;dsimp only [Option.map_none,Option.getD_none] at hlk;obtain⟨o,ho,hM4⟩:=Cn Kc (underlying183) hM2 h.id (.bool true) rfl;have hBf:=Bn (r:=w.heap.size) (hB0.trans (hB2.mono hB0.size)) nR o;clear hM2 hM4 hblk;cases r with
   |false =>go_wp2;go_ret;exact⟨rfl,hB0.trans (hB2.mono hB0.size)⟩
   |true =>
    go_wp2;go_roundw;case rel=>exact .inr ⟨by go_num,trivial,hBf⟩
    case measure=>simp [ZG]
  ·subst hrt;have hjl:=X4 hr;have A:=Aa (Ggl _ h wr (HVh.out wr hb9) hS);go_wp2_with fail;refine A.out.mono ?_;rintro e w2 ⟨a2,m2,c2,rfl,hm2,hb2⟩;clear A;have wo:=hb9.trans (hb2.mono hb9.size);have d1:=nai ((m2:Int)<=60);have A:=Aa (Fam h aj nj cj b w2 (Af hb wo.size) (fun j x hx=>(wo.cell (p:=⟨b,j,none⟩) hb).trans (hch.out j x hx)) (Bears.IJ hr));go_wp2_with fail;refine CmZ A.out fun w3 hb3=>?_;clear A;go_wp2;go_ret;exact⟨rfl,wo.trans (hb3.mono wo.size)⟩
def Cq {α:Type} (emb:α->ZC) (r:Nat) (w:ZB) (kvs:List (α × ZC)):Prop := ∃ (es:Array MapEntry) (clock:Nat),w.heap[r]?=some (.map es clock)/\es.toList.map (fun e=>(e.key,e.val))=kvs.map (fun p=>(emb p.1,p.2))/\(∀ x∈es.toList,x.born<clock)/\(es.toList.map (·.born)).Nodup
theorem Yi [BEq α] {P:Program} {T K E:ZJ} {emb:α->ZC} {kind:TypeDesc} (hK:kG P K emb kind) (hT:P.underlying T=some (.map K E)) {kvs:List (α × ZC)} (h:Cq emb r w kvs) (k:α) (v:ZC) (hn:Bp k kvs 0=none) : ∃ o,(Instr.mapUpdate T (.map (some r)) (emb k) v).run P w=.ok () (w.putObj r o)/\Cq emb r (w.putObj r o) (kvs++[(k,v)]):=by
 obtain⟨es,clock,hb,hes,hold,hnd⟩:=h;have hf:=R5 emb kind hK.same k kvs es.toList 0 hes;rw [hn] at hf;have hlt:r<w.heap.size:=(aZ hb)
 refine⟨.map (es.push { key:=emb k,val:=v,born:=clock }) (clock+1),?_,es.push { key:=emb k,val:=v,born:=clock },clock+1,World.putObj_heap_same hlt,?_,?_,?_⟩;·exact FD97
 ·simp [hes]
 ·exact FD109
 ·exact FD78
theorem I01 (emb:α->ZC) (w:ZB):Cq emb w (w.alloc (.map #[] 0)) []:=⟨#[],0,Ag _ _,rfl,sM,sM⟩
theorem Cq.below {emb:α->ZC} {w':ZB} {kvs:List (α × ZC)} (h:Cq emb r w kvs) (hb:Below w w w'):Cq emb r w' kvs:=by exact FD113
theorem Cq.lt {emb:α->ZC} {kvs:List (α × ZC)} (h:Cq emb r w kvs):r<w.heap.size:=by obtain⟨es,clock,h1,_⟩:=h;exact (aZ h1)
abbrev Be (p:Int × Int):ZC:=.agg #[↑p.1,↑p.2]
theorem Ggi (a b:Int × Int) (w:ZB):(Op.equal 98 (Be a) (Be b)).run prog w=.ok (a==b) w:=by
 obtain⟨a1,a2⟩:=a;obtain⟨b1,b2⟩:=b;have hi:=underlying3;have key:(Op.equalIn (9998+1+1) 98 (Be (a1,a2)) (Be (b1,b2))).run prog w=.ok ((a1,a2)==(b1,b2)) w:=by
  go_simp;have e:((a1,a2)==(b1,b2))=(a1==b1&&a2==b2):=rfl;rw [e];by_cases h1:a1=b1
  ·by_cases h2:a2=b2;·simp [h1,h2]
   ·simp [h1,h2]
  ·simp [h1]
 exact key
theorem Duo (w:ZB) (k:Int × Int):∀ (kvs:List ((Int × Int) × ZC)) (es:List MapEntry) (i:Nat),es.map (fun e=>(e.key,e.val))=kvs.map (fun p=>(Be p.1,p.2))->(Instr.findAsking 98 (Be k) es i).run prog w=.ok (Bp k kvs i) w:=by
 intro kvs;induction kvs with
 |nil =>
  intro es i h;have:es=[]:=by simpa using h
  subst this;simp [Instr.findAsking,Bp]
 |cons p l ih =>
  intro es i h;obtain⟨a,v⟩:=p;cases es with
  |nil=>simp at h
  |cons e es =>
   simp only [Gg,List.cons.injEq,Ib] at h;obtain⟨⟨hk,hv⟩,hr⟩:=h;rw [Instr.findAsking,I9,hk,Ggi,Bp];cases hb:(k==a) with
   |true=>simp [hv]
   |false=>simpa using ih es (i+1) hr
theorem Tm (w:ZB) (k:Int × Int) (kvs:List ((Int × Int) × ZC)) (es:List MapEntry) (h:es.map (fun e=>(e.key,e.val))=kvs.map (fun p=>(Be p.1,p.2))):(Instr.findKey 98 (Be k) es).run prog w=.ok (Bp k kvs 0) w:=by
 have ha:=Duo w k kvs es 0 h;unfold Instr.findKey;rw [I9,Dv underlying98];simp only [Io];cases es with
 |nil =>
  cases kvs with
  |nil=>simp [Instr.findNow,Bp]
  |cons _ _=>simp at h
 |cons e es =>
  cases kvs with
  |nil=>simp at h
  |cons p l =>simp only [Instr.findNow,Instr.sameNow];exact ha
theorem M5 (w:ZB) (e:Bool) (a:Int × Int):(Instr.checkKey e 10000 98 (Be a)).run prog w=.ok () w:=kR
theorem Ml {T E:ZJ} (hT:prog.underlying T=some (.map 98 E)) (z:ZC) (hz:∀ w,(zeroValue E).run prog w=.ok z w) (h:Cq Be r w kvs) (k:Int × Int) : (Instr.lookup T (.map (some r)) (Be k) true).run prog w=.ok (.tuple #[((Bp k kvs 0).map (·.2)).getD z,.bool (Bp k kvs 0).isSome]) w:=by exact FD36
theorem But {T E:ZJ} (hT:prog.underlying T=some (.map 98 E)) (z:ZC) (hz:∀ w,(zeroValue E).run prog w=.ok z w) (h:Cq Be r w kvs) (k:Int × Int) : (Instr.lookup T (.map (some r)) (Be k) false).run prog w=.ok (((Bp k kvs 0).map (·.2)).getD z) w:=by exact FD36
theorem Uu {T E:ZJ} (hT:prog.underlying T=some (.map 98 E)) (h:Cq Be r w kvs) (k:Int × Int) (v:ZC) (hn:Bp k kvs 0=none) : ∃ o,(Instr.mapUpdate T (.map (some r)) (Be k) v).run prog w=.ok () (w.putObj r o)/\Cq Be r (w.putObj r o) (kvs++[(k,v)])/\∃ es c,o=.map es c:=by
 obtain⟨es,clock,hb,hes,hold,hnd⟩:=h;have hf:=Tm w k kvs es.toList hes;rw [hn] at hf;have hlt:r<w.heap.size:=(aZ hb)
 refine⟨.map (es.push { key:=Be k,val:=v,born:=clock }) (clock+1),?_,⟨es.push { key:=Be k,val:=v,born:=clock },clock+1,World.putObj_heap_same hlt,?_,?_,?_⟩,_,_,rfl⟩;·simp [Instr.mapUpdate,Dv hT,F8 hb,M5,hf,Result.andThen,Kw _ hb];rfl
 ·simp [hes]
 ·exact FD109
 ·exact FD78
end
end Go.Proofs.Y
namespace CH
section
def own (a:Int) (l:List Version):List Version:=l.filter fun v=>v.authority==a
theorem Uz {β:Type} (p:Int × Int):∀ (l m:List ((Int × Int) × β)),cu p (l++m)=(cu p l).or (cu p m)
 |[],_=>rfl
 |(q,x)::l,m=>by
  rw [D6,cu,cu]
  split
  ·rfl
  ·exact Uz p l m
end
section
open Go.Sort
variable {msg:Version->Str} {chk:Version->Str->Bool} {keys:List Str} {known known':Known}
def ahead (x y:Version):Prop:=x.pos<y.pos\/x.pos=y.pos/\Xk x y
theorem Aaq (msg:Version->Str) (known:Known) (n:Nat):(Ob msg known n).Perm (Ko msg known n) := iO (I:=fun L=>L.Perm (Ko msg known n)) (fun l m x y _ h=>(List.Perm.append_left l (List.Perm.swap x y m)).trans h) _ (List.Perm.refl _)
theorem Y8 (hG:Good chk keys known) (n:Nat):(Ob msg known n).Pairwise ahead:=by
 have hs:=Ye (msg:=msg) hG n;have hp:=Aa3 (msg:=msg) known n;have hf:∀ a:Int,(Ob msg known n).Pairwise fun x y=>(x.authority==a)=true->(y.authority==a)=true->Xk x y:=fun a=>by rw [<- List.pairwise_filter,hs.filter a];exact (Oa hG n).filter _
 have hst:=hs.stable;generalize Ob msg known n=L at *;rw [Gm] at hp hst ⊢;intro i j hi hj hij;have h1:=hp i j hi hj hij;by_cases e:L[i].pos=L[j].pos
 ·refine .inr ⟨e,?_⟩;have h2:=hst i j hi hj hij e;by_cases e2:L[i].authority=L[j].authority;·have h3:=hf L[i].authority;rw [Gm] at h3;exact h3 i j hi hj hij sM (by simp [e2])
  ·exact .inl oM
 ·exact .inl oM
end
end CH
namespace CH
def l9 (h:bC):Bool := (ZH (h.id.length<=60)&&(ZH (h.company.length<=60)&&(ZH (h.holder.length<=60)&&(ZH (h.aH.length<=60)&&(ZH (h.aJ.length<=60)&&ZH (h.joint.length<=10))))))&&h.joint.all (fun s=>ZH (s.length<=60))
end CH
namespace Go.Proofs.Y
open Go.RowKit Go.Lib Go.Shelf Go.Sort CH
theorem yC (m:Nat):ZH ((60:Int)<(m:Int))=!ZH (m<=60):=by
 by_cases h:m<=60;·rw [Di h,Cj oM];rfl
 ·rw [Cj h,Di oM];rfl
theorem QY (m:Nat):ZH ((10:Int)<(m:Int))=!ZH (m<=10):=by
 by_cases h:m<=10;·rw [Di h,Cj oM];rfl
 ·rw [Cj h,Di oM];rfl
theorem Hb0 (v:ZC) (h:bC) (w:ZB) (hv:xK w w v h) : ZE Tryz.prog 52 #[v,.int .i64 1] w (Ret w (.bool (l9 h))):=by
 obtain⟨b,vj,rfl,hb,hc,hj⟩:=hv;obtain⟨a,cap,rfl,hl,hcap,hne⟩:=hj;obtain⟨R,hR⟩:=nac (l9 h);rw [hR.out];have x0:=hc 0 _ rfl;have x1:=hc 1 _ rfl;have x2:=hc 2 _ rfl;have x3:=hc 3 _ rfl;have x4:=hc 4 _ rfl;have x5:=hc 5 _ rfl;have x6:=hc 6 _ rfl;have x7:=hc 7 _ rfl;have x8:=hc 8 _ rfl;have x9:=hc 9 _ rfl;clear hc;have hR1:Hid (((ZH (h.id.length<=60)&&(ZH (h.company.length<=60)&&(ZH (h.holder.length<=60)&&(ZH (h.aH.length<=60)&&(ZH (h.aJ.length<=60)&&ZH (h.joint.length<=10))))))&&h.joint.all (fun s=>ZH (s.length<=60)))=R):=Aa hR.out;clear hR;have hne:=Aa hne;obtain⟨N,hN⟩:=naa h.joint.length;rw [hN] at hl hR1;rw [hN] at x5;have hN:=Aa hN;obtain⟨r0,h0⟩:=naa (ZH (h.id.length<=60));obtain⟨r1,h1⟩:=naa (ZH (h.company.length<=60));obtain⟨r2,h2⟩:=naa (ZH (h.holder.length<=60));obtain⟨r3,h3⟩:=naa (ZH (h.aH.length<=60));obtain⟨r4,h4⟩:=naa (ZH (h.aJ.length<=60));obtain⟨r5,h5⟩:=naa (ZH (N<=10));rw [h0,h1,h2,h3,h4,h5] at hR1;have g0:=yC h.id.length;have g1:=yC h.company.length;have g2:=yC h.holder.length;have g3:=yC h.aH.length;have g4:=yC h.aJ.length;have g5:=QY N;rw [h0] at g0;rw [h1] at g1;rw [h2] at g2;rw [h3] at g3;rw [h4] at g4;rw [h5] at g5;clear h0 h1 h2 h3 h4 h5;generalize hji:h.joint=joint at *;generalize h.id=s0 at *;generalize h.company=s1 at *;generalize h.holder=s2 at *;generalize h.aH=s3 at *;generalize h.aJ=s4 at *;have hB0:=fun o=>(Ac _ w).alloc nR o;rcases (by cases r0 <;> cases r1 <;> cases r2 <;> cases r3 <;> cases r4 <;> cases r5 <;> simp:(r0=false)\/(r0=true/\r1=false)\/(r0=true/\r1=true/\r2=false)\/(r0=true/\r1=true/\r2=true/\r3=false)\/(r0=true/\r1=true/\r2=true/\r3=true/\r4=false)\/(r0=true/\r1=true/\r2=true/\r3=true/\r4=true/\r5=false)\/(r0=true/\r1=true/\r2=true/\r3=true/\r4=true/\r5=true)) with rfl|⟨rfl,rfl⟩|⟨rfl,rfl,rfl⟩|⟨rfl,rfl,rfl,rfl⟩|⟨rfl,rfl,rfl,rfl,rfl⟩|⟨rfl,rfl,rfl,rfl,rfl,rfl⟩|⟨rfl,rfl,rfl,rfl,rfl,rfl⟩;iterate 6
  ·simp only [O8,Oe] at g0 g1 g2 g3 g4 g5
   go_in
   go_wp2_with fail
   go_loopw [5] (fun i wr=>i=.int .i64 0/\wr=w) (fun _ _=>0)
   case atStart=>exact⟨rfl,rfl⟩
   case round =>
    obtain⟨rfl,rfl⟩:=hrel
    go_wp2
    go_ret
    exact⟨by rw [<- hR1.out];rfl,hB0 _⟩
 simp only [O8,Oe] at g0 g1 g2 g3 g4 g5;have hR2:Hid (joint.all (fun s=>ZH (s.length<=60))=R):=Aa (by rw [<- hR1.out];rfl);clear hR1;go_in;go_wp2_with fail;go_loopw [5] (fun i wr=>∃ k:Nat,k<=1/\i=↑k/\Hid (Below w w wr)/\(k=1->Hid (R=true))) (fun i _=>1 - (ZG i).toNat);case atStart=>exact⟨0,Ak _,rfl,Aa (Ac _ _),fun h=>by omega⟩
 case round =>
  obtain⟨k,hk,rfl,hBr,hI⟩:=hrel;have y0:=(hBr.out.cell (p:=⟨b,0,none⟩) hb).trans x0;have y1:=(hBr.out.cell (p:=⟨b,1,none⟩) hb).trans x1;have y2:=(hBr.out.cell (p:=⟨b,2,none⟩) hb).trans x2;have y3:=(hBr.out.cell (p:=⟨b,3,none⟩) hb).trans x3;have y4:=(hBr.out.cell (p:=⟨b,4,none⟩) hb).trans x4;have y5:=(hBr.out.cell (p:=⟨b,5,none⟩) hb).trans x5;have y6:=(hBr.out.cell (p:=⟨b,6,none⟩) hb).trans x6;have y7:=(hBr.out.cell (p:=⟨b,7,none⟩) hb).trans x7;have y8:=(hBr.out.cell (p:=⟨b,8,none⟩) hb).trans x8;have y9:=(hBr.out.cell (p:=⟨b,9,none⟩) hb).trans x9;rcases (oM:k=0\/k=1) with rfl|rfl
  ·go_wp2_with fail;generalize hWd:wr.alloc _=W at *;have c5:W.cell? ⟨wr,5,none⟩=some (.slice a N cap):=by rw [<- hWd];exact Ab (Ag wr _) 5
   have hBW:Below w w W:=by rw [<- hWd];exact hBr.out.alloc hBr.out.size _
   clear hWd y0 y1 y2 y3 y4 y5 y6 y7 y8 y9 x0 x1 x2 x3 x4 x5 x6 x7 x8 x9;go_loopw [7] (fun i w'=>∃ j:Nat,j<=N/\i=↑j/\w'=W/\Hid ((joint.take j).all (fun s=>ZH (s.length<=60))=true)) (fun i _=>N - (ZG i).toNat);case atStart=>exact⟨0,Ak _,rfl,rfl,Aa rfl⟩
   case round =>
    obtain⟨j,hj,rfl,rfl,hJ⟩:=hrel;by_cases hlt:j<N
    ·obtain⟨bj,off,rfl,hbl,kj⟩:=hne.out (by intro h;have:=hN.out;simp [h] at this;omega);obtain⟨l,hl'⟩:∃ l,joint[j]?=some l:=⟨_,Ae (by rw [hN.out];exact hlt)⟩
     have hcell:=(hBW.cell (p:=⟨bj,off+j,none⟩) hbl).trans (kj j l hl');clear kj;have hl':=Aa hl';obtain⟨m,hm⟩:=naa l.length;by_cases h60:m<=60
     ·have d:=naj ((60:Int)<(m:Int));have hJ':Hid ((joint.take (j+1)).all (fun s=>ZH (s.length<=60))=true):=Aa (by rw [fM _ joint j l hl'.out,hJ.out,hm];simpa using h60);go_wp2;go_roundw;case rel=>exact⟨j+1,oM,by go_num,by first|rfl|trivial,hJ'⟩
      case measure=>simp [ZG];omega
     ·have d:=nai ((60:Int)<(m:Int));go_wp2;go_ret;exact⟨by rw [<- hR2.out,gU _ joint j l hl'.out (by rw [hm];simpa using h60)];rfl,hBW⟩
    ·have hall:Hid (R=true):=Aa (by have:=hJ.out;rw [show j=N from by omega,<- hN.out,D5] at this;exact hR2.out.symm.trans this);go_wp2;go_roundw;case rel=>exact⟨1,oM,by go_num,Aa hBW,fun _=>hall⟩
     case measure=>simp [ZG]
  ·have hT:=(hI rfl).out;subst hT;go_wp2;go_ret;exact⟨rfl,hBr.out⟩
end Go.Proofs.Y
namespace Go.Proofs.Y
section
open Go.Lib Go.Maps Go.Proofs.Tryz Go.RowKit Go.Shelf Go.Sort CH
section
open CH
variable {F:Fence} {n:Nat} {P:Program} {w w':ZB} {ops:Array Oper} {rest:List Oper} {o:Oper} {a:Act} {Q:Exit->Act->ZB->Prop} {v:ZC}
theorem S9 (hg:o.guard=none) (m:Operand) (t:ZJ) (hop:o.op=Op.range t m) (mv:ZC) (hm:a.eval m=mv) (hrun:(Instr.range t mv).run P w=.ok v w') (h:wpListIn F n P ops Q rest (a.put o.dst v) w'):wpListIn F n P ops Q (o::rest) a w:=by refine wpListIn_plain hg fun K' hK'=>?_;unfold Oper.wpIn;refine⟨by simp [Oper.about,hop],?_⟩;rw [Oper.semAt_plain F _ _ (by rw [hop];intro c hc';cases hc')];simp [execOp,hop,hm,hrun,Result.andThen];exact hK' _ _ h
theorem Re (hg:o.guard=none) (it:Operand) (hop:o.op=Op.next it false) (iv:ZC) (hit:a.eval it=iv) (hrun:(Instr.next iv false o.type).run P w=.ok v w') (h:wpListIn F n P ops Q rest (a.put o.dst v) w'):wpListIn F n P ops Q (o::rest) a w:=by refine wpListIn_plain hg fun K' hK'=>?_;unfold Oper.wpIn;refine⟨by simp [Oper.about,hop],?_⟩;rw [Oper.semAt_plain F _ _ (by rw [hop];intro c hc';cases hc')];simp [execOp,hop,hit,hrun,Result.andThen];exact hK' _ _ h
end
def jf (w:ZB) (r it:Nat) (kvs:List ((Int × Int) × ZC)) (done:List (Int × Int)):Prop := ∃ (es:Array MapEntry) (clock:Nat) (seen:Array Nat),w.heap[r]?=some (.map es clock)/\w.heap[it]?=some (.mapIter (some r) clock seen clock) /\ es.toList.map (fun e=>(e.key,e.val))=kvs.map (fun p=>(Be p.1,p.2))/\(∀ x∈es.toList,x.born<clock)/\(es.toList.map (·.born)).Nodup /\ (∀ x∈es.toList,∀ p,x.key=Be p->(seen.contains x.born=true↔p∈done))/\done.Nodup/\∀ p∈done,p∈kvs.map (·.1)
theorem Zy {p q:Int × Int} (h:Be p=Be q):p=q:=by obtain⟨a,b⟩:=p;obtain⟨c,d⟩:=q;simp only [Be] at h;injection h with h;simp at h;exact Prod.ext h.1 h.2
theorem jf.start {w:ZB} {r:Nat} {kvs:List ((Int × Int) × ZC)} (h:Cq Be r w kvs) {T E:ZJ} (hT:prog.underlying T=some (.map 98 E)) : ∃ w',(Instr.range T (.map (some r))).run prog w=.ok (.pointer (some ⟨w,0,none⟩)) w'/\jf w' r w kvs []/\w.grownBy w' none:=by
 obtain⟨es,clock,hb,hes,hold,hnd⟩:=h;have hlt:r<w.heap.size:=(aZ hb)
 exact⟨_,run_range_map w T 98 E r es clock hT hb,⟨es,clock,#[],((MapKept.heap_alloc w _).2 r hlt).trans hb,(MapKept.heap_alloc w _).1,hes,hold,hnd,fun x _ p _=>by simp,sM,sM⟩,World.grownBy_alloc w _ none⟩
theorem jf.kept {w w':ZB} {r it:Nat} {kvs:List ((Int × Int) × ZC)} {done:List (Int × Int)} {row:Option Nat} (h:jf w r it kvs done) (hg:w.grownBy w' row) (h1:some r≠row) (h2:some it≠row):jf w' r it kvs done:=by obtain⟨es,clock,seen,e1,e2,e3⟩:=h;exact⟨es,clock,seen,(hg.block r (aZ e1) h1).trans e1,(hg.block it (aZ e2) h2).trans e2,e3⟩
def mY (w:ZB) (r it:Nat):Nat :=
 match w.heap[r]?,w.heap[it]? with
 |some (.map es _),some (.mapIter _ _ seen _)=>(leftOf es seen).size
 |_,_=>0
theorem jf.step {w:ZB} {r it:Nat} {kvs:List ((Int × Int) × ZC)} {done:List (Int × Int)} (h:jf w r it kvs done) (hne:it≠r) (hk:(kvs.map (·.1)).Nodup) (ty:ZJ) : ((∀ p∈kvs.map (·.1),p∈done)/\(Instr.next (.pointer (some ⟨it,0,none⟩)) false ty).run prog w=.ok (.tuple #[.bool false]) w) \/ ∃ p x w',(p,x)∈kvs/\p ∉ done/\(Instr.next (.pointer (some ⟨it,0,none⟩)) false ty).run prog w=.ok (.tuple #[.bool true,Be p,x]) w'/\jf w' r it kvs (done++[p])/\w.grownBy w' (some it)/\mY w' r it<mY w r it /\ (Instr.entry (.pointer (some ⟨it,0,none⟩))).run prog w'=.ok (.tuple #[Be p,x]) w':=by
 obtain⟨es,clock,seen,hb,hit,hes,hold,hnd,hsd,hdn,hsub⟩:=h;have hkv:∀ e∈es.toList,∃ p,(p,e.val)∈kvs/\e.key=Be p:=fun e he=>by have:(e.key,e.val)∈kvs.map (fun p=>(Be p.1,p.2)):=hes ▸ Ew.2 ⟨e,he,rfl⟩;obtain⟨⟨k,v⟩,hk',e1⟩:=Ew.1 this;simp only [Ib] at e1;exact⟨k,e1.2 ▸ hk',e1.1.symm⟩
 have hvk:∀ p∈kvs.map (·.1),∃ e∈es.toList,e.key=Be p:=fun p hp=>by obtain⟨⟨k,v⟩,hk',rfl⟩:=Ew.1 hp;have:(Be k,v)∈es.toList.map (fun e=>(e.key,e.val)):=hes ▸ Ew.2 ⟨(k,v),hk',rfl⟩;obtain⟨e,he,e1⟩:=Ew.1 this;simp only [Ib] at e1;exact⟨e,he,e1.1⟩
 rcases _root_.Go.run_next_at (P:=prog) w ty it r clock clock seen es clock hit hb hold nR with⟨h0,hrun⟩|⟨e,he,w1,hal,hrun⟩;·refine .inl ⟨fun p hp=>?_,hrun⟩;obtain⟨e,he,hek⟩:=hvk p hp;exact (hsd e he p hek).1 (all_seen es seen h0 e he)
 ·obtain⟨hem,hes'⟩:=Om he;obtain⟨p,hp,hek⟩:=hkv e hem;have hpd:p ∉ done:=fun hd=>by have:=(hsd e hem p hek).2 hd;rw [hes'] at this;cases this
  have DW:w1.heap[it]?=some (.mapIter (some r) clock seen clock):=by rcases hal with rfl|rfl <;> exact hit
  have hr1:w1.heap[r]?=some (.map es clock):=by rcases hal with rfl|rfl <;> exact hb
  have hset:=MapKept.heap_set (o':=.mapIter (some r) clock (seen.push e.born) clock) DW;have hr2:(ChangeMaps.setBlock w1 it (.mapIter (some r) clock (seen.push e.born) clock)).heap[r]?=some (.map es clock):=(hset.2 r (fun e1=>hne e1.symm)).trans hr1;have hkeys:(es.toList.map (·.key)).Nodup:=by
   have e1:es.toList.map (·.key)=kvs.map (fun p=>Be p.1):=by have:=congrArg (List.map Prod.fst) hes;simpa [Ll,Function.comp_def] using this
   rw [e1];have:kvs.map (fun p=>Be p.1)=(kvs.map (·.1)).map Be:=by simp [Ll,Function.comp_def]
   rw [this];unfold List.Nodup at hk ⊢;rw [List.pairwise_map];exact hk.imp fun hne' h'=>hne' (Zy h')
  have hinj:∀ x∈es.toList,x.key=e.key->x=e:=fun x hx hxe=>entry_eq_of_key (by unfold List.Nodup at hkeys;exact List.pairwise_map.1 hkeys) hx hem hxe;refine .inr ⟨p,e.val,_,hp,hpd,by rw [<- hek];exact hrun,⟨es,clock,seen.push e.born,hr2,hset.1,hes,hold,hnd,fun x hx q hq=>?_,?_,fun q hq=>?_⟩,?_,?_,?_⟩
  ·rw [contains_push,Ej,hsd x hx q hq,Bz,Ad];refine or_congr_right ⟨fun hbb=>?_,fun hqp=>?_⟩;·have:=born_inj hnd hx hem (Eh.1 hbb);subst this;exact Zy (hq.symm.trans hek)
   ·subst hqp;rw [hinj x hx (hq.trans hek.symm)];exact beq_self_eq_true _
  ·rw [La];refine⟨hdn,sM,fun a ha b hb' e1=>?_⟩;rw [Ad] at hb';subst hb';subst e1;exact hpd ha
  ·rcases Bz.1 hq with h1|h1;·exact hsub q h1
   ·rw [Ad] at h1;subst h1;exact Ew.2 ⟨_,hp,rfl⟩
  ·rcases hal with rfl|rfl <;> exact⟨rfl,rfl,rfl,by simp [ChangeMaps.setBlock],fun i _ hi=>hset.2 i (fun e1=>hi (by rw [e1]))⟩
  ·have e1:mY (ChangeMaps.setBlock w1 it (.mapIter (some r) clock (seen.push e.born) clock)) r it=(leftOf es (seen.push e.born)).size:=by have hs1:(ChangeMaps.setBlock w1 it (.mapIter (some r) clock (seen.push e.born) clock)).heap[it]?=_:=hset.1;unfold mY;rw [hr2,hs1]
   have e2:mY w r it=(leftOf es seen).size:=by unfold mY;rw [hb,hit]
   rw [e1,e2];exact left_shrinks es seen e he
  ·rw [<- hek];exact _root_.Go.run_entry_at (P:=prog) _ it r clock seen es clock e hset.1 hr2 hem hnd
def I33 (kvs:List ((Int × Int) × ZC)) (ps:List (Int × Int)):Prop:=ps.Nodup/\∀ p,p∈ps↔p∈kvs.map (·.1)
def Pr8 (kvs:List ((Int × Int) × ZC)) (ps:List (Int × Int)):Prop:=ps.Nodup/\∀ p∈ps,p∈kvs.map (·.1)
theorem jf.walks {w w':ZB} {r it:Nat} {kvs:List ((Int × Int) × ZC)} {done:List (Int × Int)} (h:jf w r it kvs done) (hk:KeepsWalks w w'):jf w' r it kvs done/\mY w' r it=mY w r it:=by obtain⟨es,clock,seen,e1,e2,e3⟩:=h;have f1:=hk.same _ _ e1 rfl;have f2:=hk.same _ _ e2 rfl;exact⟨⟨es,clock,seen,f1,f2,e3⟩,by simp only [mY,e1,e2,f1,f2]⟩
theorem jf.nodup {w:ZB} {r it:Nat} {kvs:List ((Int × Int) × ZC)} {done:List (Int × Int)} (h:jf w r it kvs done):done.Nodup/\∀ p∈done,p∈kvs.map (·.1):=by obtain⟨_,_,_,_,_,_,_,_,_,h1,h2⟩:=h;exact⟨h1,h2⟩
theorem jf.walk {w:ZB} {r it:Nat} {kvs:List ((Int × Int) × ZC)} {done:List (Int × Int)} (h:jf w r it kvs done):∃ o:Obj,w.heap[it]?=some o/\o.isWalk=true:=by obtain⟨_,_,_,_,e2,_⟩:=h;exact⟨_,e2,rfl⟩
theorem Ql {α:Type} [BEq α] [LawfulBEq α]:∀ (l m:List α),l.Nodup->(∀ x∈l,x∈m)->l.length<=m.length
 |[],_,_,_=>Ak _
 |a::l,m,hn,hs=>by
  rw [Ou] at hn
  have ha:=hs a sM
  have h1:=Ql l (m.erase a) hn.2 (fun x hx=>(List.mem_erase_of_ne (fun e=>by subst e;exact hn.1 hx)).2 (hs x (by simp [hx])))
  rw [List.length_erase_of_mem ha] at h1
  have:=Ky ha
  rw [Ap]
  omega
theorem S3 {w w':ZB} (h:Below w w w'):KeepsWalks w w':=⟨h.size,fun k o hk _=>(h.block k (aZ hk)).trans hk⟩
theorem Ry {w w':ZB} (h:Below w w w'):w.grownBy w' none:=⟨h.os,h.tape,h.output,h.size,fun k hk _=>h.block k hk⟩
theorem Ggz (F:Fence) (n:Nat) (h10:F.fn 162) (hro:F.round=none) (hn:1<=n) (Bm r:Nat) (kvs:List ((Int × Int) × ZC)) (w:ZB) (hBm:Bm<w.heap.size) (hm:w.cell? ⟨Bm,0,none⟩=some (.map (some r))) (hmap:Cq Be r w kvs) (hk:(kvs.map (·.1)).Nodup) : SeqStopsK F n prog 162 #[.pointer (some ⟨Bm,0,none⟩)] (fun p=>#[Be p]) KeepsWalks (I33 kvs) (Pr8 kvs) kvs.length w:=fun l J Jx W hW hJ _ hY h0=>by
 have hm:=(hW.cell (p:=⟨Bm,0,none⟩) hBm).trans hm;have hmap:=hmap.below hW;obtain⟨w0,hrun0,hit0,hg0⟩:=jf.start hmap underlying89;have hne:W.heap.size≠r:=fun e=>by have:=hmap.lt;omega
 refine Ns func162 rfl h10 ?_ hro;simp only [ntmps162,Gu,Ap,Bf,Nat.reduceAdd,Nat.reduceSub,Gt,Gs,Hl,Gy,Eu,D6];gi_wp2_with (first |(gi_at_range;refine S9 rfl _ 89 rfl _ rfl hrun0 ?_) |gi_in)
 gi_loopw [3] (fun _ wr=>∃ done,jf wr r W kvs done/\J done wr) (fun _ wr=>mY wr r W);case atStart=>exact⟨[],hit0,hJ [] W w0 none h0 hg0 (fun r e=>by cases e)⟩
 case round =>
  obtain⟨done,hit,hJs⟩:=hrel;rcases hit.step hne hk 0 with⟨hall,hrun⟩|⟨p,x,w2,hp,hpd,hrun,hit2,hg2,hlt,hen⟩
  ·gi_wp2_with (first|(gi_at_next;refine Re rfl _ rfl _ rfl hrun ?_)|gi_in)
   go_end0;exact⟨⟨_,rfl⟩,.inl ⟨done,⟨hit.nodup.1,fun p=>⟨hit.nodup.2 p,hall p⟩⟩,hJs⟩⟩
  ·obtain⟨p1,p2⟩:=p;dsimp only [Be] at hrun hen;have hJ2:J done w2:=hJ done wr w2 (some W.heap.size) hJs hg2 (fun r e=>by cases e;exact⟨Au _,hit.walk⟩);have hlen:done.length<kvs.length:=by have:=Ql _ _ hit2.nodup.1 hit2.nodup.2;simp at this;omega
   have hb3:Below w2 w2 (w2.alloc (.cells #[↑p1,↑p2] 98)):=(Ac _ w2).alloc nR _;have hJ3:=hJ done w2 _ none hJ2 (Ry hb3) (fun r e=>by cases e);obtain⟨hit3,hl3⟩:=hit2.walks (S3 hb3);obtain⟨fn,tmps,assign,body,hy,hR⟩:=hY done (p1,p2) _ hJ3 hlen;dsimp only [Be] at hy;clear hb3 hJ3;gi_wp2_with (first|(gi_at_next;refine Re rfl _ rfl _ rfl hrun ?_)|gi_in)
   refine hR.mono ?_;rintro e W4 (⟨rfl,hJ4,hk4⟩|⟨rfl,EZ⟩)
   ·obtain⟨PW,hl4⟩:=hit3.walks hk4;gi_wp2;go_roundw;case rel=>exact⟨done++[(p1,p2)],PW,hJ4⟩
    case measure=>rw [hl4,hl3];exact hlt
   ·gi_wp2;refine Ar (Ld rfl _ _ _) rfl ?_;exact⟨⟨_,rfl⟩,.inr ⟨done++[(p1,p2)],hit2.nodup,EZ⟩⟩
end
end Go.Proofs.Y
namespace CH
section
open Go.Sort
def ltP (p q:Int × Int):Prop:=p.1<q.1\/p.1=q.1/\p.2<q.2
instance (p q : Int × Int) : Decidable (ltP p q) := inferInstanceAs (Decidable (p.1 < q.1 ∨ p.1 = q.1 ∧ p.2 < q.2))
theorem Wu {p q r:Int × Int} (h:ltP p q) (h':ltP q r):ltP p r:=by unfold ltP at *;omega
theorem Yz (p:Int × Int):¬ ltP p p:=by unfold ltP;omega
theorem CZ (p q:Int × Int) (h:¬ ltP p q) (h':¬ ltP q p):p=q:=by unfold ltP at *;exact Prod.ext oM oM
structure kS {β:Type} (pl:β->Int × Int) (tab:List ((Int × Int) × β)) (l:List β):Prop where
 sorted:l.Pairwise fun x y=>ltP (pl x) (pl y)
 look:∀ p x,cu p tab=some x↔x∈l/\p=pl x
theorem kS.nil {β:Type} (pl:β->Int × Int):kS pl [] []:=⟨.nil,fun p x=>by simp [cu]⟩
structure MO {β:Type} (pl:β->Int × Int) (l:List β) (p:Int × Int) (k:Nat):Prop where
 le:k<=l.length
 lo:∀ j x,j<k->l[j]?=some x->ltP (pl x) p
 hi:∀ x,l[k]?=some x->¬ ltP (pl x) p
theorem kS.free {β:Type} {pl:β->Int × Int} {tab:List ((Int × Int) × β)} {l:List β} {p:Int × Int} {k:Nat} (h:kS pl tab l) (hs:MO pl l p k) (hk:∀ x,l[k]?=some x->ltP p (pl x)):cu p tab=none:=by
 cases hl:cu p tab with
 |none=>rfl
 |some x =>
  obtain⟨hx,rfl⟩:=(h.look p x).1 hl;obtain⟨j,hj⟩:=Gj.1 hx;rcases Kz j k with e|e|e;·exact absurd (hs.lo j x e hj) (Yz _)
  ·subst e;exact absurd (hk x hj) (Yz _)
  ·have hjl:=(lS hj)
   have hkl:k<l.length:=oM;have h1:=hk _ (Ae hkl);have h2:=Gm.1 h.sorted k j hkl hjl e;rw [(En.1 hj).2] at h2;exact absurd (Wu h1 h2) (Yz _)
theorem kS.add {β:Type} {pl:β->Int × Int} {tab:List ((Int × Int) × β)} {l:List β} {p:Int × Int} {k:Nat} (h:kS pl tab l) (hs:MO pl l p k) (hk:∀ x,l[k]?=some x->ltP p (pl x)) (x:β) (hx:pl x=p):kS pl (tab++[(p,x)]) (l.take k++x::l.drop k):=by
 have hn:=h.free hs hk;have hlo:∀ a∈l.take k,ltP (pl a) p:=fun a ha=>by
  obtain⟨j,hj⟩:=Gj.1 ha;have hjl:=(lS hj)
  rw [C9] at hjl;rw [Iq oM] at hj;exact hs.lo j a oM hj
 have hhi:∀ b∈l.drop k,ltP p (pl b):=fun b hb=>by
  obtain⟨j,hj⟩:=Gj.1 hb;rw [Ht] at hj;have hjl:=(lS hj)
  have hkl:k<l.length:=oM;have h1:=hk _ (Ae hkl);rcases Nat.eq_zero_or_pos j with e|e;·subst e;rw [Hu] at hj;exact hk b hj
  ·have h2:=Gm.1 h.sorted k (k+j) hkl hjl oM;rw [(En.1 hj).2] at h2;exact Wu h1 h2
 refine⟨?_,fun q y=>?_⟩
 ·rw [Ho];refine⟨h.sorted.sublist (List.take_sublist k l),Ie.2 ⟨fun b hb=>by rw [hx];exact hhi b hb,h.sorted.sublist (List.drop_sublist k l)⟩,fun a ha b hb=>?_⟩;rcases Az.1 hb with rfl|hb;·rw [hx];exact hlo a ha
  ·exact Wu (hlo a ha) (hhi b hb)
 ·have hm:y∈l.take k++x::l.drop k↔y=x\/y∈l:=by
   conv=>rhs;rhs;rw [<- Fb k l]
   simp only [Bz,Az];constructor
   ·rintro (h|h|h);·exact .inr (.inl h)
    ·exact .inl h
    ·exact .inr (.inr h)
   ·rintro (h|h|h);·exact .inr (.inl h)
    ·exact .inl h
    ·exact .inr (.inr h)
  rw [Uz,hm];cases hq:cu q tab with
  |some z =>
   have hz:=(h.look q z).1 hq;show some z=some y↔_;constructor;·intro e;cases e;exact⟨.inr hz.1,hz.2⟩
   ·rintro⟨rfl|hy,e⟩;·rw [e,hx,hn] at hq;cases hq
    ·rw [<- hq];exact (h.look q y).2 ⟨hy,e⟩
  |none =>
   show (if q==p then some x else none)=some y↔_;constructor
   ·intro e;split at e;·rename_i hqp;cases e;exact⟨.inl rfl,(Eh.1 hqp).trans hx.symm⟩
    ·cases e
   ·rintro⟨rfl|hy,e⟩;·rw [Ah (by rw [e,hx];exact beq_self_eq_true p)]
    ·rw [(h.look q y).2 ⟨hy,e⟩] at hq;cases hq
section
variable {msg:Version->Str} {chk:Version->Str->Bool} {keys:List Str} {known:Known}
structure mX (msg:Version->Str) (known:Known) (i k:Nat) (L:List Version):Prop where
 ahead:L.Pairwise ahead
 perm:L.Perm (Ko msg known i++(fol msg known i).1.take k)
theorem mX.nil (msg:Version->Str) (known:Known):mX msg known 0 0 []:=⟨.nil,List.Perm.refl _⟩
theorem mX.step (hG:Good chk keys known) {i k:Nat} {L:List Version} (h:mX msg known i k L) {v:Version} (hv:(fol msg known i).1[k]?=some v) {m:Nat} (hml:m<=L.length) (hlo:∀ u,m≠0->L[m - 1]?=some u->u.pos<=v.pos) (hhi:∀ j u,m<=j->L[j]?=some u->v.pos<u.pos):mX msg known i (k+1) (L.take m++v::L.drop m):=by
 have hbf:∀ u∈L,Xk u v:=fun u hu=>by
  have h1:=(h.perm.mem_iff (a:=u)).1 hu;have h2:=Oa (msg:=msg) hG (i+1);unfold Ko at h2;have hkl:=(lS hv)
  rw [<- Fb k (fol msg known i).1,<- Dk,Ho] at h2;refine h2.2.2 u h1 v ?_;rw [Gj];exact⟨0,by rw [Ht];exact hv⟩
 refine⟨?_,?_⟩
 ·rw [Ho];have hA:=Gm.1 h.ahead;have t1:∀ a∈L.take m,CH.ahead a v:=fun a ha=>by
   obtain⟨j,hj⟩:=Gj.1 ha;have hjl:=(lS hj)
   rw [C9] at hjl;rw [Iq oM] at hj;have hb:=hbf a (Bg hj);by_cases hm:m - 1<L.length
   ·have h1:=hlo _ oM (Ae hm);have h2:a.pos<=L[m - 1].pos:=by
     by_cases e:j=m - 1;·subst e;rw [(En.1 hj).2];exact Int.le_refl _
     ·have h3:=hA j (m - 1) oM hm oM;rw [(En.1 hj).2] at h3;unfold CH.ahead at h3;omega
    by_cases e:a.pos=v.pos;·exact .inr ⟨e,hb⟩
    ·exact .inl oM
   ·omega
  refine⟨h.ahead.sublist (List.take_sublist m L),Ie.2 ⟨fun b hb=>.inl ?_,h.ahead.sublist (List.drop_sublist m L)⟩,fun a ha b hb=>?_⟩;·obtain⟨j,hj⟩:=Gj.1 hb;rw [Ht] at hj;exact hhi _ _ oM hj
  ·rcases Az.1 hb with rfl|hb;·exact t1 a ha
   ·have:=h.ahead;rw [<- Fb m L,Ho] at this;exact this.2.2 a ha b hb
 ·refine List.perm_middle.trans ?_;rw [Fb];rw [show (fol msg known i).1.take (k+1)=(fol msg known i).1.take k++[v] by rw [Ip,hv];rfl,<- Dk];exact ((List.Perm.cons v h.perm)).trans (List.perm_append_singleton v _).symm
theorem mX.next {i:Nat} {L:List Version} (h:mX msg known i (fol msg known i).1.length L):mX msg known (i+1) 0 L:=by refine⟨h.ahead,?_⟩;rw [Ic,Fj];have:=h.perm;rw [D5] at this;exact this
theorem mX.done (hG:Good chk keys known) {n:Nat} {L:List Version} (h:mX msg known n 0 L):L=Ob msg known n:=by
 refine List.Perm.eq_of_pairwise (le:=CH.ahead) (fun x y _ _ h1 h2=>?_) h.ahead (Y8 hG n) ?_;·exfalso;unfold CH.ahead Xk at h1 h2;omega
 ·have:=h.perm;rw [Ic,Fj] at this;exact this.trans (Aaq msg known n).symm
end
theorem kS.len {β:Type} {pl:β->Int × Int} {tab:List ((Int × Int) × β)} {l:List β} (h:kS pl tab l):l.length<=tab.length:=by
 have:=Abd (l.map pl) (tab.map (·.1)) (List.nodup_iff_pairwise_ne.2 (by
  rw [List.pairwise_map];exact h.sorted.imp fun {x y} (hh:ltP (pl x) (pl y)) (e:pl x=pl y)=>Yz (pl y) (by rw [e] at hh;exact hh))) fun p hp=>by
  obtain⟨x,hx,rfl⟩:=Ew.1 hp;exact Ew.2 ⟨_,jy ((h.look _ x).2 ⟨hx,rfl⟩),rfl⟩
 rwa [Ce,Ce] at this
end
end CH
