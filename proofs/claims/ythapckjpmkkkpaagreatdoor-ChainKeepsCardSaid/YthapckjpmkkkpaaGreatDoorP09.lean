/-
  ChainKeeps: the proof, part 10 of 25.
-/
import Derived.Test.YthapckjpmkkkpaaGreatDoorP04
import Derived.Test.YthapckjpmkkkpaaGreatDoorP05
import Derived.Test.YthapckjpmkkkpaaGreatDoorP06
import Derived.Shelf.SlIter.Stops
set_option linter.unusedSimpArgs false
set_option linter.unusedVariables false
set_option maxHeartbeats 40000000
set_option maxRecDepth 100000
open Go renaming World -> ZB, Value -> ZC, Calls -> ZE, TypeId -> ZJ
open Go.RowKit renaming intOf -> ZG
open Decidable renaming decide -> ZH
namespace CH
def eH (h0:Str) (js:List Str):Bool:=js.all isName&&fH (h0::js)
theorem lJ (h0:Str) (js:List Str) (x:Str):eH h0 (js++[x])=(eH h0 js&&(isName x&&!(h0::js).contains x)):=by unfold eH;rw [Ij,<- Dq,O8];simp only [Jh,Nj,Lp];cases js.all isName <;> cases fH (h0::js) <;> cases isName x <;> rfl
theorem Vh (h0:Str) (l1 l2:List Str) (h:eH h0 (l1++l2)=true):eH h0 l1=true:=by
 induction l2 generalizing l1 with
 |nil=>simpa using h
 |cons x l ih =>have:=ih (l1++[x]) (by simpa using h);rw [lJ,Am] at this;exact this.1
theorem pJ (h0:Str) (ls:List Str) (k:Nat) (h:eH h0 (ls.take k)=false):eH h0 ls=false:=by
 cases hb:eH h0 ls with
 |false=>rfl
 |true =>rw [<- F7 k ls] at hb;rw [Vh _ _ _ hb] at h;cases h
theorem aQ (h:aS):bK h=(isName h.id&&isName h.company&&isName h.holder&&(h.ah==[]||isName h.ah)&&(h.aA==[]||isName h.aA)&&ZH (h.joint.length<=4) && !(h.ah != []&&ZH (0<h.joint.length))&&eH h.holder h.joint && !((h.holder::h.joint).contains h.company||h.company==h.ah||!within h.capital 100||!within h.bM 100) && (within h.start 100000&&(h.stop==-1||within h.stop 100000&&ZH (h.stop > h.start)))):=rfl
end CH
namespace Go.Proofs.YthapckjpmkkkpaaGreatDoor
open Go.RowKit Go.Lib Go.Shelf Go.Sort CH
theorem I05 (s:List UInt8):((⟨s.toArray⟩:ByteArray) != ⟨#[]⟩)=(s != []):=by
 show (!((⟨s.toArray⟩:ByteArray)==⟨([]:List UInt8).toArray⟩))=(!(s==[]))
 rw [Cy]
theorem I08 (s:List UInt8):((⟨s.toArray⟩:ByteArray)==⟨#[]⟩)=(s==[]):=Cy s []
theorem B11 (n:Int) (w:ZB):ZE Tryz.prog 174 #[↑n] w (fun e w'=>e=.returned (.bool (CH.within n 100))/\w'=w):=by
 obtain⟨r,hr⟩:∃ r,Hid (CH.within n 100=r):=⟨_,Aa rfl⟩
 rw [hr.out];by_cases h0:0<=n
 ·have d0:ZH (0<=n)=true:=by simpa using h0
  go_enter Tryz.func174,Tryz.ntmps174;go_wp2;go_ret;exact⟨by rw [<- hr.out];unfold CH.within;rw [d0];rfl,rfl⟩
 ·have d0:ZH (0<=n)=false:=by simpa using h0
  go_enter Tryz.func174,Tryz.ntmps174;go_wp2;go_ret;exact⟨by rw [<- hr.out];unfold CH.within;rw [d0];rfl,rfl⟩
theorem Ipc (n:Int) (w:ZB):ZE Tryz.prog 175 #[↑n] w (fun e w'=>e=.returned (.bool (CH.within n 100000))/\w'=w):=by
 obtain⟨r,hr⟩:∃ r,Hid (CH.within n 100000=r):=⟨_,Aa rfl⟩
 rw [hr.out];by_cases h0:0<=n
 ·have d0:ZH (0<=n)=true:=by simpa using h0
  go_enter Tryz.func175,Tryz.ntmps175;go_wp2;go_ret;exact⟨by rw [<- hr.out];unfold CH.within;rw [d0];rfl,rfl⟩
 ·have d0:ZH (0<=n)=false:=by simpa using h0
  go_enter Tryz.func175,Tryz.ntmps175;go_wp2;go_ret;exact⟨by rw [<- hr.out];unfold CH.within;rw [d0];rfl,rfl⟩
theorem Z4 (s:List UInt8) (w:ZB) (hs:s.length<=10000):ZE Tryz.prog 172 #[↑s] w (fun e w'=>e=.returned (.bool (s==[]||CH.isName s))/\w'=w):=by
 have A:=Aa (Se s w oM);have z:=I08 s;cases h:(s==[]) with
 |true =>rw [h] at z;go_enter Tryz.func172,Tryz.ntmps172;go_wp2;go_ret;exact⟨rfl,rfl⟩
 |false =>rw [h] at z;go_enter Tryz.func172,Tryz.ntmps172;go_wp2_with fail;refine A.out.mono ?_;rintro e w1 ⟨rfl,rfl⟩;clear A;go_wp2;go_ret;exact⟨rfl,rfl⟩
def A4 (h:aS) (vj:ZC):List ZC:=[ay h.id,ay h.company,ay h.holder,ay h.ah,ay h.aA,vj,aJ h.capital,aJ h.bM,aJ h.start,aJ h.stop]
def Mpo (B:Nat) (w:ZB) (cs:List ZC) (h:aS):Prop:=∃ vj,cs=A4 h vj/\Strs B w vj h.joint
structure ji (h:aS):Prop where
 id:h.id.length<=10000
 company:h.company.length<=10000
 holder:h.holder.length<=10000
 ah:h.ah.length<=10000
 aA:h.aA.length<=10000
 joint:Gd h.joint
theorem Vo (cs:List ZC) (h:aS) (w:ZB) (hl:Mpo w w cs h) (hS:ji h) : ZE Tryz.prog 111 #[.agg cs.toArray] w (Ret w (.bool (bK h))):=by
 obtain⟨vj,rfl,hvj⟩:=hl;obtain⟨r,hr⟩:∃ r,Hid (bK h=r):=⟨_,Aa rfl⟩
 rw [hr.out];obtain⟨aj,cj,rfl,hc1,hc2,hcell⟩:=hvj;obtain⟨s1,s2,s3,s4,s5,s6⟩:=hS;have hblk:=Ai w (.cells (A4 h (.slice aj h.joint.length cj)).toArray 55);have hB:=(Ac _ w).alloc nR (.cells (A4 h (.slice aj h.joint.length cj)).toArray 55);generalize hnj:h.joint.length=nj at *;have N:=Aa fun (s:List UInt8) (w1:ZB) (hs:s.length<=10000)=>Se s w1 oM;have O:=Aa fun (s:List UInt8) (w1:ZB) (hs:s.length<=10000)=>Z4 s w1 hs;have PC:=Aa fun (n:Int) (w1:ZB)=>B11 n w1;have DY:=Aa fun (n:Int) (w1:ZB)=>Ipc n w1;have hmm:=@Ig Tryz.prog;dsimp only [A4] at hblk hB ⊢;go_enter Tryz.func111,Tryz.ntmps111;generalize hw0:w.alloc (.cells [ay h.id,ay h.company,ay h.holder,ay h.ah,ay h.aA,.slice aj nj cj,aJ h.capital,aJ h.bM,aJ h.start,aJ h.stop].toArray 55)=w0 at hblk hB;have k0:w0.cell? ⟨w,0,none⟩=some ↑h.id:=Ab hblk 0;have k1:w0.cell? ⟨w,1,none⟩=some ↑h.company:=Ab hblk 1;have k2:w0.cell? ⟨w,2,none⟩=some ↑h.holder:=Ab hblk 2;have k3:w0.cell? ⟨w,3,none⟩=some ↑h.ah:=Ab hblk 3;have k4:w0.cell? ⟨w,4,none⟩=some ↑h.aA:=Ab hblk 4;have k5:w0.cell? ⟨w,5,none⟩=some (.slice aj nj cj):=Ab hblk 5;have k6:w0.cell? ⟨w,6,none⟩=some ↑h.capital:=Ab hblk 6;have k7:w0.cell? ⟨w,7,none⟩=some ↑h.bM:=Ab hblk 7;have k8:w0.cell? ⟨w,8,none⟩=some ↑h.start:=Ab hblk 8;have k9:w0.cell? ⟨w,9,none⟩=some ↑h.stop:=Ab hblk 9;have hlt0:w.heap.size<w0.heap.size:=(aZ hblk)
 have HB:=Aa hblk;have HF:=Aa hcell;clear hblk hcell;have A:=N.out h.id w0 s1;cases i1:CH.isName h.id with
 |false =>rw [i1] at A;replace A:=Aa A;go_wp2_with fail;refine (A.out).mono ?_;rintro e w9 ⟨rfl,hw9⟩;rw [hw9];clear hw9 w9;clear A;go_wp2;go_ret;exact⟨by rw [<- hr.out,aQ,i1];simp,hB⟩
 |true =>
  rw [i1] at A;replace A:=Aa A;go_wp2_with fail;refine (A.out).mono ?_;rintro e w9 ⟨rfl,hw9⟩;rw [hw9];clear hw9 w9;clear A;have A:=N.out h.company w0 s2;cases i2:CH.isName h.company with
  |false =>rw [i2] at A;replace A:=Aa A;go_wp2_with fail;refine (A.out).mono ?_;rintro e w9 ⟨rfl,hw9⟩;rw [hw9];clear hw9 w9;clear A;go_wp2;go_ret;exact⟨by rw [<- hr.out,aQ,i2];simp,hB⟩
  |true =>
   rw [i2] at A;replace A:=Aa A;go_wp2_with fail;refine (A.out).mono ?_;rintro e w9 ⟨rfl,hw9⟩;rw [hw9];clear hw9 w9;clear A;have A:=N.out h.holder w0 s3;cases i3:CH.isName h.holder with
   |false =>rw [i3] at A;replace A:=Aa A;go_wp2_with fail;refine (A.out).mono ?_;rintro e w9 ⟨rfl,hw9⟩;rw [hw9];clear hw9 w9;clear A;go_wp2;go_ret;exact⟨by rw [<- hr.out,aQ,i3];simp,hB⟩
   |true =>
    rw [i3] at A;replace A:=Aa A;go_wp2_with fail;refine (A.out).mono ?_;rintro e w9 ⟨rfl,hw9⟩;rw [hw9];clear hw9 w9;clear A;have A:=O.out h.ah w0 s4;cases i4:(h.ah==[]||CH.isName h.ah) with
    |false =>rw [i4] at A;replace A:=Aa A;go_wp2_with fail;refine (A.out).mono ?_;rintro e w9 ⟨rfl,hw9⟩;rw [hw9];clear hw9 w9;clear A;go_wp2;go_ret;exact⟨by rw [<- hr.out,aQ,i4];simp,hB⟩
    |true =>
     rw [i4] at A;replace A:=Aa A;go_wp2_with fail;refine (A.out).mono ?_;rintro e w9 ⟨rfl,hw9⟩;rw [hw9];clear hw9 w9;clear A;have A:=O.out h.aA w0 s5;cases i5:(h.aA==[]||CH.isName h.aA) with
     |false =>rw [i5] at A;replace A:=Aa A;go_wp2_with fail;refine (A.out).mono ?_;rintro e w9 ⟨rfl,hw9⟩;rw [hw9];clear hw9 w9;clear A;go_wp2;go_ret;exact⟨by rw [<- hr.out,aQ,i5];simp,hB⟩
     |true =>
      rw [i5] at A;replace A:=Aa A;go_wp2_with fail;refine (A.out).mono ?_;rintro e w9 ⟨rfl,hw9⟩;rw [hw9];clear hw9 w9;clear A;clear N O;have N:True:=trivial;have O:True:=trivial;by_cases h6:nj<=4
      ·have d6:ZH ((4:Int)<(nj:Int))=false:=by simp;omega
       have h6':ZH (h.joint.length<=4)=true:=by rw [hnj];simpa using h6
       have z4:=I05 h.ah;cases hN:(h.ah != []) <;> rw [hN] at z4;focus have zi:List.isEmpty h.ah=true:=by rw [Hm,hN];rfl
       rotate_left;focus
        have zi:List.isEmpty h.ah=false:=by rw [Hm,hN];rfl
        by_cases hj0:0<nj
        ·have d7:ZH ((0:Int)<(nj:Int))=true:=by simp;omega
         have h7':ZH (0<h.joint.length)=true:=by rw [hnj];simpa using hj0
         clear PC DY;go_wp2;go_ret;exact⟨by rw [<- hr.out,aQ,hN,h7'];simp,hB⟩
        have d7:ZH ((0:Int)<(nj:Int))=false:=by simp;omega
        have h7':ZH (0<h.joint.length)=false:=by rw [hnj];simpa using hj0
       rotate_left;all_goals
        obtain⟨o,ho,hM1⟩:=Fo Ow Tryz.underlying171 (P1 ay w0) h.holder (.bool true) rfl;have hBm:=hB.alloc hB.size (.map #[] 0);have hB1:=Bt hBm hB.size o;have uJ:=(Below.block ((Ac _ w0).alloc nR (.map #[] 0)) w.heap.size hlt0).trans HB.out;have hblk1:=(World.putObj_heap_other (w:=w0.alloc (.map #[] 0)) (o:=o) (Ip hlt0)).trans uJ;have m2:(w0.alloc (.map #[] 0)).cell? ⟨w,2,none⟩=some ↑h.holder:=Ab uJ 2;have hsz1:w.heap.size<((w0.alloc (.map #[] 0)).putObj w0.heap.size o).heap.size:=(aZ hblk1)
        have hr0:w.heap.size<=w0.heap.size:=hB.size;generalize hw1:(w0.alloc (.map #[] 0)).putObj w0.heap.size o=w1 at *;generalize hrr:w0.heap.size=R at *;have q0:w1.cell? ⟨w,0,none⟩=some ↑h.id:=Ab hblk1 0;have q1:w1.cell? ⟨w,1,none⟩=some ↑h.company:=Ab hblk1 1;have q2:w1.cell? ⟨w,2,none⟩=some ↑h.holder:=Ab hblk1 2;have q3:w1.cell? ⟨w,3,none⟩=some ↑h.ah:=Ab hblk1 3;have q4:w1.cell? ⟨w,4,none⟩=some ↑h.aA:=Ab hblk1 4;have q5:w1.cell? ⟨w,5,none⟩=some (.slice aj nj cj):=Ab hblk1 5;have q6:w1.cell? ⟨w,6,none⟩=some ↑h.capital:=Ab hblk1 6;have q7:w1.cell? ⟨w,7,none⟩=some ↑h.bM:=Ab hblk1 7;have q8:w1.cell? ⟨w,8,none⟩=some ↑h.start:=Ab hblk1 8;have q9:w1.cell? ⟨w,9,none⟩=some ↑h.stop:=Ab hblk1 9;go_wp2_with fail;clear k0 k1 k2 k3 k4 k5 k6 k7 k8 k9;clear hmm ho m2 uJ hBm HB N O q0 q1 q2 q3 q4 q5 q6 q7 q8 q9;have xC:=Aa hblk1;clear hblk1;go_loopw [61] (fun iv wr=>∃ k:Nat,k<=nj/\iv=↑k/\Hid (eH h.holder (h.joint.take k)=true)/\wM R wr (h.holder::h.joint.take k)/\Below R w1 wr/\Below w w wr) (fun iv _=>nj - (ZG iv).toNat);case atStart=>exact⟨0,Bg _,rfl,Aa rfl,hM1,Ac _ _,hB1⟩
        case round =>
         obtain⟨k,hk,rfl,hu,hM,hbR,hb⟩:=hrel;by_cases hlt:k<nj
         ·obtain⟨x,hx⟩:∃ x,h.joint[k]?=some x:=⟨_,Ad oM⟩
          have hxl:=s6.2 x (Ap hx);obtain⟨b,off,rfl,hblt,hcs⟩:=HF.out (fun e=>by rw [e] at hnj;simp at hnj;omega);have hck:=(hb.cell (p:=⟨b,off+k,none⟩) hblt).trans (hcs k x hx);have hts:h.joint.take (k+1)=h.joint.take k++[x]:=by rw [Eo,hx];rfl
          have hno:eH h.holder (h.joint.take (k+1))=(CH.isName x&&!(h.holder::h.joint.take k).contains x):=by rw [hts,lJ,hu.out];rfl
          have A:=Aa (Se x wr oM);have hlk:=Dr Ow Tryz.underlying171 (.bool false) Tb hM x;rw [(Ss x (h.holder::h.joint.take k) 0).1] at hlk;have hko:((h.holder::h.joint.take k).map fun l=>(l,Value.bool true))++[(x,.bool true)]=(h.holder::h.joint.take (k+1)).map fun l=>(l,Value.bool true):=by rw [hts];simp
          have hup:=fun (hc:(h.holder::h.joint.take k).contains x=false)=>Fo Ow Tryz.underlying171 hM x (.bool true) (by
           cases hq:Cg x ((h.holder::h.joint.take k).map fun l=>(l,Value.bool true)) 0 with
           |none=>rfl
           |some p =>have:=(Ss x (h.holder::h.joint.take k) 0).2;rw [hq,hc] at this;cases this)
          rw [hko] at hup;have HN:=Aa hno;have HU:=Aa hup;have HT:=Aa (pJ h.holder h.joint (k+1));clear hno hup hts hko hcs hx;cases hin:CH.isName x with
          |false =>rw [hin] at A;have hr':eH h.holder h.joint=false:=HT.out (by rw [HN.out,hin];rfl);go_wp2_with fail;refine A.out.mono ?_;rintro e w2 ⟨rfl,hw2⟩;rw [hw2];clear A hw2 w2;go_wp2;go_ret;exact⟨by rw [<- hr.out,aQ,hr'];simp,hb⟩
          |true =>
           rw [hin] at A;cases hct:(h.holder::h.joint.take k).contains x with
           |true =>have hr':eH h.holder h.joint=false:=HT.out (by rw [HN.out,hin,hct];rfl);rw [hct] at hlk;go_wp2_with fail;refine A.out.mono ?_;rintro e w2 ⟨rfl,hw2⟩;rw [hw2];clear A hw2 w2;go_wp2;go_ret;exact⟨by rw [<- hr.out,aQ,hr'];simp,hb⟩
           |false =>
            have hr':eH h.holder (h.joint.take (k+1))=true:=by rw [HN.out,hin,hct];rfl
            have HR:=Aa hr';rw [hct] at hlk;obtain⟨o',ho',hM'⟩:=HU.out hct;clear hr' HN HT HU;go_wp2_with fail;refine A.out.mono ?_;rintro e w2 ⟨rfl,hw2⟩;rw [hw2];clear A hw2 w2;go_wp2;go_roundw;case rel=>exact⟨k+1,oM,by go_num,HR,hM',Bt hbR nR _,Bt hb hr0 _⟩
            case measure=>simp [ZG];omega
         ·have e:nj=k:=oM;subst e;have hj:eH h.holder h.joint=true:=by rw [<- hu.out,<- hnj,Dx]
          rw [show h.joint.take nj=h.joint from by rw [<- hnj,Dx]] at hM;have kV:=(hbR.block w hlt0).trans xC.out;clear hu hbR;have k0:wr.cell? ⟨w,0,none⟩=some ↑h.id:=Ab kV 0;have k1:wr.cell? ⟨w,1,none⟩=some ↑h.company:=Ab kV 1;have k2:wr.cell? ⟨w,2,none⟩=some ↑h.holder:=Ab kV 2;have k3:wr.cell? ⟨w,3,none⟩=some ↑h.ah:=Ab kV 3;have k4:wr.cell? ⟨w,4,none⟩=some ↑h.aA:=Ab kV 4;have k5:wr.cell? ⟨w,5,none⟩=some (.slice aj nj cj):=Ab kV 5;have k6:wr.cell? ⟨w,6,none⟩=some ↑h.capital:=Ab kV 6;have k7:wr.cell? ⟨w,7,none⟩=some ↑h.bM:=Ab kV 7;have k8:wr.cell? ⟨w,8,none⟩=some ↑h.start:=Ab kV 8;have k9:wr.cell? ⟨w,9,none⟩=some ↑h.stop:=Ab kV 9;have hlk:=Dr Ow Tryz.underlying171 (.bool false) Tb hM h.company;rw [(Ss h.company (h.holder::h.joint) 0).1] at hlk;have hse:=Cy h.company h.ah;cases hct:(h.holder::h.joint).contains h.company with
          |true =>rw [hct] at hlk;clear PC DY;go_wp2;go_ret;exact⟨by rw [<- hr.out,aQ,hct];simp,hb⟩
          |false =>
           rw [hct] at hlk;cases hcn:(h.company==h.ah) with
           |true =>rw [hcn] at hse;clear PC DY;go_wp2;go_ret;exact⟨by rw [<- hr.out,aQ,hcn];simp,hb⟩
           |false =>
            rw [hcn] at hse;have A:=PC.out h.capital wr;cases hp1:CH.within h.capital 100 with
            |false =>rw [hp1] at A;replace A:=Aa A;clear PC DY;go_wp2_with fail;refine (A.out).mono ?_;rintro e w9 ⟨rfl,hw9⟩;rw [hw9];clear hw9 w9;clear A;go_wp2;go_ret;exact⟨by rw [<- hr.out,aQ,hp1];simp,hb⟩
            |true =>
             rw [hp1] at A;replace A:=Aa A;go_wp2_with fail;refine (A.out).mono ?_;rintro e w9 ⟨rfl,hw9⟩;rw [hw9];clear hw9 w9;clear A;have A:=PC.out h.bM wr;cases hp2:CH.within h.bM 100 with
             |false =>rw [hp2] at A;replace A:=Aa A;clear PC DY;go_wp2_with fail;refine (A.out).mono ?_;rintro e w9 ⟨rfl,hw9⟩;rw [hw9];clear hw9 w9;clear A;go_wp2;go_ret;exact⟨by rw [<- hr.out,aQ,hp2];simp,hb⟩
             |true =>
              rw [hp2] at A;replace A:=Aa A;go_wp2_with fail;refine (A.out).mono ?_;rintro e w9 ⟨rfl,hw9⟩;rw [hw9];clear hw9 w9;clear A;have A:=DY.out h.start wr;cases hd1:CH.within h.start 100000 with
              |false =>rw [hd1] at A;replace A:=Aa A;clear DY;go_wp2_with fail;refine (A.out).mono ?_;rintro e w9 ⟨rfl,hw9⟩;rw [hw9];clear hw9 w9;clear A;go_wp2;go_ret;exact⟨by rw [<- hr.out,aQ,hd1];simp,hb⟩
              |true =>
               rw [hd1] at A;replace A:=Aa A;go_wp2_with fail;refine (A.out).mono ?_;rintro e w9 ⟨rfl,hw9⟩;rw [hw9];clear hw9 w9;clear A;cases hst:(h.stop==-1) with
               |true =>clear DY;go_wp2;go_ret;exact⟨by rw [<- hr.out,aQ];first|(simp only [hj,hct,hcn,i1,i2,i3,i4,i5,h6',hN,h7',hp1,hp2,hd1,hst];rfl)|(simp only [hj,hct,hcn,i1,i2,i3,i4,i5,h6',hN,hp1,hp2,hd1,hst];rfl),hb⟩
               |false =>
                have A:=DY.out h.stop wr;cases hd2:CH.within h.stop 100000 with
                |false =>rw [hd2] at A;replace A:=Aa A;clear DY;go_wp2_with fail;refine (A.out).mono ?_;rintro e w9 ⟨rfl,hw9⟩;rw [hw9];clear hw9 w9;clear A;go_wp2;go_ret;exact⟨by rw [<- hr.out,aQ,hd2,hst];simp,hb⟩
                |true =>rw [hd2] at A;replace A:=Aa A;clear DY;go_wp2_with fail;refine (A.out).mono ?_;rintro e w9 ⟨rfl,hw9⟩;rw [hw9];clear hw9 w9;clear A;go_wp2;go_ret;exact⟨by rw [<- hr.out,aQ];first|(simp only [hj,hct,hcn,i1,i2,i3,i4,i5,h6',hN,h7',hp1,hp2,hd1,hst,hd2];rfl)|(simp only [hj,hct,hcn,i1,i2,i3,i4,i5,h6',hN,hp1,hp2,hd1,hst,hd2];rfl),hb⟩
      ·have d6:ZH ((4:Int)<(nj:Int))=true:=by simp;omega
       have h6':ZH (h.joint.length<=4)=false:=by rw [hnj];simpa using h6
       clear PC DY;go_wp2;go_ret;exact⟨by rw [<- hr.out,aQ,h6'];simp,hB⟩
end Go.Proofs.YthapckjpmkkkpaaGreatDoor
namespace Go.Proofs.YthapckjpmkkkpaaGreatDoor
section
open Go.Lib Go.Maps Go.Proofs.Tryz Go.RowKit Go.Shelf Go.Sort CH
theorem _root_.Go.World.grownBy.trans' {w w1 w2:ZB} {row:Option Nat} (h:w.grownBy w1 row) (h':w1.grownBy w2 row):w.grownBy w2 row := ⟨h'.os.trans h.os,h'.tape.trans h.tape,h'.output.trans h.output,Ag h.size h'.size,fun k hk hne=>(h'.block k (Ah hk h.size) hne).trans (h.block k hk hne)⟩
abbrev Wp (w:ZB) (r n:Nat) (D:DataW Unit):Prop:=w.ownsMap prog 9 (plainElem prog 4) r n D
theorem Xs {w:ZB} {r n:Nat} {D:DataW Unit} (h:Wp w r n D) (hn:n<1000000) (x:List UInt8) (hx:x.length<=10000) : ∃ w',(Instr.mapUpdate 171 (.map (some r)) ↑x (.bool true)).run prog w=.ok () w'/\(∃ D',Wp w' r (n+1) D')/\w.grownBy w' (some r):=by obtain⟨w',h1,h2,h3⟩:=h.update (Maps.string_keyed underlying9) underlying171 (by unfold maxLen;omega) (key:=↑x) (val:=.bool true) (kl:=.string x) (WideMaps.keyOf_string_mk underlying9 (by show x.toArray.size<=maxLen;unfold maxLen;simp;omega)) (plainElem_bool underlying4 true);exact⟨w',h1,⟨_,h2⟩,h3⟩
def Did (w:ZB) (n:Nat) (e:Ending) (w':ZB):Prop:=∃ a m c,e=.returned (.slice a m c)/\m<=n/\Below w w w'
theorem Etf {w:ZB} {r n:Nat} {D:DataW Unit} (h:Wp w r n D) (hn:n<=1000000) : ZE prog 176 #[.map (some r)] w (Did w n):=by
 have hs:=h.size_le;refine (Io (n:=6)).1 ?_;have hfK:Fence.wide.fn 233:=trivial;have hfS:Fence.wide.fn 232:=trivial;refine Nq func176 rfl trivial ?_ rfl;simp only [ntmps176,Hu,Ar,Bo,Nat.reduceAdd,Nat.reduceSub,Hq,Ho,Ia,Ht,Dn,Dq];gi_wp2_with (first |(gi_at_call 233;refine (Tryz.oD _ _).mono ?_;rintro e w' ⟨rfl,rfl⟩) |(gi_at_call 232;refine (Tryz.jk r n D _ w h (by unfold maxLen;omega) oM).mono ?_;rintro e w' ⟨v,ss,rfl,hS,hrow,hnil,hb⟩))
 have hl:ss.length<=n:=by rw [hS.length_eq];refine Ag ?_ hs;cases D <;> simp [strKeys,Maps.size]
 obtain⟨av,cv,rfl⟩:∃ a c,v=.slice a ss.length c:=by
  obtain⟨hlen,⟨rfl,h0⟩|⟨g,cap,cur,rfl,_⟩⟩:=hrow;·exact⟨none,0,by rw [h0]⟩
  ·exact⟨_,cap,rfl⟩
 gi_wp2;go_ret;exact⟨_,_,_,rfl,hl,((Ac _ w).alloc nR _).trans (hb.mono sM)⟩
end
section
open Go.Lib Go.Proofs.Tryz Go.RowKit Go.Shelf Go.Sort CH
def sG (B:Nat) (w:ZB) (v:ZC) (h:aS):Prop := ∃ (b:Nat) (vj:ZC),v=.slice (some ⟨b,0,none⟩) 1 1/\b<B/\(∀ j x,(A4 h vj)[j]?=some x->w.cell? ⟨b,j,none⟩=some x)/\Strs B w vj h.joint
theorem Ha (w:ZB) (ls:List (List UInt8)) (h:ls.length<=1000000):Ay w (w.alloc (.cells (ls.map ay).toArray 9)) (.slice (some ⟨w,0,none⟩) ls.length ls.length) ls:=by
 refine⟨sM,.inr ⟨w,ls.length,(ls.map ay).toArray,rfl,Bv _,Ai _ _,Bv _,?_,?_,?_⟩⟩;·unfold maxLen;omega
 ·simp
 ·simp [Di]
theorem B7b (v:ZC) (h:aS) (w:ZB) (hv:sG w w v h) (hS:ji h) : ZE prog 112 #[v] w (Did w (4+h.joint.length)):=by
 obtain⟨b,vj,rfl,hb,hc,hj⟩:=hv;obtain⟨aj,cj,rfl,hj1,hj2⟩:=hj.form;generalize hnj:h.joint.length=nj at *;have hmm:=@Ig prog;go_enter func112,ntmps112;go_wp2_with fail;go_loopw [11] (fun iv wr=>(iv=.int .i64 0/\wr=w.alloc (.map #[] 0))\/(iv=.int .i64 1/\(∃ n D,n<=4+nj/\Wp wr w n D)/\Below w w wr)) (fun iv _=>1 - (ZG iv).toNat);case atStart=>exact .inl ⟨rfl,rfl⟩
 case round =>
  rcases hrel with⟨rfl,rfl⟩|⟨rfl,⟨n,D,hn,hM⟩,hb9⟩
  ·have hB0:=(Ac _ w).alloc nR (.map #[] 0);have k:∀ j x,(A4 h (.slice aj nj cj))[j]?=some x->(w.alloc (.map #[] 0)).cell? ⟨b,j,none⟩=some x:=fun j x hx=>(hB0.cell (p:=⟨b,j,none⟩) hb).trans (hc j x hx);have k0:=k 0 _ rfl;have k1:=k 1 _ rfl;have k2:=k 2 _ rfl;have k3:=k 3 _ rfl;have k4:=k 4 _ rfl;have k5:=k 5 _ rfl;have k6:=k 6 _ rfl;have k7:=k 7 _ rfl;have k8:=k 8 _ rfl;have k9:=k 9 _ rfl;have K:=Aa k;clear k hc;have hM0:=World.ownsMap_made (H:=Unit) w prog 9 (plainElem prog 4);have hr0:w.heap.size<(w.alloc (.map #[] 0)).heap.size:=sM;generalize hW:w.alloc (.map #[] 0)=W at *;go_wp2_with fail;have hM1:=hM0.alloc (.cells #[ay h.id,ay h.company,ay h.holder,ay h.ah,ay h.aA,.slice aj nj cj,aJ h.capital,aJ h.bM,aJ h.start,aJ h.stop] 55);have hblk:=Ai W (.cells #[ay h.id,ay h.company,ay h.holder,ay h.ah,ay h.aA,.slice aj nj cj,aJ h.capital,aJ h.bM,aJ h.start,aJ h.stop] 55);have hB1:=hB0.alloc (G6 hr0) (.cells #[ay h.id,ay h.company,ay h.holder,ay h.ah,ay h.aA,.slice aj nj cj,aJ h.capital,aJ h.bM,aJ h.start,aJ h.stop] 55);generalize hW1:W.alloc (.cells #[ay h.id,ay h.company,ay h.holder,ay h.ah,ay h.aA,.slice aj nj cj,aJ h.capital,aJ h.bM,aJ h.start,aJ h.stop] 55)=W1 at *;have hMd:=hM1.drew;obtain⟨wa,ra,⟨Da,ma⟩,ga⟩:=Xs hMd dC h.company hS.company;obtain⟨wab,rab,⟨Dab,mab⟩,gab⟩:=Xs ma dC h.holder hS.holder;obtain⟨wb,rb,⟨Db,mb⟩,gb⟩:=Xs hMd dC h.holder hS.holder;obtain⟨wba,rba,⟨Dba,mba⟩,gba⟩:=Xs mb dC h.company hS.company;have ltW:W.heap.size<W1.heap.size:=(aZ hblk)
   have neW:W.heap.size≠w.heap.size:=oM;have nS:∀ W',W1.grownBy W' (some w.heap.size)->W'.heap[W.heap.size]?=some (.cells #[ay h.id,ay h.company,ay h.holder,ay h.ah,ay h.aA,.slice aj nj cj,aJ h.capital,aJ h.bM,aJ h.start,aJ h.stop] 55 (0,0)):=fun W' hg=>(hg.block _ ltW (fun e=>neW (Hw e))).trans hblk;have hgd:W1.grownBy W1.drew (some w.heap.size):=⟨rfl,rfl,rfl,Bv _,fun _ _ _=>rfl⟩
   have S0:=nS _ hgd;have Sa:=nS _ (hgd.trans' ga);have Sab:=nS _ ((hgd.trans' ga).trans' gab);have Sb:=nS _ (hgd.trans' gb);have Sba:=nS _ ((hgd.trans' gb).trans' gba);have two:∀ {W':ZB},W'.heap[W.heap.size]?=some (.cells #[ay h.id,ay h.company,ay h.holder,ay h.ah,ay h.aA,.slice aj nj cj,aJ h.capital,aJ h.bM,aJ h.start,aJ h.stop] 55 (0,0))->W'.cell? ⟨W,1,none⟩=some ↑h.company/\W'.cell? ⟨W,2,none⟩=some ↑h.holder:=fun hq=>⟨Ab hq 1,Ab hq 2⟩
   have Q0:=two S0;have Qa:=two Sa;have Qab:=two Sab;have Qb:=two Sb;have Qba:=two Sba;have HK:=Aa nS;have H1:=Aa hblk;clear nS hblk two S0 Sa Sab Sb Sba k0 k1 k2 k3 k4 k5 k6 k7 k8 k9;go_region_held3 (fun W'=>W'.cell? ⟨W,1,none⟩=some ↑h.company/\W'.cell? ⟨W,2,none⟩=some ↑h.holder) (first|exact Q0|exact Qa|exact Qab|exact Qb|exact Qba) (fail);have Gab:=(hgd.trans' ga).trans' gab;have hblk2:=HK.out _ Gab;have hB2:Below w w wab:=hB1.grown Gab (G6 (Nat.lt_trans hr0 ltW)) (fun k e=>by cases e;exact Bv _);have hsz2:W.heap.size<wab.heap.size:=(aZ hblk2)
   clear Q0 Qa Qab Qb Qba HK H1 ra rab rb rba gba gb ga gab mba mb ma hgd Gab hMd hM1 hM0 hB1;have k3:wab.cell? ⟨W,3,none⟩=some ↑h.ah:=Ab hblk2 3;have k4:wab.cell? ⟨W,4,none⟩=some ↑h.aA:=Ab hblk2 4;have k5:(wab.alloc (.cells #[↑h.ah,↑h.aA] 9)).cell? ⟨W,5,none⟩=some (.slice aj nj cj):=by rw [Gq _ _ _ (by rw [Ab hblk2 5];rfl)];exact Ab hblk2 5
   have hO:=Ha wab [h.ah,h.aA] sM;have hBa:Below wab wab (wab.alloc (.cells #[↑h.ah,↑h.aA] 9)):=(Ac _ wab).alloc nR _;have hJ:=(hj.below (hB2.trans (hBa.mono hB2.size)) nR)
   have hMa:=mab.alloc (.cells #[↑h.ah,↑h.aA] 9);have hszA:wab.heap.size<=(wab.alloc (.cells #[↑h.ah,↑h.aA] 9)).heap.size:=sM;go_wp2_with (refine Mq rfl _ _ rfl wab _ [h.ah,h.aA] rfl hO w _ h.joint rfl hJ (by have:=hS.joint.1;simp;omega) hszA ?_;intro v3 w3 hO3 hg3 h43;clear h43;obtain⟨a3,c3,rfl,hf3⟩:=hO3.form)
   have hne:some w.heap.size≠some wab.heap.size:=fun e=>by injection e;omega
   have hM3:=hMa.kept hg3 hne;have hB3:Below w w w3:=(hB2.trans (hBa.mono hB2.size)).grown hg3 (Ag hB2.size hszA) (fun k e=>by cases e;exact hB2.size);have hN:([h.ah,h.aA]++h.joint).length=nj+1+1:=by simp;omega
   rw [hN] at hO3 hf3;obtain⟨hc3,KA,vJ⟩:=hf3;obtain⟨g,rfl,hg1,hg2⟩:=vJ sM;have hLs:∀ x∈[h.ah,h.aA]++h.joint,x.length<=10000:=fun x hx=>by
    simp only [Dq,Dn,A8] at hx;rcases hx with rfl|rfl|hx;·exact hS.ah
    ·exact hS.aA
    ·exact hS.joint.2 x hx
   have hLs:=Aa hLs;generalize hLL:[h.ah,h.aA]++h.joint=L at *;generalize hNN:nj+1+1=N at *;clear k3 k4 k5 hO hJ hMa vJ hBa hblk2 hg3;go_loopw [30] (fun iv wr=>∃ (k n:Nat) (D:DataW Unit),k<=N/\iv=↑k/\n<=2+k/\Wp wr w n D/\Ay wab wr (.slice (some ⟨g,0,none⟩) N c3) L/\Below w w wr) (fun iv _=>N - (ZG iv).toNat);case atStart=>exact⟨0,2,Dab,Bg _,rfl,Bv _,hM3,hO3,hB3⟩
   case round =>
    obtain⟨k,n,D,hk,rfl,hnk,hMr,hOr,hBr⟩:=hrel;have JL:nj<=100000:=by have:=hS.joint.1;omega
    by_cases hlt:k<N
    ·obtain⟨x,hx⟩:∃ x,L[k]?=some x:=⟨_,Ad oM⟩
     have hxl:=hLs.out x (Ap hx);have hck:wr.cell? ⟨g,k,none⟩=some ↑x:=by obtain⟨a',c',e',_,_,hcc⟩:=hOr.strs;cases e';obtain⟨b',o',e',_,FV⟩:=hcc (fun e=>by rw [e] at hx;simp at hx);cases e';simpa using FV k x hx
     cases hxe:List.isEmpty x with
     |true =>
      clear hx;go_wp2;go_roundw;case rel=>exact⟨k+1,n,D,oM,by go_num,oM,hMr,hOr,hBr⟩
      case measure=>simp [ZG];omega
     |false =>
      obtain⟨wu,ru,⟨Du,mu⟩,gu⟩:=Xs hMr oM x hxl;have hOu:Ay wab wu (.slice (some ⟨g,0,none⟩) N c3) L:=J6 hOr gu (.inr (fun e=>by simp [Value.ownBlock] at e;omega));have hBu:=hBr.grown gu hBr.size (fun k e=>by cases e;exact Bv _);clear hx;go_wp2;go_roundw;case rel=>exact⟨k+1,n+1,Du,oM,by go_num,oM,mu,hOu,hBu⟩
      case measure=>simp [ZG];omega
    ·have e:N=k:=oM;subst e;go_wp2;go_roundw;case rel=>exact .inr ⟨by go_num,⟨n,D,oM,hMr⟩,hBr⟩
     case measure=>simp [ZG]
  ·have hA:=Aa (Etf hM (by have:=hS.joint.1;omega));go_wp2_with fail;refine hA.out.mono ?_;rintro e w2 ⟨a2,m2,c2,rfl,hm2,hb2⟩;clear hA;go_wp2;go_ret;exact⟨_,_,_,rfl,oM,hb9.trans (hb2.mono hb9.size)⟩
def Co {α:Type} (emb:α->ZC) (r:Nat) (w:ZB) (kvs:List (α × ZC)):Prop := ∃ (es:Array MapEntry) (clock:Nat),w.heap[r]?=some (.map es clock)/\es.toList.map (fun e=>(e.key,e.val))=kvs.map (fun p=>(emb p.1,p.2))/\(∀ x∈es.toList,x.born<clock)/\(es.toList.map (·.born)).Nodup
theorem Im {α:Type} [BEq α] {P:Program} {T K E:ZJ} {emb:α->ZC} {kind:TypeDesc} (hK:kH P K emb kind) (hT:P.underlying T=some (.map K E)) {r:Nat} {w:ZB} {kvs:List (α × ZC)} (h:Co emb r w kvs) (k:α) (v:ZC) (hn:Cg k kvs 0=none) : ∃ o,(Instr.mapUpdate T (.map (some r)) (emb k) v).run P w=.ok () (w.putObj r o)/\Co emb r (w.putObj r o) (kvs++[(k,v)]):=by
 obtain⟨es,clock,hb,hes,hold,hnd⟩:=h;have hf:=Su emb kind hK.same k kvs es.toList 0 hes;rw [hn] at hf;have hlt:r<w.heap.size:=(aZ hb)
 refine⟨.map (es.push { key:=emb k,val:=v,born:=clock }) (clock+1),?_,es.push { key:=emb k,val:=v,born:=clock },clock+1,World.putObj_heap_same hlt,?_,?_,?_⟩;·simp [Instr.mapUpdate,Ec hT,Gt hb,hK.check,Instr.findKey,Ec hK.under,hf,Result.andThen,Kt _ hb];rfl
 ·simp [hes]
 ·intro x hx;rw [Kw,Dp,Bz] at hx;rcases hx with hx|rfl;·have:=hold x hx;omega
  ·exact Fe _
 ·rw [Kw,Fh,Jk];refine⟨hnd,sM,?_⟩;intro a ha b hb' e;obtain⟨x,hx,rfl⟩:=Ee.1 ha;simp only [Ew,Hz,Bz] at hb';have:=hold x hx;omega
theorem Vb {α:Type} (emb:α->ZC) (w:ZB):Co emb w (w.alloc (.map #[] 0)) []:=⟨#[],0,Ai _ _,rfl,sM,sM⟩
theorem Co.below {α:Type} {emb:α->ZC} {r:Nat} {w w':ZB} {kvs:List (α × ZC)} (h:Co emb r w kvs) (hb:Below w w w'):Co emb r w' kvs:=by obtain⟨es,clock,h1,h2⟩:=h;exact⟨es,clock,(hb.block r (aZ h1)).trans h1,h2⟩
theorem Co.lt {α:Type} {emb:α->ZC} {r:Nat} {w:ZB} {kvs:List (α × ZC)} (h:Co emb r w kvs):r<w.heap.size:=by obtain⟨es,clock,h1,_⟩:=h;exact (aZ h1)
abbrev Bn (p:Int × Int):ZC:=.agg #[↑p.1,↑p.2]
theorem B10 (a b:Int × Int) (w:ZB):(Op.equal 87 (Bn a) (Bn b)).run prog w=.ok (a==b) w:=by
 obtain⟨a1,a2⟩:=a;obtain⟨b1,b2⟩:=b;have hi:=underlying3;have key:(Op.equalIn (9998+1+1) 87 (Bn (a1,a2)) (Bn (b1,b2))).run prog w=.ok ((a1,a2)==(b1,b2)) w:=by
  go_simp;have e:((a1,a2)==(b1,b2))=(a1==b1&&a2==b2):=rfl;rw [e];by_cases h1:a1=b1
  ·by_cases h2:a2=b2;·simp [h1,h2]
   ·simp [h1,h2]
  ·simp [h1]
 exact key
theorem Zv (w:ZB) (k:Int × Int):∀ (kvs:List ((Int × Int) × ZC)) (es:List MapEntry) (i:Nat),es.map (fun e=>(e.key,e.val))=kvs.map (fun p=>(Bn p.1,p.2))->(Instr.findAsking 87 (Bn k) es i).run prog w=.ok (Cg k kvs i) w:=by
 intro kvs;induction kvs with
 |nil =>
  intro es i h;have:es=[]:=by simpa using h
  subst this;simp [Instr.findAsking,Cg]
 |cons p l ih =>
  intro es i h;obtain⟨a,v⟩:=p;cases es with
  |nil=>simp at h
  |cons e es =>
   simp only [Ew,List.cons.injEq,Gp] at h;obtain⟨⟨hk,hv⟩,hr⟩:=h;rw [Instr.findAsking,Jb,hk,B10,Cg];cases hb:(k==a) with
   |true=>simp [hv]
   |false=>simpa using ih es (i+1) hr
theorem Wm (w:ZB) (k:Int × Int) (kvs:List ((Int × Int) × ZC)) (es:List MapEntry) (h:es.map (fun e=>(e.key,e.val))=kvs.map (fun p=>(Bn p.1,p.2))):(Instr.findKey 87 (Bn k) es).run prog w=.ok (Cg k kvs 0) w:=by
 have ha:=Zv w k kvs es 0 h;unfold Instr.findKey;rw [Jb,Ec underlying87];simp only [H9];cases es with
 |nil =>
  cases kvs with
  |nil=>simp [Instr.findNow,Cg]
  |cons _ _=>simp at h
 |cons e es =>
  cases kvs with
  |nil=>simp at h
  |cons p l =>simp only [Instr.findNow,Instr.sameNow];exact ha
theorem Mo (w:ZB) (e:Bool) (a:Int × Int):(Instr.checkKey e 10000 87 (Bn a)).run prog w=.ok () w:=kR
theorem Lv {T E:ZJ} (hT:prog.underlying T=some (.map 87 E)) (z:ZC) (hz:∀ w,(zeroValue E).run prog w=.ok z w) {r:Nat} {w:ZB} {kvs:List ((Int × Int) × ZC)} (h:Co Bn r w kvs) (k:Int × Int) : (Instr.lookup T (.map (some r)) (Bn k) true).run prog w=.ok (.tuple #[((Cg k kvs 0).map (·.2)).getD z,.bool (Cg k kvs 0).isSome]) w:=by
 obtain⟨es,clock,hb,hes,_⟩:=h;have hf:=Wm w k kvs es.toList hes;cases hq:Cg k kvs 0 with
 |none =>rw [hq] at hf;simp [Instr.lookup,Ec hT,Gt hb,Mo,hf,hz,Result.andThen]
 |some p =>rw [hq] at hf;simp [Instr.lookup,Ec hT,Gt hb,Mo,hf,Result.andThen]
theorem Xk {T E:ZJ} (hT:prog.underlying T=some (.map 87 E)) (z:ZC) (hz:∀ w,(zeroValue E).run prog w=.ok z w) {r:Nat} {w:ZB} {kvs:List ((Int × Int) × ZC)} (h:Co Bn r w kvs) (k:Int × Int) : (Instr.lookup T (.map (some r)) (Bn k) false).run prog w=.ok (((Cg k kvs 0).map (·.2)).getD z) w:=by
 obtain⟨es,clock,hb,hes,_⟩:=h;have hf:=Wm w k kvs es.toList hes;cases hq:Cg k kvs 0 with
 |none =>rw [hq] at hf;simp [Instr.lookup,Ec hT,Gt hb,Mo,hf,hz,Result.andThen]
 |some p =>rw [hq] at hf;simp [Instr.lookup,Ec hT,Gt hb,Mo,hf,Result.andThen]
theorem O5 {T E:ZJ} (hT:prog.underlying T=some (.map 87 E)) {r:Nat} {w:ZB} {kvs:List ((Int × Int) × ZC)} (h:Co Bn r w kvs) (k:Int × Int) (v:ZC) (hn:Cg k kvs 0=none) : ∃ o,(Instr.mapUpdate T (.map (some r)) (Bn k) v).run prog w=.ok () (w.putObj r o)/\Co Bn r (w.putObj r o) (kvs++[(k,v)])/\∃ es c,o=.map es c:=by
 obtain⟨es,clock,hb,hes,hold,hnd⟩:=h;have hf:=Wm w k kvs es.toList hes;rw [hn] at hf;have hlt:r<w.heap.size:=(aZ hb)
 refine⟨.map (es.push { key:=Bn k,val:=v,born:=clock }) (clock+1),?_,⟨es.push { key:=Bn k,val:=v,born:=clock },clock+1,World.putObj_heap_same hlt,?_,?_,?_⟩,_,_,rfl⟩;·simp [Instr.mapUpdate,Ec hT,Gt hb,Mo,hf,Result.andThen,Kt _ hb];rfl
 ·simp [hes]
 ·intro x hx;rw [Kw,Dp,Bz] at hx;rcases hx with hx|rfl;·have:=hold x hx;omega
  ·exact Fe _
 ·rw [Kw,Fh,Jk];refine⟨hnd,sM,?_⟩;intro a ha b hb' e;obtain⟨x,hx,rfl⟩:=Ee.1 ha;simp only [Ew,Hz,Bz] at hb';have:=hold x hx;omega
def Sc (h:aS) (day:Int):Bool:=ZH (h.start<=day)&&(h.stop==-1||ZH (day<h.stop))
theorem I32 (h:aS) (aj:Option Addr) (nj cj:Nat) (day:Int) (w:ZB) : ZE prog 178 #[.agg (A4 h (.slice aj nj cj)).toArray,↑day] w (Ret w (.bool (Sc h day))):=by
 obtain⟨r,hr⟩:∃ r,Hid (Sc h day=r):=⟨_,Aa rfl⟩
 rw [hr.out];dsimp only [A4];cases h1:ZH (h.start<=day) with
 |false =>go_enter func178,ntmps178;go_wp2;go_ret;exact⟨by rw [<- hr.out];simp only [Sc,h1];rfl,(Ac _ w).alloc nR _⟩
 |true =>
  cases h2:(h.stop==-1) with
  |true =>go_enter func178,ntmps178;go_wp2;go_ret;exact⟨by rw [<- hr.out];simp only [Sc,h1,h2];rfl,(Ac _ w).alloc nR _⟩
  |false =>go_enter func178,ntmps178;go_wp2;go_ret;exact⟨by rw [<- hr.out];simp only [Sc,h1,h2];rfl,(Ac _ w).alloc nR _⟩
theorem I19 (w:ZB):(zeroValue 223).run prog w=.ok (.agg #[.int .i64 0,.int .i64 0]) w:=Blt kR w
theorem Mid (h:aS) (aj:Option Addr) (nj cj:Nat) (day:Int) (p b:Nat) (w:ZB) (hp:w.cell? ⟨p,0,none⟩=some (.slice (some ⟨b,0,none⟩) 1 1)) (hpl:p<w.heap.size) (hb:b<w.heap.size) (hc:∀ j x,(A4 h (.slice aj nj cj))[j]?=some x->w.cell? ⟨b,j,none⟩=some x) (hr:Sc h day=true) (c1:CH.within h.capital 100=true) (c2:CH.within h.bM 100=true) : ZE prog 177 #[↑day,.pointer (some ⟨p,0,none⟩)] w (Ret w (.bool true)):=by
 have hmm:=@Ig prog;obtain⟨nc,hnc,hnc'⟩:∃ n:Nat,h.capital=n/\n<=100:=by simp [CH.within] at c1;exact⟨h.capital.toNat,oM,oM⟩
 obtain⟨nv,hnv,JK⟩:∃ n:Nat,h.bM=n/\n<=100:=by simp [CH.within] at c2;exact⟨h.bM.toNat,oM,oM⟩
 have hB0:=(Ac _ w).alloc nR (.map #[] 0);have hM0:=P1 ay w;have hp0:=(hB0.cell (p:=⟨p,0,none⟩) hpl).trans hp;go_enter func177,ntmps177;generalize hW:w.alloc (.map #[] 0)=W at *;go_wp2_with fail;go_loopw [11] (fun iv wr=>(iv=.int .i64 0/\wr=W)\/(iv=.int .i64 1/\Below w w wr)) (fun iv _=>1 - (ZG iv).toNat);case atStart=>exact .inl ⟨rfl,rfl⟩
 case round =>
  rcases hrel with⟨rfl,hwr⟩|⟨rfl,hb9⟩
  ·rw [hwr];clear hwr wr;have k:∀ j x,(A4 h (.slice aj nj cj))[j]?=some x->W.cell? ⟨b,j,none⟩=some x:=fun j x hx=>(hB0.cell (p:=⟨b,j,none⟩) hb).trans (hc j x hx);have k0:=k 0 _ rfl;have k1:=k 1 _ rfl;have k2:=k 2 _ rfl;have k3:=k 3 _ rfl;have k4:=k 4 _ rfl;have k5:=k 5 _ rfl;have k6:=k 6 _ rfl;have k7:=k 7 _ rfl;have k8:=k 8 _ rfl;have k9:=k 9 _ rfl;clear k hc;have A:=Aa fun o=>I32 h aj nj cj day (W.alloc o);rw [hr] at A;dsimp only [A4] at A;rw [hnc,hnv] at A;go_wp2_with fail;refine (A.out _).mono ?_;rintro e w2 ⟨rfl,hb2⟩;clear A k0 k1 k2 k3 k4 k5 k6 k7 k8 k9;have hblk:=(hb2.block W sM).trans (Ai W _);have hB2:Below W W w2:=((Ac _ W).alloc nR _).trans (hb2.mono sM);have hM2:=hM0.below hB2;have m1:w2.cell? ⟨W,1,none⟩=some ↑h.company:=Ab hblk 1;have m6:w2.cell? ⟨W,6,none⟩=some ↑nc:=Ab hblk 6;have m7:w2.cell? ⟨W,7,none⟩=some ↑nv:=Ab hblk 7;have hlk:=Dr Ow (underlying220) _ I19 hM2 h.company;rw [show Cg h.company ([]:List (List UInt8 × ZC)) 0=none from rfl] at hlk;dsimp only [Option.map_none,Option.getD_none] at hlk;have n1:∀ o,(w2.alloc o).cell? ⟨W,1,none⟩=some ↑h.company:=fun o=>by rw [Gq _ _ _ (by rw [m1];rfl)];exact m1
   have n6:∀ o,(w2.alloc o).cell? ⟨W,6,none⟩=some ↑nc:=fun o=>by rw [Gq _ _ _ (by rw [m6];rfl)];exact m6
   have n7:∀ o,(w2.alloc o).cell? ⟨W,7,none⟩=some ↑nv:=fun o=>by rw [Gq _ _ _ (by rw [m7];rfl)];exact m7
   have hM3:=hM2.below ((Ac _ w2).alloc nR (.cells #[↑nc,↑nv] 223));obtain⟨o,ho,hM4⟩:=Fo Ow (underlying220) hM3 h.company (.agg #[↑nc,↑nv]) rfl;have d1:ZH ((100:Int)<(nc:Int))=false:=by simp;omega
   have d2:ZH ((100:Int)<(nv:Int))=false:=by simp;omega
   have hBf:=Bt (r:=w.heap.size) ((hB0.trans (hB2.mono hB0.size)).alloc (Ag hB0.size hB2.size) (.cells #[↑nc,↑nv] 223)) nR o;clear hnc hnv;go_wp2;go_roundw;case rel=>exact .inr ⟨by go_num,hBf⟩
   case measure=>simp [ZG]
  ·go_wp2;go_ret;exact⟨rfl,hb9⟩
structure Bears (h:aS):Prop where
 runs:Sc h h.start=true
 capital:CH.within h.capital 100=true
 bM:CH.within h.bM 100=true
structure mV (h:aS) (aj:Option Addr) (nj cj p q b:Nat) (w:ZB):Prop where
 hp:w.cell? ⟨p,0,none⟩=some (.slice (some ⟨b,0,none⟩) 1 1)
 pl:p<w.heap.size
 bl:b<w.heap.size
 cells:∀ j x,(A4 h (.slice aj nj cj))[j]?=some x->w.cell? ⟨b,j,none⟩=some x
 hq:w.cell? ⟨q,0,none⟩=some (.func (.func 177) #[] #[.pointer (some ⟨p,0,none⟩)])
 ql:q<w.heap.size
theorem mV.below {h:aS} {aj:Option Addr} {nj cj p q b:Nat} {w w':ZB} (H:mV h aj nj cj p q b w) (hb:Below w w w'):mV h aj nj cj p q b w' := ⟨(hb.cell (p:=⟨p,0,none⟩) H.pl).trans H.hp,Ah H.pl hb.size,Ah H.bl hb.size,fun j x hx=>(hb.cell (p:=⟨b,j,none⟩) H.bl).trans (H.cells j x hx),(hb.cell (p:=⟨q,0,none⟩) H.ql).trans H.hq,Ah H.ql hb.size⟩
theorem Idx (h:aS) (aj:Option Addr) (nj cj p q b:Nat) (w:ZB) (H:mV h aj nj cj p q b w) (hB:Bears h) : ZE prog 180 #[.agg (A4 h (.slice aj nj cj)).toArray,.pointer (some ⟨q,0,none⟩)] w (Ret w (.bool false)):=by have hBa:=fun o=>(Ac _ w).alloc nR o;have A:=Aa fun o=>Mid h aj nj cj h.start p b (w.alloc o) (H.below (hBa o)).hp (H.below (hBa o)).pl (H.below (hBa o)).bl (H.below (hBa o)).cells hB.runs hB.capital hB.bM;have hq:=fun o=>(H.below (hBa o)).hq;dsimp only [A4];go_enter func180,ntmps180;go_wp2_with fail;refine (A.out _).mono ?_;rintro e w1 ⟨rfl,hb1⟩;clear A;go_wp2;go_ret;exact⟨rfl,(hBa _).trans (hb1.mono sM)⟩
theorem Xp (h:aS) (aj:Option Addr) (nj cj p q b:Nat) (w:ZB) (H:mV h aj nj cj p q b w) (hB:Bears h) : ZE prog 234 #[.slice (some ⟨b,0,none⟩) 1 1,.func (.func 180) #[] #[.pointer (some ⟨q,0,none⟩)]] w (Ret w (.int .i64 (-1))):=by
 have k0:=H.cells 0 _ rfl;have k1:=H.cells 1 _ rfl;have k2:=H.cells 2 _ rfl;have k3:=H.cells 3 _ rfl;have k4:=H.cells 4 _ rfl;have k5:=H.cells 5 _ rfl;have k6:=H.cells 6 _ rfl;have k7:=H.cells 7 _ rfl;have k8:=H.cells 8 _ rfl;have k9:=H.cells 9 _ rfl;have A:=Aa (Idx h aj nj cj p q b w H hB);dsimp only [A4] at A;go_enter func234,ntmps234;go_wp2_with fail;go_loopw [8] (fun iv wr=>(iv=.int .i64 0/\wr=w)\/(iv=.int .i64 1/\Below w w wr)) (fun iv _=>1 - (ZG iv).toNat);case atStart=>exact .inl ⟨rfl,rfl⟩
 case round =>
  rcases hrel with⟨rfl,hwr⟩|⟨rfl,hb9⟩
  ·rw [hwr];clear hwr wr;go_wp2_with fail;refine A.out.mono ?_;rintro e w1 ⟨rfl,hb1⟩;clear A k0 k1 k2 k3 k4 k5 k6 k7 k8 k9;go_wp2;go_roundw;case rel=>exact .inr ⟨by go_num,hb1⟩
   case measure=>simp [ZG]
  ·clear A k0 k1 k2 k3 k4 k5 k6 k7 k8 k9;go_wp2;go_ret;exact⟨rfl,hb9⟩
theorem Qx (h:aS) (aj:Option Addr) (nj cj p q b:Nat) (w:ZB) (H:mV h aj nj cj p q b w) (hB:Bears h) : ZE prog 179 #[.slice (some ⟨b,0,none⟩) 1 1,.func (.func 180) #[] #[.pointer (some ⟨q,0,none⟩)]] w (Ret w (.bool false)):=by have A:=Aa (Xp h aj nj cj p q b w H hB);go_enter func179,ntmps179;go_wp2_with fail;refine A.out.mono ?_;rintro e w1 ⟨rfl,hb1⟩;clear A;go_wp2;go_ret;exact⟨rfl,hb1⟩
theorem Ask (h:aS) (aj:Option Addr) (nj cj b:Nat) (w:ZB) (hb:b<w.heap.size) (hc:∀ j x,(A4 h (.slice aj nj cj))[j]?=some x->w.cell? ⟨b,j,none⟩=some x) (hB:Bears h) : ZE prog 113 #[.slice (some ⟨b,0,none⟩) 1 1] w (Ret w (.bool true)):=by
 have hB1:=fun o=>(Ac _ w).alloc nR o;have hB2:=fun o o'=>(hB1 o).alloc (G6 sM) o';have A:=Aa (Qx h aj nj cj w (w+1) b ((w.alloc (.cells #[.slice (some ⟨b,0,none⟩) 1 1] 110)).alloc (.cells #[.func (.func 177) #[] #[.pointer (some ⟨w,0,none⟩)]] 117)) ?_ hB);rotate_left
 ·refine⟨?_,by simp;omega,by simp;omega,fun j x hx=>((hB2 _ _).cell (p:=⟨b,j,none⟩) hb).trans (hc j x hx),?_,sM⟩;·rw [Gq _ _ _ (by rw [Cm];rfl),Cm];rfl
  ·have:=Cm (w.alloc (.cells #[.slice (some ⟨b,0,none⟩) 1 1] 110)) #[.func (.func 177) #[] #[.pointer (some ⟨w,0,none⟩)]] 117 (0,0) 0;simp at this;simp
 clear hc;go_enter func113,ntmps113;go_wp2_with fail;refine A.out.mono ?_;rintro e w1 ⟨rfl,hb1⟩;clear A;go_wp2;go_ret;exact⟨rfl,(hB2 _ _).trans (hb1.mono (by simp;omega))⟩
theorem Bears.zn {h:aS} (hk:bK h=true):Bears h:=by
 rw [aQ] at hk;simp only [Am,Ea,Gh,J9] at hk;obtain⟨⟨_,⟨⟨_,_⟩,hcap⟩,EJ⟩,_,hst⟩:=hk;refine⟨?_,hcap,EJ⟩;unfold Sc;simp only [Am,Dw,Bq] at hst ⊢;refine⟨Int.le_refl _,?_⟩;rcases hst with hst|⟨_,hst⟩;·exact .inl hst
 ·exact .inr hst
theorem Rl {h:aS} (hk:bK h=true):h.joint.length<=4:=by rw [aQ] at hk;simp only [Am,Bq] at hk;exact hk.1.1.1.1.2
theorem Zf (v:ZC) (h:aS) (w:ZB) (hv:sG w w v h) (hS:ji h) : ZE prog 51 #[v] w (Ret w (.bool (bK h))):=by
 have hv':=hv;obtain⟨b,vj,rfl,hb,hc,hj⟩:=hv;obtain⟨aj,cj,rfl,hj1,hj2⟩:=hj.form;have hmm:=@Ig prog;have hM0:=P1 ay w;have hB0:=(Ac _ w).alloc nR (.map #[] 0);obtain⟨r,hr⟩:∃ r,bK h=r:=⟨_,rfl⟩
 have HV:∀ w',Below w w w'->sG w' w' (.slice (some ⟨b,0,none⟩) 1 1) h:=fun w' hbw =>⟨b,_,rfl,Ah hb hbw.size,fun j x hx=>(hbw.cell (p:=⟨b,j,none⟩) hb).trans (hc j x hx),(hj.below hbw nR).mono hbw.size⟩
 generalize hnj:h.joint.length=nj at *;rw [hr];have HVh:=Aa HV;have hch:=Aa hc;clear HV hv' hc;go_enter func51,ntmps51;generalize hW:w.alloc (.map #[] 0)=W at *;go_wp2_with fail;go_loopw [9] (fun iv wr=>(iv=.int .i64 0/\wr=W)\/(iv=.int .i64 1/\r=true/\Below w w wr)) (fun iv _=>1 - (ZG iv).toNat);case atStart=>exact .inl ⟨rfl,rfl⟩
 case round =>
  rcases hrel with⟨rfl,hwr⟩|⟨rfl,hrt,hb9⟩
  ·rw [hwr];clear hwr wr;have k:∀ j x,(A4 h (.slice aj nj cj))[j]?=some x->W.cell? ⟨b,j,none⟩=some x:=fun j x hx=>(hB0.cell (p:=⟨b,j,none⟩) hb).trans (hch.out j x hx);have k0:=k 0 _ rfl;have k1:=k 1 _ rfl;have k2:=k 2 _ rfl;have k3:=k 3 _ rfl;have k4:=k 4 _ rfl;have k5:=k 5 _ rfl;have k6:=k 6 _ rfl;have k7:=k 7 _ rfl;have k8:=k 8 _ rfl;have k9:=k 9 _ rfl;clear k;have hBW:=fun o=>(Ac _ W).alloc nR o;have A:=Aa fun o=>Vo (A4 h (.slice aj nj cj)) h (W.alloc o) ⟨_,rfl,by have h1:=(hj.below (hB0.trans ((hBW o).mono hB0.size)) nR).mono (hB0.trans ((hBW o).mono hB0.size)).size;exact h1⟩ hS;rw [hr] at A;dsimp only [A4] at A;go_wp2_with fail;refine (A.out _).mono ?_;rintro e w2 ⟨rfl,hb2⟩;clear A k0 k1 k2 k3 k4 k5 k6 k7 k8 k9;have hblk:=(hb2.block W sM).trans (Ai W _);have hB2:Below W W w2:=(hBW _).trans (hb2.mono sM);clear hb2 hBW;have hM2:=hM0.below hB2;have m0:w2.cell? ⟨W,0,none⟩=some ↑h.id:=Ab hblk 0;have hlk:=Dr Ow (underlying171) _ Tb hM2 h.id;rw [show Cg h.id ([]:List (List UInt8 × ZC)) 0=none from rfl] at hlk;dsimp only [Option.map_none,Option.getD_none] at hlk;obtain⟨o,ho,hM4⟩:=Fo Ow (underlying171) hM2 h.id (.bool true) rfl;have hBf:=Bt (r:=w.heap.size) (hB0.trans (hB2.mono hB0.size)) nR o;clear hM2 hM4 hblk;cases r with
   |false =>go_wp2;go_ret;exact⟨rfl,hB0.trans (hB2.mono hB0.size)⟩
   |true =>
    go_wp2;go_roundw;case rel=>exact .inr ⟨by go_num,trivial,hBf⟩
    case measure=>simp [ZG]
  ·subst hrt;have hjl:=Rl hr;have A:=Aa (B7b _ h wr (HVh.out wr hb9) hS);go_wp2_with fail;refine A.out.mono ?_;rintro e w2 ⟨a2,m2,c2,rfl,hm2,hb2⟩;clear A;have pO:=hb9.trans (hb2.mono hb9.size);have d1:ZH ((m2:Int)<=60)=true:=by simp;omega
   have A:=Aa (Ask h aj nj cj b w2 (Ah hb pO.size) (fun j x hx=>(pO.cell (p:=⟨b,j,none⟩) hb).trans (hch.out j x hx)) (Bears.zn hr));go_wp2_with fail;refine A.out.mono ?_;rintro e w3 ⟨rfl,hb3⟩;clear A;go_wp2;go_ret;exact⟨rfl,pO.trans (hb3.mono pO.size)⟩
end
end Go.Proofs.YthapckjpmkkkpaaGreatDoor
namespace CH
def kM (h:aS):Bool := (ZH (h.id.length<=60)&&(ZH (h.company.length<=60)&&(ZH (h.holder.length<=60)&&(ZH (h.ah.length<=60)&&(ZH (h.aA.length<=60)&&ZH (h.joint.length<=10))))))&&h.joint.all (fun s=>ZH (s.length<=60))
end CH
namespace Go.Proofs.YthapckjpmkkkpaaGreatDoor
open Go.RowKit Go.Lib Go.Shelf Go.Sort CH
theorem tK (m:Nat):ZH ((60:Int)<(m:Int))=!ZH (m<=60):=by
 by_cases h:m<=60;·rw [Az h,Aq oM];rfl
 ·rw [Aq h,Az oM];rfl
theorem GL (m:Nat):ZH ((10:Int)<(m:Int))=!ZH (m<=10):=by
 by_cases h:m<=10;·rw [Az h,Aq oM];rfl
 ·rw [Aq h,Az oM];rfl
theorem Coq (v:ZC) (h:aS) (w:ZB) (hv:sG w w v h) : ZE Tryz.prog 55 #[v,.int .i64 1] w (Ret w (.bool (kM h))):=by
 obtain⟨b,vj,rfl,hb,hc,hj⟩:=hv;obtain⟨a,cap,rfl,hl,hcap,hne⟩:=hj;obtain⟨R,hR⟩:∃ R,Hid (kM h=R):=⟨_,Aa rfl⟩
 rw [hR.out];have x0:=hc 0 _ rfl;have x1:=hc 1 _ rfl;have x2:=hc 2 _ rfl;have x3:=hc 3 _ rfl;have x4:=hc 4 _ rfl;have x5:=hc 5 _ rfl;have x6:=hc 6 _ rfl;have x7:=hc 7 _ rfl;have x8:=hc 8 _ rfl;have x9:=hc 9 _ rfl;clear hc;have hR1:Hid (((ZH (h.id.length<=60)&&(ZH (h.company.length<=60)&&(ZH (h.holder.length<=60)&&(ZH (h.ah.length<=60)&&(ZH (h.aA.length<=60)&&ZH (h.joint.length<=10))))))&&h.joint.all (fun s=>ZH (s.length<=60)))=R):=Aa hR.out;clear hR;have hne:=Aa hne;obtain⟨N,hN⟩:∃ N,h.joint.length=N:=⟨_,rfl⟩
 rw [hN] at hl hR1;rw [hN] at x5;have hN:=Aa hN;obtain⟨r0,h0⟩:∃ r,ZH (h.id.length<=60)=r:=⟨_,rfl⟩
 obtain⟨r1,h1⟩:∃ r,ZH (h.company.length<=60)=r:=⟨_,rfl⟩
 obtain⟨r2,h2⟩:∃ r,ZH (h.holder.length<=60)=r:=⟨_,rfl⟩
 obtain⟨r3,h3⟩:∃ r,ZH (h.ah.length<=60)=r:=⟨_,rfl⟩
 obtain⟨r4,h4⟩:∃ r,ZH (h.aA.length<=60)=r:=⟨_,rfl⟩
 obtain⟨r5,h5⟩:∃ r,ZH (N<=10)=r:=⟨_,rfl⟩
 rw [h0,h1,h2,h3,h4,h5] at hR1;have g0:=tK h.id.length;have g1:=tK h.company.length;have g2:=tK h.holder.length;have g3:=tK h.ah.length;have g4:=tK h.aA.length;have g5:=GL N;rw [h0] at g0;rw [h1] at g1;rw [h2] at g2;rw [h3] at g3;rw [h4] at g4;rw [h5] at g5;clear h0 h1 h2 h3 h4 h5;generalize hji:h.joint=joint at *;generalize h.id=s0 at *;generalize h.company=s1 at *;generalize h.holder=s2 at *;generalize h.ah=s3 at *;generalize h.aA=s4 at *;have hB0:=fun o=>(Ac _ w).alloc nR o;rcases (by cases r0 <;> cases r1 <;> cases r2 <;> cases r3 <;> cases r4 <;> cases r5 <;> simp:(r0=false)\/(r0=true/\r1=false)\/(r0=true/\r1=true/\r2=false)\/(r0=true/\r1=true/\r2=true/\r3=false)\/(r0=true/\r1=true/\r2=true/\r3=true/\r4=false)\/(r0=true/\r1=true/\r2=true/\r3=true/\r4=true/\r5=false)\/(r0=true/\r1=true/\r2=true/\r3=true/\r4=true/\r5=true)) with rfl|⟨rfl,rfl⟩|⟨rfl,rfl,rfl⟩|⟨rfl,rfl,rfl,rfl⟩|⟨rfl,rfl,rfl,rfl,rfl⟩|⟨rfl,rfl,rfl,rfl,rfl,rfl⟩|⟨rfl,rfl,rfl,rfl,rfl,rfl⟩;iterate 6
  ·simp only [Bool.not_false,Ji] at g0 g1 g2 g3 g4 g5
   go_enter Tryz.func55,Tryz.ntmps55
   go_wp2_with fail
   go_loopw [5] (fun i wr=>i=.int .i64 0/\wr=w) (fun _ _=>0)
   case atStart=>exact⟨rfl,rfl⟩
   case round =>
    obtain⟨rfl,rfl⟩:=hrel
    go_wp2
    go_ret
    exact⟨by rw [<- hR1.out];rfl,hB0 _⟩
 simp only [Bool.not_false,Ji] at g0 g1 g2 g3 g4 g5;have hR2:Hid (joint.all (fun s=>ZH (s.length<=60))=R):=Aa (by rw [<- hR1.out];rfl);clear hR1;go_enter Tryz.func55,Tryz.ntmps55;go_wp2_with fail;go_loopw [5] (fun i wr=>∃ k:Nat,k<=1/\i=↑k/\Hid (Below w w wr)/\(k=1->Hid (R=true))) (fun i _=>1 - (ZG i).toNat);case atStart=>exact⟨0,Bg _,rfl,Aa (Ac _ _),fun h=>by omega⟩
 case round =>
  obtain⟨k,hk,rfl,hBr,hI⟩:=hrel;have y0:=(hBr.out.cell (p:=⟨b,0,none⟩) hb).trans x0;have y1:=(hBr.out.cell (p:=⟨b,1,none⟩) hb).trans x1;have y2:=(hBr.out.cell (p:=⟨b,2,none⟩) hb).trans x2;have y3:=(hBr.out.cell (p:=⟨b,3,none⟩) hb).trans x3;have y4:=(hBr.out.cell (p:=⟨b,4,none⟩) hb).trans x4;have y5:=(hBr.out.cell (p:=⟨b,5,none⟩) hb).trans x5;have y6:=(hBr.out.cell (p:=⟨b,6,none⟩) hb).trans x6;have y7:=(hBr.out.cell (p:=⟨b,7,none⟩) hb).trans x7;have y8:=(hBr.out.cell (p:=⟨b,8,none⟩) hb).trans x8;have y9:=(hBr.out.cell (p:=⟨b,9,none⟩) hb).trans x9;rcases (oM:k=0\/k=1) with rfl|rfl
  ·go_wp2_with fail;generalize hWd:wr.alloc _=W at *;have c5:W.cell? ⟨wr,5,none⟩=some (.slice a N cap):=by rw [<- hWd];exact Ab (Ai wr _) 5
   have hBW:Below w w W:=by rw [<- hWd];exact hBr.out.alloc hBr.out.size _
   clear hWd y0 y1 y2 y3 y4 y5 y6 y7 y8 y9 x0 x1 x2 x3 x4 x5 x6 x7 x8 x9;go_loopw [7] (fun i w'=>∃ j:Nat,j<=N/\i=↑j/\w'=W/\Hid ((joint.take j).all (fun s=>ZH (s.length<=60))=true)) (fun i _=>N - (ZG i).toNat);case atStart=>exact⟨0,Bg _,rfl,rfl,Aa rfl⟩
   case round =>
    obtain⟨j,hj,rfl,rfl,hJ⟩:=hrel;by_cases hlt:j<N
    ·obtain⟨bj,off,rfl,hbl,hcells⟩:=hne.out (by intro h;have:=hN.out;simp [h] at this;omega);obtain⟨l,hl'⟩:∃ l,joint[j]?=some l:=⟨_,Ad (by rw [hN.out];exact hlt)⟩
     have hcell:=(hBW.cell (p:=⟨bj,off+j,none⟩) hbl).trans (hcells j l hl');clear hcells;have hl':=Aa hl';obtain⟨m,hm⟩:∃ m,l.length=m:=⟨_,rfl⟩
     by_cases h60:m<=60
     ·have d:ZH ((60:Int)<(m:Int))=false:=by simp;omega
      have hJ':Hid ((joint.take (j+1)).all (fun s=>ZH (s.length<=60))=true):=Aa (by rw [eY _ joint j l hl'.out,hJ.out,hm];simpa using h60);go_wp2;go_roundw;case rel=>exact⟨j+1,oM,by go_num,by first|rfl|trivial,hJ'⟩
      case measure=>simp [ZG];omega
     ·have d:ZH ((60:Int)<(m:Int))=true:=by simp;omega
      go_wp2;go_ret;exact⟨by rw [<- hR2.out,fZ _ joint j l hl'.out (by rw [hm];simpa using h60)];rfl,hBW⟩
    ·have hall:Hid (R=true):=Aa (by have:=hJ.out;rw [show j=N from by omega,<- hN.out,Dx] at this;exact hR2.out.symm.trans this);go_wp2;go_roundw;case rel=>exact⟨1,oM,by go_num,Aa hBW,fun _=>hall⟩
     case measure=>simp [ZG]
  ·have hT:=(hI rfl).out;subst hT;go_wp2;go_ret;exact⟨rfl,hBr.out⟩
end Go.Proofs.YthapckjpmkkkpaaGreatDoor
namespace CH
section
def own (a:Int) (l:List Version):List Version:=l.filter fun v=>v.authority==a
theorem Pg {β:Type} (p:Int × Int):∀ (l m:List ((Int × Int) × β)),bI p (l++m)=(bI p l).or (bI p m)
 |[],_=>rfl
 |(q,x)::l,m=>by
  rw [Dq,bI,bI]
  split
  ·rfl
  ·exact Pg p l m
end
section
open Go.Sort
variable {msg:Version->Str} {chk:Version->Str->Bool} {keys:List Str} {known known':Known}
def Aa7 (x y:Version):Prop:=x.pos<y.pos\/x.pos=y.pos/\Md x y
theorem Oe (msg:Version->Str) (known:Known) (n:Nat):(versions msg known n).Perm (aX msg known n) := dS (I:=fun L=>L.Perm (aX msg known n)) (fun l m x y _ h=>(List.Perm.append_left l (List.Perm.swap x y m)).trans h) _ (List.Perm.refl _)
theorem Oh (hG:Good chk keys known) (n:Nat):(versions msg known n).Pairwise Aa7:=by
 have hs:=Rz (msg:=msg) hG n;have hp:=Y4 (msg:=msg) known n;have hf:∀ a:Int,(versions msg known n).Pairwise fun x y=>(x.authority==a)=true->(y.authority==a)=true->Md x y:=fun a=>by rw [<- List.pairwise_filter,hs.filter a];exact (Np hG n).filter _
 have hst:=hs.stable;generalize versions msg known n=L at *;rw [Ib] at hp hst ⊢;intro i j hi hj hij;have h1:=hp i j hi hj hij;by_cases e:L[i].pos=L[j].pos
 ·refine .inr ⟨e,?_⟩;have h2:=hst i j hi hj hij e;by_cases e2:L[i].authority=L[j].authority;·have h3:=hf L[i].authority;rw [Ib] at h3;exact h3 i j hi hj hij sM (by simp [e2])
  ·exact .inl oM
 ·exact .inl oM
theorem Vq (msg:Version->Str) (known:Known) (a:Int):∀ (f:Nat) (out:List Version) (h:Str) (last:Int),out <+: (follow msg known a f out h last).1
 |0,out,_,_=>List.prefix_refl out
 |f+1,out,h,last=>by
  rw [follow]
  split
  ·exact List.prefix_refl out
  ·split
   ·exact List.prefix_refl out
   ·exact (List.prefix_append out _).trans (Vq msg known a f _ _ _)
theorem Vs {a:Int} (hx:∀ n u,bI (a,n) known=some u->bI (a,n) known'=some u):∀ (f:Nat) (out:List Version) (h:Str) (last:Int),(follow msg known a f out h last).1 <+: (follow msg known' a f out h last).1
 |0,out,_,_=>List.prefix_refl out
 |f+1,out,h,last=>by
  have hp:=Vq msg known' a (f+1) out h last
  rw [follow]
  split
  ·exact hp
  ·rename_i v hv
   split
   ·exact hp
   ·rename_i hc
    rw [follow,hx _ _ hv]
    dsimp only
    rw [Ak hc]
    exact Vs hx f _ _ _
theorem Vy (hG:Good chk keys known') (hx:∀ a n u,bI (a,n) known=some u->bI (a,n) known'=some u):∀ n:Nat,(aX msg known' n).filter (fun u=>ZH (u.number<=((fol msg known u.authority).1.length:Int)))=aX msg known n
 |0=>rfl
 |n+1=>by
  unfold aX
  rw [Jd,Vy hG hx n]
  congr 1
  obtain⟨r,hr⟩:(fol msg known n).1 <+: (fol msg known' n).1:=Vs (hx n) 201 [] [] 0
  have ha:=Ob (msg:=msg) hG n
  have hn:=Ou (msg:=msg) hG n
  rw [<- hr] at ha hn ⊢
  rw [Jd,List.filter_eq_self.2 fun u hu=>?_,I9.2 fun u hu=>?_,Gw]
  ·obtain⟨j,hj⟩:=Gi.1 hu
   have h1:=hn ((fol msg known n).1.length+j) u (by rw [Et oM];simpa using hj)
   rw [ha u (Nu _ hu)]
   simp
   omega
  ·obtain⟨j,hj⟩:=Gi.1 hu
   have hlt:=(lS hj)
   have h1:=hn j u (by rw [Fv hlt];exact hj)
   rw [ha u (N7 _ hu)]
   simp
   omega
theorem nM (hG:Good chk keys known) (hG':Good chk keys known') (hx:∀ a n u,bI (a,n) known=some u->bI (a,n) known'=some u) (n:Nat):(versions msg known n).Sublist (versions msg known' n):=by
 have e:(versions msg known' n).filter (fun u=>ZH (u.number<=((fol msg known u.authority).1.length:Int)))=versions msg known n:=by
  refine List.Perm.eq_of_pairwise (le:=Aa7) (fun x y _ _ h1 h2=>?_) ((Oh hG' n).filter _) (Oh hG n) ?_;·exfalso;unfold Aa7 Md at h1 h2;omega
  ·refine ((Oe msg known' n).filter _).trans ?_;rw [Vy hG' hx];exact (Oe msg known n).symm
 rw [<- e];exact List.filter_sublist
theorem rM {forks:Forks} {v:Version} (h:(fB chk keys known forks v).1≠0):(fB chk keys known forks v).2.1=known:=by
 unfold fB at h ⊢;split;·rfl
 ·split;·rfl
  ·split;·rfl
   ·split;·rename_i hl;simp_all
    ·split <;> rfl
theorem uX {forks:Forks} {v:Version} {p:Int × Int} {u:Version} (h:bI p known=some u):bI p (fB chk keys known forks v).2.1=some u := Oy (P:=fun r=>bI p r.2.1=some u) chk keys known forks v (fun _ _=>h) fun _ _ _ _ _=>by dsimp only;rw [Pg,h];rfl
theorem rO {forks:Forks} {v:Version} (h:(fB chk keys known forks v).1≠17):(fB chk keys known forks v).2.2=forks:=by
 unfold fB at h ⊢;split;·rfl
 ·split;·rfl
  ·split;·rfl
   ·split;·rfl
    ·split;·rfl
     ·simp_all
structure oq (chk:Version->Str->Bool) (keys:List Str) (p:Int × Int) (a b:Version):Prop where
 a1:(a.authority,a.number)=p
 b1:(b.authority,b.number)=p
 lo:0<=p.1
 hi:p.1<keys.length
 ca:chk a (keys.getD p.1.toNat [])=true
 cb:chk b (keys.getD p.1.toNat [])=true
 ne:(bare a).getD []≠(bare b).getD []
theorem Aaj (hG:Good chk keys known) {forks:Forks} (hF:∀ p a b,(p,(a,b))∈forks->oq chk keys p a b) (v:Version):∀ p a b,(p,(a,b))∈(fB chk keys known forks v).2.2->oq chk keys p a b:=by
 unfold fB;split;·exact hF
 ·rename_i t ht;split;·exact hF
  ·rename_i hau;split;·exact hF
   ·rename_i hc;split;·exact hF
    ·rename_i old hl;split;·exact hF
     ·rename_i hb;intro p a b h;dsimp only at h;unfold iM at h;split at h
      ·rcases Dp.1 h with h|h;·exact hF p a b h
       ·cases Bz.1 h;have hm:=je hl;have hk:=hG.key _ _ hm;have h0:=hG.authority _ _ hm;have hc0:=hG.check _ _ hm;have ea:v.authority=old.authority:=congrArg Prod.fst hk;refine⟨hk.symm,rfl,?_,?_,?_,by simpa using hc,by simpa using hb⟩;·show 0<=v.authority;omega
        ·show v.authority<keys.length;omega
        ·show chk old (keys.getD v.authority.toNat [])=true;rw [ea];exact hc0
      ·exact hF p a b h
end
end CH
namespace Go.Proofs.YthapckjpmkkkpaaGreatDoor
section
open Go.Lib Go.Maps Go.Proofs.Tryz Go.RowKit Go.Shelf Go.Sort CH
section
open CH
variable {F:Fence} {n:Nat} {P:Program} {w w':ZB} {ops:Array Oper} {rest:List Oper} {o:Oper} {a:Act} {Q:Exit->Act->ZB->Prop} {v:ZC}
theorem Wg (hg:o.guard=none) (m:Operand) (t:ZJ) (hop:o.op=Op.range t m) (mv:ZC) (hm:a.eval m=mv) (hrun:(Instr.range t mv).run P w=.ok v w') (h:wpListIn F n P ops Q rest (a.put o.dst v) w'):wpListIn F n P ops Q (o::rest) a w:=by refine wpListIn_plain hg fun K' hK'=>?_;unfold Oper.wpIn;refine⟨by simp [Oper.about,hop],?_⟩;rw [Oper.semAt_plain F _ _ (by rw [hop];intro c hc';cases hc')];simp [execOp,hop,hm,hrun,Result.andThen];exact hK' _ _ h
theorem N3 (hg:o.guard=none) (it:Operand) (hop:o.op=Op.next it false) (iv:ZC) (hit:a.eval it=iv) (hrun:(Instr.next iv false o.type).run P w=.ok v w') (h:wpListIn F n P ops Q rest (a.put o.dst v) w'):wpListIn F n P ops Q (o::rest) a w:=by refine wpListIn_plain hg fun K' hK'=>?_;unfold Oper.wpIn;refine⟨by simp [Oper.about,hop],?_⟩;rw [Oper.semAt_plain F _ _ (by rw [hop];intro c hc';cases hc')];simp [execOp,hop,hit,hrun,Result.andThen];exact hK' _ _ h
end
def iQ (w:ZB) (r it:Nat) (kvs:List ((Int × Int) × ZC)) (done:List (Int × Int)):Prop := ∃ (es:Array MapEntry) (clock:Nat) (seen:Array Nat),w.heap[r]?=some (.map es clock)/\w.heap[it]?=some (.mapIter (some r) clock seen clock) /\ es.toList.map (fun e=>(e.key,e.val))=kvs.map (fun p=>(Bn p.1,p.2))/\(∀ x∈es.toList,x.born<clock)/\(es.toList.map (·.born)).Nodup /\ (∀ x∈es.toList,∀ p,x.key=Bn p->(seen.contains x.born=true↔p∈done))/\done.Nodup/\∀ p∈done,p∈kvs.map (·.1)
theorem U2 {p q:Int × Int} (h:Bn p=Bn q):p=q:=by obtain⟨a,b⟩:=p;obtain⟨c,d⟩:=q;simp only [Bn] at h;injection h with h;simp at h;exact Prod.ext h.1 h.2
theorem iQ.start {w:ZB} {r:Nat} {kvs:List ((Int × Int) × ZC)} (h:Co Bn r w kvs) {T E:ZJ} (hT:prog.underlying T=some (.map 87 E)) : ∃ w',(Instr.range T (.map (some r))).run prog w=.ok (.pointer (some ⟨w,0,none⟩)) w'/\iQ w' r w kvs []/\w.grownBy w' none:=by
 obtain⟨es,clock,hb,hes,hold,hnd⟩:=h;have hlt:r<w.heap.size:=(aZ hb)
 exact⟨_,run_range_map w T 87 E r es clock hT hb,⟨es,clock,#[],((MapKept.heap_alloc w _).2 r hlt).trans hb,(MapKept.heap_alloc w _).1,hes,hold,hnd,fun x _ p _=>by simp,sM,sM⟩,World.grownBy_alloc w _ none⟩
theorem iQ.kept {w w':ZB} {r it:Nat} {kvs:List ((Int × Int) × ZC)} {done:List (Int × Int)} {row:Option Nat} (h:iQ w r it kvs done) (hg:w.grownBy w' row) (h1:some r≠row) (h2:some it≠row):iQ w' r it kvs done:=by obtain⟨es,clock,seen,e1,e2,e3⟩:=h;exact⟨es,clock,seen,(hg.block r (aZ e1) h1).trans e1,(hg.block it (aZ e2) h2).trans e2,e3⟩
def kX (w:ZB) (r it:Nat):Nat :=
 match w.heap[r]?,w.heap[it]? with
 |some (.map es _),some (.mapIter _ _ seen _)=>(leftOf es seen).size
 |_,_=>0
theorem iQ.step {w:ZB} {r it:Nat} {kvs:List ((Int × Int) × ZC)} {done:List (Int × Int)} (h:iQ w r it kvs done) (hne:it≠r) (hk:(kvs.map (·.1)).Nodup) (ty:ZJ) : ((∀ p∈kvs.map (·.1),p∈done)/\(Instr.next (.pointer (some ⟨it,0,none⟩)) false ty).run prog w=.ok (.tuple #[.bool false]) w) \/ ∃ p x w',(p,x)∈kvs/\p ∉ done/\(Instr.next (.pointer (some ⟨it,0,none⟩)) false ty).run prog w=.ok (.tuple #[.bool true,Bn p,x]) w'/\iQ w' r it kvs (done++[p])/\w.grownBy w' (some it)/\kX w' r it<kX w r it /\ (Instr.entry (.pointer (some ⟨it,0,none⟩))).run prog w'=.ok (.tuple #[Bn p,x]) w':=by
 obtain⟨es,clock,seen,hb,hit,hes,hold,hnd,hsd,hdn,hsub⟩:=h;have hkv:∀ e∈es.toList,∃ p,(p,e.val)∈kvs/\e.key=Bn p:=fun e he=>by have:(e.key,e.val)∈kvs.map (fun p=>(Bn p.1,p.2)):=hes ▸ Ee.2 ⟨e,he,rfl⟩;obtain⟨⟨k,v⟩,hk',e1⟩:=Ee.1 this;simp only [Gp] at e1;exact⟨k,e1.2 ▸ hk',e1.1.symm⟩
 have hvk:∀ p∈kvs.map (·.1),∃ e∈es.toList,e.key=Bn p:=fun p hp=>by obtain⟨⟨k,v⟩,hk',rfl⟩:=Ee.1 hp;have:(Bn k,v)∈es.toList.map (fun e=>(e.key,e.val)):=hes ▸ Ee.2 ⟨(k,v),hk',rfl⟩;obtain⟨e,he,e1⟩:=Ee.1 this;simp only [Gp] at e1;exact⟨e,he,e1.1⟩
 rcases _root_.Go.run_next_at (P:=prog) w ty it r clock clock seen es clock hit hb hold nR with⟨h0,hrun⟩|⟨e,he,w1,hal,hrun⟩;·refine .inl ⟨fun p hp=>?_,hrun⟩;obtain⟨e,he,hek⟩:=hvk p hp;exact (hsd e he p hek).1 (all_seen es seen h0 e he)
 ·obtain⟨hem,hes'⟩:=Oc he;obtain⟨p,hp,hek⟩:=hkv e hem;have hpd:p ∉ done:=fun hd=>by have:=(hsd e hem p hek).2 hd;rw [hes'] at this;cases this
  have xq:w1.heap[it]?=some (.mapIter (some r) clock seen clock):=by rcases hal with rfl|rfl <;> exact hit
  have hr1:w1.heap[r]?=some (.map es clock):=by rcases hal with rfl|rfl <;> exact hb
  have hset:=MapKept.heap_set (o':=.mapIter (some r) clock (seen.push e.born) clock) xq;have hr2:(ChangeMaps.setBlock w1 it (.mapIter (some r) clock (seen.push e.born) clock)).heap[r]?=some (.map es clock):=(hset.2 r (fun e1=>hne e1.symm)).trans hr1;have hkeys:(es.toList.map (·.key)).Nodup:=by
   have e1:es.toList.map (·.key)=kvs.map (fun p=>Bn p.1):=by have:=congrArg (List.map Prod.fst) hes;simpa [Nh,Function.comp_def] using this
   rw [e1];have:kvs.map (fun p=>Bn p.1)=(kvs.map (·.1)).map Bn:=by simp [Nh,Function.comp_def]
   rw [this];unfold List.Nodup at hk ⊢;rw [List.pairwise_map];exact hk.imp fun hne' h'=>hne' (U2 h')
  have hinj:∀ x∈es.toList,x.key=e.key->x=e:=fun x hx hxe=>entry_eq_of_key (by unfold List.Nodup at hkeys;exact List.pairwise_map.1 hkeys) hx hem hxe;refine .inr ⟨p,e.val,_,hp,hpd,by rw [<- hek];exact hrun,⟨es,clock,seen.push e.born,hr2,hset.1,hes,hold,hnd,fun x hx q hq=>?_,?_,fun q hq=>?_⟩,?_,?_,?_⟩
  ·rw [contains_push,Dw,hsd x hx q hq,Dp,Bz];refine or_congr_right ⟨fun hbb=>?_,fun hqp=>?_⟩;·have:=born_inj hnd hx hem (Dl.1 hbb);subst this;exact U2 (hq.symm.trans hek)
   ·subst hqp;rw [hinj x hx (hq.trans hek.symm)];exact beq_self_eq_true _
  ·rw [Jk];refine⟨hdn,sM,fun a ha b hb' e1=>?_⟩;rw [Bz] at hb';subst hb';subst e1;exact hpd ha
  ·rcases Dp.1 hq with h1|h1;·exact hsub q h1
   ·rw [Bz] at h1;subst h1;exact Ee.2 ⟨_,hp,rfl⟩
  ·rcases hal with rfl|rfl <;> exact⟨rfl,rfl,rfl,by simp [ChangeMaps.setBlock],fun i _ hi=>hset.2 i (fun e1=>hi (by rw [e1]))⟩
  ·have e1:kX (ChangeMaps.setBlock w1 it (.mapIter (some r) clock (seen.push e.born) clock)) r it=(leftOf es (seen.push e.born)).size:=by have hs1:(ChangeMaps.setBlock w1 it (.mapIter (some r) clock (seen.push e.born) clock)).heap[it]?=_:=hset.1;unfold kX;rw [hr2,hs1]
   have e2:kX w r it=(leftOf es seen).size:=by unfold kX;rw [hb,hit]
   rw [e1,e2];exact left_shrinks es seen e he
  ·rw [<- hek];exact _root_.Go.run_entry_at (P:=prog) _ it r clock seen es clock e hset.1 hr2 hem hnd
def G64 (kvs:List ((Int × Int) × ZC)) (ps:List (Int × Int)):Prop:=ps.Nodup/\∀ p,p∈ps↔p∈kvs.map (·.1)
def Lot (kvs:List ((Int × Int) × ZC)) (ps:List (Int × Int)):Prop:=ps.Nodup/\∀ p∈ps,p∈kvs.map (·.1)
theorem iQ.walks {w w':ZB} {r it:Nat} {kvs:List ((Int × Int) × ZC)} {done:List (Int × Int)} (h:iQ w r it kvs done) (hk:KeepsWalks w w'):iQ w' r it kvs done/\kX w' r it=kX w r it:=by obtain⟨es,clock,seen,e1,e2,e3⟩:=h;have f1:=hk.same _ _ e1 rfl;have f2:=hk.same _ _ e2 rfl;exact⟨⟨es,clock,seen,f1,f2,e3⟩,by simp only [kX,e1,e2,f1,f2]⟩
theorem iQ.nodup {w:ZB} {r it:Nat} {kvs:List ((Int × Int) × ZC)} {done:List (Int × Int)} (h:iQ w r it kvs done):done.Nodup/\∀ p∈done,p∈kvs.map (·.1):=by obtain⟨_,_,_,_,_,_,_,_,_,h1,h2⟩:=h;exact⟨h1,h2⟩
theorem iQ.walk {w:ZB} {r it:Nat} {kvs:List ((Int × Int) × ZC)} {done:List (Int × Int)} (h:iQ w r it kvs done):∃ o:Obj,w.heap[it]?=some o/\o.isWalk=true:=by obtain⟨_,_,_,_,e2,_⟩:=h;exact⟨_,e2,rfl⟩
theorem Tp {α:Type} [BEq α] [LawfulBEq α]:∀ (l m:List α),l.Nodup->(∀ x∈l,x∈m)->l.length<=m.length
 |[],_,_,_=>Bg _
 |a::l,m,hn,hs=>by
  rw [Lu] at hn
  have ha:=hs a sM
  have h1:=Tp l (m.erase a) hn.2 (fun x hx=>(List.mem_erase_of_ne (fun e=>by subst e;exact hn.1 hx)).2 (hs x (by simp [hx])))
  rw [List.length_erase_of_mem ha] at h1
  have:=Ku ha
  rw [Ar]
  omega
theorem Qf {w w':ZB} (h:Below w w w'):KeepsWalks w w':=⟨h.size,fun k o hk _=>(h.block k (aZ hk)).trans hk⟩
theorem V0 {w w':ZB} (h:Below w w w'):w.grownBy w' none:=⟨h.os,h.tape,h.output,h.size,fun k hk _=>h.block k hk⟩
theorem Ch7 (F:Fence) (n:Nat) (h10:F.fn 123) (hro:F.round=none) (hn:1<=n) (Bm r:Nat) (kvs:List ((Int × Int) × ZC)) (w:ZB) (hBm:Bm<w.heap.size) (hm:w.cell? ⟨Bm,0,none⟩=some (.map (some r))) (hmap:Co Bn r w kvs) (hk:(kvs.map (·.1)).Nodup) : SeqStopsK F n prog 123 #[.pointer (some ⟨Bm,0,none⟩)] (fun p=>#[Bn p]) KeepsWalks (G64 kvs) (Lot kvs) kvs.length w:=fun l J Jx W hW hJ _ hY h0=>by
 have hm:=(hW.cell (p:=⟨Bm,0,none⟩) hBm).trans hm;have hmap:=hmap.below hW;obtain⟨w0,hrun0,hit0,hg0⟩:=iQ.start hmap underlying76;have hne:W.heap.size≠r:=fun e=>by have:=hmap.lt;omega
 refine Nq func123 rfl h10 ?_ hro;simp only [ntmps123,Hu,Ar,Bo,Nat.reduceAdd,Nat.reduceSub,Hq,Ho,Ia,Ht,Dn,Dq];gi_wp2_with (first |(gi_at_range;refine Wg rfl _ 76 rfl _ rfl hrun0 ?_) |gi_in)
 gi_loopw [3] (fun _ wr=>∃ done,iQ wr r W kvs done/\J done wr) (fun _ wr=>kX wr r W);case atStart=>exact⟨[],hit0,hJ [] W w0 none h0 hg0 (fun r e=>by cases e)⟩
 case round =>
  obtain⟨done,hit,hJs⟩:=hrel;rcases hit.step hne hk 0 with⟨hall,hrun⟩|⟨p,x,w2,hp,hpd,hrun,hit2,hg2,hlt,hen⟩
  ·gi_wp2_with (first|(gi_at_next;refine N3 rfl _ rfl _ rfl hrun ?_)|gi_in)
   go_end0;exact⟨⟨_,rfl⟩,.inl ⟨done,⟨hit.nodup.1,fun p=>⟨hit.nodup.2 p,hall p⟩⟩,hJs⟩⟩
  ·obtain⟨p1,p2⟩:=p;dsimp only [Bn] at hrun hen;have hJ2:J done w2:=hJ done wr w2 (some W.heap.size) hJs hg2 (fun r e=>by cases e;exact⟨Bv _,hit.walk⟩);have hlen:done.length<kvs.length:=by have:=Tp _ _ hit2.nodup.1 hit2.nodup.2;simp at this;omega
   have hb3:Below w2 w2 (w2.alloc (.cells #[↑p1,↑p2] 87)):=(Ac _ w2).alloc nR _;have hJ3:=hJ done w2 _ none hJ2 (V0 hb3) (fun r e=>by cases e);obtain⟨hit3,hl3⟩:=hit2.walks (Qf hb3);obtain⟨fn,tmps,assign,body,hy,hR⟩:=hY done (p1,p2) _ hJ3 hlen;dsimp only [Bn] at hy;clear hb3 hJ3;gi_wp2_with (first|(gi_at_next;refine N3 rfl _ rfl _ rfl hrun ?_)|gi_in)
   refine hR.mono ?_;rintro e W4 (⟨rfl,hJ4,hk4⟩|⟨rfl,xZ⟩)
   ·obtain⟨FD,hl4⟩:=hit3.walks hk4;gi_wp2;go_roundw;case rel=>exact⟨done++[(p1,p2)],FD,hJ4⟩
    case measure=>rw [hl4,hl3];exact hlt
   ·gi_wp2;refine Au (Nv rfl _ _ _) rfl ?_;exact⟨⟨_,rfl⟩,.inr ⟨done++[(p1,p2)],hit2.nodup,xZ⟩⟩
end
end Go.Proofs.YthapckjpmkkkpaaGreatDoor
