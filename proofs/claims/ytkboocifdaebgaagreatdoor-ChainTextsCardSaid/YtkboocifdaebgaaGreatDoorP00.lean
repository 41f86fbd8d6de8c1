/- ChainTexts, part 1 of 31. -/
import Derived.Test.YtkboocifdaebgaaGreatDoorProg
import Derived.WalkKit
import Derived.Deep.RegionHeld3
import Derived.Deep.WholeRow
import Derived.Lib.QuietBelow
import Derived.Lib.Hide
set_option linter.all false
set_option maxHeartbeats 40000000
set_option maxRecDepth 100000
abbrev Q00:=List UInt8
section
variable {P:Prop}
theorem kR (h:P:=by kernel_rfl):P:=h
theorem oM (h:P:=by omega):P:=h
theorem sM (h:P:=by simp):P:=h
theorem dC (h:P:=by decide):P:=h
theorem rF (h:P:=by rfl):P:=h
theorem FD0 (h:P:=by
 obtain⟨a,cap,rfl,hl,hcap,hne⟩:=hv;obtain⟨a',cap',rfl,hl',hcap',hne'⟩:=hv';rcases N4 ls.length ls'.length with hN|⟨h1,h2⟩;rotate_left;·obtain rfl:R=false:=Bool.eq_false_iff.2 fun h=>h2 (congrArg List.length (hR.1 h));clear hne hne' hR;generalize ls.length=N at *;generalize ls'.length=M at *;exact FD64
 obtain⟨N,hn⟩:=naa ls.length;rw [<- hN] at hl' ⊢;rw [hn] at hN hl hl' ⊢;replace hne:=Aa hne;replace hne':=Aa hne';replace hN:=Aa hN;replace hn:=Aa hn;replace hR:=Aa hR;go_in;go_wp2_with fail;go_loopw [5] (fun i wr=>∃ k:Nat,k<=N/\i=↑k/\Hid (R=true↔ls.drop k=ls'.drop k)/\Hid (Below w w wr)) (fun i _=>N - (ZG i).toNat);case atStart=>exact⟨0,Ak _,rfl,hR,Aa (Ac _ _)⟩
 case round =>
  obtain⟨k,hk,rfl,hQ,hBr⟩:=hrel;by_cases hlt:k<N
  ·obtain⟨b,off,rfl,hbl,kj⟩:=hne.out (by intro h;have:=hn.out;simp [h] at this;omega);obtain⟨b',off',rfl,iK,hcells'⟩:=hne'.out (by intro h;have:=hN.out;simp [h] at this;omega);obtain⟨l,hg⟩:∃ l,ls[k]?=some l:=⟨_,Ae (by rw [hn.out];exact hlt)⟩
   obtain⟨l',hg'⟩:∃ l,ls'[k]?=some l:=⟨_,Ae (by rw [<- hN.out];exact hlt)⟩
   have e1:wr.cell? ⟨b,off+k,none⟩=some ↑l:=(hBr.out.cell (p:=⟨b,off+k,none⟩) hbl).trans (kj k l hg);have e2:wr.cell? ⟨b',off'+k,none⟩=some ↑l':=(hBr.out.cell (p:=⟨b',off'+k,none⟩) iK).trans (hcells' k l' hg');have hcase:=Ve hQ.out hg hg';clear kj hcells' hg hg' hQ;have z0:(0:Int)<=(k:Int):=oM;have zk:((k:Int)).toNat=k:=oM;have hk':(k:Int)<(N:Int):=oM;have g1:∀ (d:Nat) (os:Array Obj),(grow (ZI wr d) os).cell? ⟨b,off+k,none⟩=some ↑l:=A8 e1;have g2:∀ (d:Nat) (os:Array Obj),(grow (ZI wr d) os).cell? ⟨b',off'+k,none⟩=some ↑l':=A8 e2;rcases hcase with⟨rfl,hQ2⟩|⟨n1,n2,n3,n4,rfl⟩;all_goals
    go_wp2_with fail;refine Bh kR kR ?_;repeat (quiet_step (fail))
    refine D8 ?_;intro wq hbq;replace hbq:=Ay hbq;clear g1 g2;have hB2:Hid (Below w w wq):=Aa (hBr.out.trans (hbq.mono hBr.out.size));clear hbq e1 e2;go_wp2
   ·go_roundw;case rel=>exact⟨k+1,oM,by go_num,hQ2,hB2⟩
    case measure=>simp [ZG];omega
   ·go_ret;exact⟨rfl,hB2.out⟩
  ·exact FD94):P:=h
theorem FD1 (h:P:=by
 obtain⟨x,hx⟩:∃ x,c.entry.names[j]?=some x:=⟨_,Ae (by rw [hN];omega)⟩
 obtain⟨a',c',e',_,_,hcs⟩:=hv;injection e' with ea eb ec;clear eb;subst ea ec;obtain⟨bb,off,rfl,hblt,hcs⟩:=hcs (fun e=>by rw [e] at hN;simp at hN;omega);obtain⟨vw,d1,d2,d3⟩:=hcs j x hx;have e1:=(hBw.cell (p:=⟨bb,off+j*2,none⟩) hblt).trans d1;have e2:=(hBw.cell (p:=⟨bb,off+j*2+1,none⟩) hblt).trans d2;have hmem:x∈c.entry.names:=Bg hx;have NT:=Aa fun (W:ZB) (hb:Below w w W)=>N5 [aI x.script,vw] x W (hG.below hb) ⟨vw,rfl,(d3.below hb nR).mono hb.size⟩ (hS.entry.names x hmem) (M7 hok x hmem);have htl:=Mn x (hS.entry.names x hmem);have hts:Hid ((c.entry.names.take (j+1)).map Bu=(c.entry.names.take j).map Bu++[[34]++bD x++[34]]):=Aa (by rw [aN _ j x hx];simp [Bu]);obtain⟨aw,cw,rfl,_,_⟩:=d3.form;generalize x.words.length=xn at *;generalize bD x=T at *;have ht0:((c.entry.names.take j).map Bu).length<=8:=naf;replace hBw:=Aa hBw;clear hcs d1 d2 d3 hmem hx;have l1:¬ (9223372036854775807<1+T.length):=oM;have l2:¬ (9223372036854775807<1+T.length+1):=oM;clear htl;go_wp2_with fail;refine (NT.out _ (hBw.out.alloc hBw.out.size _)).mono ?_;rintro e w5 ⟨rfl,hb5⟩;have hA5:=Aa ((hA4.out.alloc _).below hb5);have hB5:Hid (Below w1 w1 w5):=Aa ((hB4.out.alloc hB4.out.size _).trans (hb5.mono (by simp;have:=hB4.out.size;omega)));clear NT hb5 e1 e2;go_wp2_with fail;rw [show (⟨#[34]⟩:ByteArray)++⟨T.toArray⟩++⟨#[34]⟩=⟨([34]++T++[34]).toArray⟩ from by rw [<- A5,<- A5]];refine (K8 _ [[34]++T++[34]] (pre++(c.entry.names.take j).map Bu) w1.heap.size P _ _ (hA5.out.alloc _) (Nx w5 [[34]++T++[34]] sM).strs (by rw [Am];simp only [Ap,Bf];omega)).mono ?_;rintro e w6 ⟨rfl,hA6,hb6,hs6⟩;have hA6:Hid (Cw w1 P w6 (pre++(c.entry.names.take (j+1)).map Bu)):=Aa (by rw [hts.out,<- Dk];exact hA6);have hB6:Hid (Below w1 w1 w6):=Aa ((hB5.out.alloc hB5.out.size _).trans hb6);clear hA5 hB5 hb6 hA4 hB4;go_wp2;go_roundw;case rel=>exact⟨j+1,oM,by go_num,hA6,hB6⟩
 case measure=>simp [ZG];omega):P:=h
theorem FD2 (h:P:=by
 have iF:KT=[40]++T++[41]:=hkP.out (by rw [hpar.out];rfl);replace iF:=Aa iF;clear hkP hkB hpar hKT;go_wp2_with (at_builtin;refine Cs rfl _ _ rfl (w+1) _ L rfl (hO2.out.alloc _) w2.heap.size 1 ([40]++T++[41]) rfl ?c1 ?c2 ?c3 ?_)
 case c1=>rw [Ci _ _ _ _ rfl];show some (Value.string ((⟨[40].toArray⟩:ByteArray)++⟨T.toArray⟩++⟨[41].toArray⟩))=_;rw [A5,A5]
 case c2=>rw [hLl.out];omega
 case c3=>simp;omega
 intro v3 w3 hO3 hg3 _;obtain⟨hO4,hB4⟩:=STEP.out v3 w3 _ (by rw [iF.out];exact hO3) hg3;exact FD85):P:=h
theorem FD3 (h:P:=by
 obtain⟨k,hk,rfl,hI,hBr,hJ⟩:=hrel;have hBw:Below w w wr:=hB1.trans (hBr.out.mono hB1.size);by_cases hlt:k<N
 ·obtain⟨b,off,rfl,hbl,kj⟩:=HA3.out (by intro h;have:=HN.out;simp [h] at this;omega);obtain⟨x,hx⟩:∃ x,v.acts[k]?=some x:=⟨_,Ae (by rw [HN.out];exact hlt)⟩
  obtain⟨sx,hc,hat⟩:=kj k x hx;have hrg:wr.rangeAt b (off+k*37) (A4 x sx):=fun j u hj=>(hBw.cell (p:=⟨b,off+k*37+j,none⟩) hbl).trans (hc j u hj);have hlen:(prog.info? 64).map (·.size)=some (A4 x sx).length:=kR;have h1c:=Aa (Vq hat);have hlenA:(A4 x sx).length=37:=rfl;have T:=Aa fun o=>AT x sx (wr.alloc o) (hG.below (hBw.alloc hBw.size o)) ((hat.below (hBw.alloc hBw.size o) nR).mono (hBw.alloc hBw.size o).size);obtain⟨t,ht⟩:=naa (aY x);have hle:∀ y,t=some y->y.length<=100000100:=fun y hy=>Zs (ht.trans hy) hat;rw [ht] at T;have ht:=Aa ht;have hx:=Aa hx;clear kj hc hat;generalize A4 x sx=C at *;have hn1:=Aa (C8 wr C 64);have hrg:=Aa hrg;go_wp2_with (first|refine Dn rfl 64 _ rfl b (off+k*37) rfl C _ hrg.out underlying64 rfl hlen ?_|refine Br rfl 64 _ _ rfl C rfl rfl (by rw [hlenA];rfl) hlen h1c.out ?_|refine Dn rfl 64 _ rfl wr 0 rfl C _ hn1.out underlying64 rfl hlen ?_)
  refine (T.out _).mono ?_;rintro e w4 ⟨rfl,hb4⟩;clear T hrg hn1 h1c hlenA hlen;have hba:=hBr.out.alloc hBr.out.size (.cells C.toArray 64);have hB4:Below W1 W1 w4:=hba.trans (hb4.mono hba.size);cases t with
  |none =>dsimp only [bI];go_wp2;go_ret2;refine⟨?_,hB1.trans (hB4.mono hB1.size)⟩;rw [<- hR3.out,Ow ht.out v.acts (Bg hx.out)];rfl
  |some t =>
   have hle:=hle t rfl;have hI4:Hid (Lib.IsBuilder 120 5 W1.heap.size W1 (ZL (WV++[10]++(v.acts.take k).flatMap Cv)) w4):=Aa (Dr (Dr hI.out ((Ac _ wr).alloc nR _)) hb4);have hl8:¬ (9223372036854775807<t.length+1):=oM;have htl:=Qn (l:=v.acts.take k) fun y hy=>HA.out.acts y (Hq hy);have htk:(v.acts.take k).length<=40:=by rw [C9,HN.out];have:=Il h7;omega
   have htl:Hid (((v.acts.take k).flatMap Cv).length<=4000004040):=Aa (by have:=Ec 100000101 htk;omega);have BW:=Aa fun (sb:ByteArray) (hsb:sb.size<=200000000)=>Fc W1 W1 _ sb w4 hI4.out (by have:=hl.out;have:=htl.out;simp only [ZL,Ce,Am,Dq];omega) hB4.size;have hfs:=Aa (Cvh Cv v.acts k x hx.out);have EW:=Aa (Up ht.out);have hJ':Hid (∀ y∈v.acts.take (k+1),(aY y).isSome=true):=Aa (by
    intro y hy;rw [aN v.acts k x hx.out] at hy;rcases Bz.1 hy with hy|hy;·exact hJ.out y hy
    ·cases Ad.1 hy;rw [ht.out];rfl)
   clear htk hb4;dsimp only [bI];go_wp2_with fail;refine (BW.out _ (by simp [Je];simp [ByteArray.size];omega)).mono ?_;rintro e w5 ⟨rfl,hI5,hb5⟩;have hI5:Hid (Lib.IsBuilder 120 5 W1.heap.size W1 (ZL (WV++[10]++(v.acts.take (k+1)).flatMap Cv)) w5):=Aa (.inr (by
    have e:ZL (WV++[10]++(v.acts.take (k+1)).flatMap Cv)=ZL (WV++[10]++(v.acts.take k).flatMap Cv)++Lib.strCells (⟨t.toArray⟩++⟨#[10]⟩):=by rw [hfs.out,EW.out];simp [ZL,Lib.strCells,A5 t [10]]
    rw [e];exact hI5))
   have hB5:Hid (Below W1 W1 w5):=Aa (hB4.trans hb5);clear BW hb5;go_wp2;go_roundw;case rel=>exact⟨k+1,oM,by go_num,hI5,hB5,hJ'⟩
   case measure=>simp [ZG];omega
 ·have hkN:k=N:=oM;subst hkN;have hI:=hI.out;have hJ:=hJ.out;rw [<- HN.out,D5] at hI hJ;have hR4:Hid (kY (some (WV++[10]++v.acts.flatMap Cv))=R):=Aa (by rw [<- hR3.out,On v.acts hJ];rfl);generalize WV++[10]++v.acts.flatMap Cv=FT at *;go_wp2_with fail;refine (Tryz.Builder_String_any _ _ _ _ hI hBr.out.size).mono ?_;rintro e w4 ⟨rfl,hb4⟩;go_wp2;go_ret2;exact⟨by rw [<- hR4.out];rfl,hBw.trans (hb4.mono hB1.size)⟩):P:=h
theorem FD4 (h:P:=by
 obtain⟨r,hr⟩:=naa (CH.ident s);rw [hr];unfold CH.ident at hr;rw [Di hs,a_Bool_true_and] at hr;replace hr:=Aa hr;have A:=Aa (Tr s w hs);go_in;go_wp2_with fail;refine A.out.mono ?_;clear A;rintro e w1 ⟨hb,hm⟩;cases hl:CH.lex s with
 |error x =>
  have hr':r=false:=by rw [<- hr.out,hl]
  clear hr;rw [hl] at hm;dsimp only at hm;subst hm;have hx:=Qo s x hl;have z0:=nal x.1 0;clear hl;exact FD45
 |ok ts =>
  rw [hl] at hm;obtain⟨v,rfl,hO⟩:=hm;obtain⟨av,cv,rfl,hc1,hc2⟩:=hO.form;replace hr:=Aa ((congrArg (fun x=>match x with|.ok [t]=>t.kind==1&&t.text==s|_=>false) hl).symm.trans hr.out);clear hl;rcases ts with _|⟨t,_|⟨t2,ts⟩⟩;·have hr':r=false:=hr.out.symm;clear hr hO;exact FD45
  ·obtain⟨g,rfl,k0,k3⟩:=hO.cellAt;have hsb:=Fr t.text s;by_cases hk:t.kind=1
   ·have z1:=nak t.kind 1;have hr':r=(t.text==s):=by rw [<- hr.out];show (t.kind==1&&t.text==s)=_;rw [Eh.2 hk];rfl
    clear hr;go_wp2;go_ret;exact⟨by rw [hr',<- hsb];rfl,hb⟩
   ·have z1:=nal t.kind 1;have hr':r=false:=by rw [<- hr.out];show (t.kind==1&&t.text==s)=_;rw [Dl.2 hk];rfl
    clear hr;exact FD45
  ·have z1:(((t::t2::ts).length:Int)==1)=false:=naf;generalize hn:(t::t2::ts).length=n at *;have hr':r=false:=hr.out.symm;clear hO hr;exact FD45):P:=h
theorem FD5 (h:P:=by
 subst e;go_wp2_with fail;refine (Hd c.pos X hp0 hp1 (hG.1.below (hB1.trans (hBX.mono hB1.size)))).mono ?_;rintro e w2 ⟨rfl,hb2⟩;have hA2:=hA.below hb2;have hB2:Below w1 w1 w2:=hBX.trans (hb2.mono hBX.size);go_wp2_with fail;refine (K8 _ [ZK c.pos] [kw,c.id] w1.heap.size P _ _ (hA2.alloc _) (Nx w2 [ZK c.pos] sM).strs sM).mono ?_;rintro e w3 ⟨rfl,hA3,hb3,hs3⟩;have hB3:Below w1 w1 w3:=(hB2.alloc hB2.size _).trans hb3;have m33:w3.cell? ⟨w,3,none⟩=some (.slice an N cn):=(hB3.cell (p:=⟨w,3,none⟩) hlt1).trans (Ab HB.out 3);obtain⟨pre,hpre⟩:=nae ([kw,c.id,ZK c.pos]);have hA3:Cw w1 P w3 pre:=by rw [hpre.out];exact hA3
 clear hA hA2 m0 m3 m4;have hNp:N<=8:=by rw [<- hN];exact G2 hok
 have hpl:pre.length<=3:=by rw [hpre.out];simp
 go_wp2_with fail;go_loopw [40] (fun iv wr=>∃ j:Nat,j<=N/\iv=↑j/\Hid (Cw w1 P wr (pre++(c.entry.names.take j).map Bu))/\Hid (Below w1 w1 wr)) (fun iv _=>N - (ZG iv).toNat);case atStart=>exact⟨0,Ak _,rfl,Aa (by simpa using hA3),Aa hB3⟩
 case round =>
  obtain⟨j,hj,rfl,hA4,hB4⟩:=hrel;have hBw:Below w w wr:=hB1.trans (hB4.out.mono hB1.size);by_cases hlt:j<N;·exact FD1
  ·obtain rfl:j=N:=oM;have htk:c.entry.names.take j=c.entry.names:=by rw [<- hN,D5]
   rw [htk] at hA4;clear htk;obtain⟨v,hv4,hO,_,_⟩:=hA4.out;obtain⟨av,cv,rfl,_,_,_⟩:=hO.form;have c11:wr.cell? ⟨P,0,none⟩=some (.slice av (pre++c.entry.names.map Bu).length cv):=Ab hv4 0;have hll:(pre++c.entry.names.map Bu).length<=11:=by rw [Am,Ce,hN];omega
   have hjl:=Mr c hok hS.entry.names pre hpl (by rw [hpre.out];exact .cons hkl.out (.cons zX.out (.one DV.out)));exact FD19):P:=h
theorem FD6 (h:P:=by
 subst e;obtain⟨pre,hpre⟩:=nae ([kw,c.id]);have hA3:Cw w1 P X pre:=by rw [hpre.out];exact hA
 have hB3:Below w1 w1 X:=hBX;clear hA m4;have hNp:N<=8:=by rw [<- hN];exact G2 hok
 have hpl:pre.length<=3:=by rw [hpre.out];simp
 go_wp2_with fail;go_loopw [40] (fun iv wr=>∃ j:Nat,j<=N/\iv=↑j/\Hid (Cw w1 P wr (pre++(c.entry.names.take j).map Bu))/\Hid (Below w1 w1 wr)) (fun iv _=>N - (ZG iv).toNat);case atStart=>exact⟨0,Ak _,rfl,Aa (by simpa using hA3),Aa hB3⟩
 case round =>
  obtain⟨j,hj,rfl,hA4,hB4⟩:=hrel;have hBw:Below w w wr:=hB1.trans (hB4.out.mono hB1.size);by_cases hlt:j<N;·exact FD1
  ·obtain rfl:j=N:=oM;have htk:c.entry.names.take j=c.entry.names:=by rw [<- hN,D5]
   rw [htk] at hA4;clear htk;obtain⟨v,hv4,hO,_,_⟩:=hA4.out;obtain⟨av,cv,rfl,_,_,_⟩:=hO.form;have c11:wr.cell? ⟨P,0,none⟩=some (.slice av (pre++c.entry.names.map Bu).length cv):=Ab hv4 0;have hll:(pre++c.entry.names.map Bu).length<=11:=by rw [Am,Ce,hN];omega
   have hjl:=Mr c hok hS.entry.names pre hpl (by rw [hpre.out];exact .cons hkl.out (.one zX.out));exact FD19):P:=h
theorem FD7 (h:P:=by
 go_in;go_wp2_with fail;refine (I.out _).mono ?_;rintro e w1 ⟨rfl,hb1⟩;have hB1:Below w w w1:=(hB0 _).trans (hb1.mono sM);have hblk:=(hb1.block w sM).trans (hW _);have hlt1:w.heap.size<w1.heap.size:=(aZ hblk)
 clear I hb1 hW hB0;have k0:w1.cell? ⟨w,0,none⟩=some ↑kd:=Ab hblk 0;have k1:w1.cell? ⟨w,1,none⟩=some ↑cid:=Ab hblk 1;have k2:w1.cell? ⟨w,2,none⟩=some ↑en.id:=Ab hblk 2;have k3:w1.cell? ⟨w,3,none⟩=some (.slice an N cn):=Ab hblk 3;have k4:w1.cell? ⟨w,4,none⟩=some ↑ps:=Ab hblk 4;clear E T;go_wp2;go_ret;exact⟨rfl,hB1⟩):P:=h
theorem FD8 (h:P:=by
 obtain⟨v,en,an,hpY,he,rfl⟩:=hPY;have hpl:=(aZ hpY)
 have p0:=Ab hpY 0;have p2:=Ab hpY 2;have p3:=Ab hpY 3;simp at p0 p2 p3;have z0:(en==0)=false:=by simpa using he
 have z1:(en != 0)=true:=by simpa using he
 obtain⟨x0,x1,x2,x3,x4⟩:=Bk gY;have xf:=Ao gY;have hzY:=(aZ gY)
 have H5:=Cd hzY (.int .i64 0) (.string ⟨#[]⟩) (.int .i64 0) (.int .i64 0) (.slice none 0 0);have S52:Hid (World.cell? (World.drew (sO Y w)) ⟨w1,2,none⟩=some ↑en):=Aa ((G4 _ _).trans <| (Dd (p:=⟨w1,2,none⟩) (H5.block w1 hpl naf)).trans p2);have q2:Hid (World.cell? (World.drew Y) ⟨w1,2,none⟩=some ↑en):=Aa ((G4 _ _).trans p2);have S53:Hid (World.cell? (World.drew (sO Y w)) ⟨w1,3,none⟩=some ↑an):=Aa ((G4 _ _).trans <| (Dd (p:=⟨w1,3,none⟩) (H5.block w1 hpl naf)).trans p3);have q3:Hid (World.cell? (World.drew Y) ⟨w1,3,none⟩=some ↑an):=Aa ((G4 _ _).trans p3);have hBq:=Aa (hBY.trans (H5.below (Dy hzY) (fun r hr=>by rw [Ad] at hr;omega)));have g5:=Aa (Cf (u0:=.int .i64 0) (u1:=.string ⟨#[]⟩) (u2:=.int .i64 0) (u3:=.int .i64 0) (u4:=.slice none 0 0) gY);clear H5 hpY gY hBY gF;go_wp2_with fail;exact FD24):P:=h
theorem FD9 (h:P:=by
 go_wp2_with fail;cases hi:CH.isName l.id with
 |false =>exact FD52
 |true =>have A:=A3.out w2;rw [hi] at A;replace A:=Aa A;clear A3;refine (A.out).mono ?_;rintro e w9 ⟨rfl,hw9⟩;rw [hw9];clear hw9 w9;clear A;clear W;go_wp2;go_ret;exact⟨by rw [<- hr.out];simp [aW,hi,HL.out],hB2⟩):P:=h
theorem FD10 (h:P:=by
 obtain⟨heg,hcall⟩:=hp;have HC:=Aa hcall;have HM:=Aa hm;clear hcall hm;obtain⟨a,cap,rfl,hl,hcap,hne⟩:=hv;go_in;go_wp2_with fail;go_loopw [8] (fun i wr=>∃ k:Nat,k<=ls.length/\i=↑k/\Hid ((ls.take k).any p=false)/\Below w w wr) (fun i _=>ls.length - (ZG i).toNat);case atStart=>exact⟨0,Ak _,rfl,rfl,Ac _ _⟩
 case round =>
  obtain⟨k,hk,rfl,hH,hb⟩:=hrel;by_cases hlt:k<ls.length
  ·obtain⟨b,off,rfl,hbl,kj⟩:=hne (by intro h;simp [h] at hlt);obtain⟨l,hl'⟩:∃ l,ls[k]?=some l:=⟨_,Ae hlt⟩
   have hcell:wr.cell? ⟨b,off+k,none⟩=some ↑l:=(hb.cell (p:=⟨b,off+k,none⟩) hbl).trans (kj k l hl');have hmem:l∈ls:=Bg hl';have HT:=Aa (Sm p ls k l hl');clear kj hl';go_wp2_with fail;refine (HC.out l _ (hG.below hb) (HM.out l hmem)).mono ?_;rintro e w1 ⟨rfl,hb1⟩;have hb1':=hb.trans (hb1.mono hb.size);rcases hpl:p l with _|_
   ·have HT':Hid ((ls.take (k+1)).any p=false):=by rw [HT.out,hH.out,hpl];exact rfl
    clear hpl;go_wp2;go_roundw;case rel=>exact⟨k+1,oM,by go_num,HT',hb1'⟩
    case measure=>simp [ZG];omega
   ·have hfin:ls.any p=true:=Jm.2 ⟨l,hmem,hpl⟩;have HF:=Aa hfin;clear hpl hfin;go_wp2;go_ret;exact⟨k,rfl,by rw [HF.out];simp,hb1'⟩
  ·have hfin:ls.any p=false:=by have:=hH.out;rwa [Dz oM] at this
   have HF:=Aa hfin;clear hfin hH hne;go_wp2;go_ret;exact⟨-1,rfl,by rw [HF.out];rfl,hb⟩):P:=h
theorem FD11 (h:P:=by
 obtain rfl:KT=T:=hkB.out (by rw [hpar.out];rfl);clear hkP hkB hpar hKT;go_wp2_with (at_builtin;refine Cs rfl _ _ rfl (w+1) _ L rfl (hO2.out.alloc _) w2.heap.size 1 KT rfl ?c1 ?c2 ?c3 ?_)
 case c1=>rw [Ci _ _ _ _ rfl];rfl
 case c2=>rw [hLl.out];omega
 case c3=>simp;omega
 intro v3 w3 hO3 hg3 _;obtain⟨hO4,hB4⟩:=STEP.out v3 w3 _ hO3 hg3;exact FD85):P:=h
theorem FD12 (h:P:=by
 have hpl:=Y6 hW;obtain⟨v,hv,hO,hne,hbp⟩:=hW;obtain⟨av,cv,rfl,hf1,hf2,_⟩:=hO.form;have hblk:=R7 hO;have c0:w.cell? ⟨p,0,none⟩=some (.slice av ls.length cv):=Ab hv 0;obtain⟨ax,cx,rfl,_,_⟩:=hX.form;generalize hN:ls.length=N at *;generalize hM:lx.length=M at *;go_in;go_wp2_with (refine R6 rfl _ _ rfl base _ ls rfl hO B _ lx rfl hX oM oM ?_;intro v5 w5 hO5 hg5 h45;have hn5:v5.ownBlock≠some p:=h45.elim (fun h=>(by rw [h];exact hne)) (fun h e=>(by rw [h] at e;injection e;omega));clear h45;obtain⟨a5,c5,rfl,hf5⟩:=hO5.form;have hp5:=(hg5.block p hpl (fun e=>hne e.symm)).trans hv;have c5':w5.cell? ⟨p,0,none⟩=some (.slice av N cv):=Ab hp5 0;have f5':w5.frozen? ⟨p,0,none⟩=false:=Ao hp5 0)
 go_end0;have y0:=Al w5 p 0 (.slice a5 (ls++lx).length c5) _ _ _ hp5;simp only [List.setIfInBounds_toArray,List.set_cons_zero] at y0;have e1:(ls++lx).length=N+M:=by simp [hN,hM]
 refine⟨rfl,⟨_,?_,Kq hO5 (Ks w5 ⟨p,0,none⟩ _) (.inr hn5),hn5,hbp⟩,?_,?_⟩;·simpa [e1] using y0
 ·exact (((Ac base w).grown hg5 oM (fun k e=>hblk k e))).setCell (p:=⟨p,0,none⟩) hbp _
 ·simp [World.setCell];exact hg5.size):P:=h
theorem FD13 (h:P:=by
 refine Bh kR kR ?_;repeat (quiet_step (first|exact r1 _ _|exact r2 _ _))
 refine D8 ?_;intro wq hbq;replace hbq:=Ay hbq;go_wp2_with fail;exact⟨_,J7 rfl _ _ _,by rw [HF.out];rfl,hB0 _ hbq⟩):P:=h
theorem FD14 (h:P:=by
 go_wp2;refine Gk (r:=r) (cells:=[.int .i64 0,.int .i64 0,.int .i64 0,.string ⟨#[]⟩]) ?_ hth ?_ hbb nR (Aa ?_) <;> try rfl
 rw [<- hr.out,Hn.out];rfl):P:=h
theorem FD15 (h:P:=by go_wp2_with fail;refine⟨sM,.inl ⟨_,_,rfl,run_takeDeferred (ds:=[]) hdef,?_⟩⟩;exact⟨_,Bc rfl _ _ _,_,rfl,hbD⟩):P:=h
theorem FD16 (h:P:=by
 refine Bh kR kR ?_;repeat (quiet_step (first|exact Dp (cT _ (Ea _ _ _))|exact Dp (cJ _ (Ea _ _ _))))
 refine D8 ?_;intro wq hbq;replace hbq:=Ay hbq;clear cT cJ g0 g1;go_wp2;go_ret2;refine⟨?_,hB1.trans (hbq.mono hB1.size)⟩;rw [<- hres'.out,<- A5,<- A5];rfl):P:=h
theorem FD17 (h:P:=by obtain⟨a,cap,h1,h2,h3,h4⟩:=h;refine⟨a,cap,h1,h2,h3,fun hne=>?_⟩;obtain⟨b,off,e,hlt,hx⟩:=h4 hne;refine⟨b,off,e,Af hlt hB,fun j x hj=>?_⟩;obtain⟨s,c1,c2⟩:=hx j x hj;exact⟨s,c1,c2.mono hB⟩):P:=h
theorem FD18 (h:P:=by rw [hb] at A;replace A:=Aa A;go_in;go_wp2_with fail;refine A.out.mono ?_;rintro e w9 ⟨rfl,hw9⟩;rw [hw9];clear A hw9 w9;clear I;go_wp2;go_ret;exact⟨by rw [<- hr.out];simp only [CH.slen,hb];rfl,Ac _ _⟩):P:=h
theorem FD19 (h:P:=by have J:=Aa (Mq _ (pre++c.entry.names.map Bu) [32] wr hO.strs oM oM);have hRf:Hid (r=bI (some (CH.join [32] (pre++c.entry.names.map Bu)++[59]))):=Aa (by rw [<- hr.out,hpre.out,<- hkw.out,hkn];unfold bH;rw [hok,hkn];rfl);generalize CH.join [32] (pre++c.entry.names.map Bu)=JJ at *;generalize (pre++c.entry.names.map Bu).length=LL at *;have l1:¬ (9223372036854775807<JJ.length+1):=oM;clear hjl;clear hO hv4 hA4;go_wp2_with fail;refine J.out.mono ?_;rintro e w7 ⟨rfl,hb7⟩;clear J c11;go_wp2;go_ret2;refine⟨?_,hBw.trans (hb7.mono hBw.size)⟩;rw [hRf.out];unfold bI;dsimp only;rw [<- A5];rfl):P:=h
theorem FD20 (h:P:=by
 rw [hr.out];by_cases h0:0<=n
 ·have d0:ZH (0<=n)=true:=by simpa using h0
  exact FD118
 ·have d0:ZH (0<=n)=false:=by simpa using h0
  exact FD118):P:=h
theorem FD21 (h:P:=by have hd:=h.dfr;obtain⟨t,d⟩:=a;dsimp only at hd;subst hd;exact congrArg (fun x=>({ tmps:=x,defers:=[] }:Act)) e):P:=h
theorem FD22 (h:P:=by
 subst hwm;rcases (by cases b1 <;> cases b2 <;> cases b3 <;> simp:(b1=true)\/(b1=false/\b2=false)\/(b1=false/\b2=true/\b3=false)\/(b1=false/\b2=true/\b3=true)) with rfl|⟨rfl,rfl⟩|⟨rfl,rfl,rfl⟩|⟨rfl,rfl,rfl⟩;all_goals rcases (by cases b4 <;> cases b5 <;> cases b6 <;> simp:(b4=false)\/(b4=true/\b5=false)\/(b4=true/\b5=true/\b6=false)\/(b4=true/\b5=true/\b6=true)) with rfl|⟨rfl,rfl⟩|⟨rfl,rfl,rfl⟩|⟨rfl,rfl,rfl⟩
 all_goals go_wp2;go_ret;exact⟨by rw [<- hr'.out];rfl,(Ac _ w).alloc nR _⟩):P:=h
theorem FD23 (h:P:=by have hO4:Hid (Av w w3 v3 ((ws.take (k+1)).flatMap CH.Word.texts)):=Aa (by rw [hts.out];exact hO3);have hB4:Hid (Below w w w3):=Aa (((hB2).alloc oM _).grown hg3 naf (fun j hj=>(Ih hO2 j hj).1));have wB:Hid (((ws.take (k+1)).flatMap CH.Word.texts).length<=(k+1)*5000):=Aa (by rw [hts.out,Am,Dq];have h9:=hLe.out;omega);exact FD46):P:=h
theorem FD24 (h:P:=by go_region_held3 (fun W'=>W'.cell? ⟨w1,2,none⟩=some ↑en/\W'.cell? ⟨w1,3,none⟩=some ↑an) (first|with_reducible exact⟨q2.out,q3.out⟩|with_reducible exact⟨p2,p3⟩|exact⟨S52.out,S53.out⟩) (fail);go_wp2;exact P0 58 w.heap.size (An ji (.slice none 0 0)).toList rfl rfl ((Xd _ _).trans g5.out) underlying58 rfl kR ⟨hBq.out.trans (T8 _ _),ji,_,en,an,rfl,Wm _ _ _ _ _ _,he⟩):P:=h
theorem FD25 (h:P:=by go_wp2;go_ret;exact⟨rfl,hB1⟩):P:=h
theorem FD26 (h:P:=by go_in;go_wp2;go_ret;exact⟨rfl,hB0 _⟩):P:=h
theorem FD27 (h:P:=by
 obtain⟨es,clock,hb,hes⟩:=h;have hf:=R5 emb kind hK.same k kvs es.toList 0 hes;cases hq:Bp k kvs 0 with
 |none =>rw [hq] at hf;simp [Instr.lookup,Dv hT,F8 hb,hK.check,Instr.findKey,Dv hK.under,hf,hz,Result.andThen]
 |some p =>rw [hq] at hf;simp [Instr.lookup,Dv hT,F8 hb,hK.check,Instr.findKey,Dv hK.under,hf,Result.andThen]):P:=h
theorem FD28 (h:P:=by obtain rfl:R=none:=hR.out.symm;go_wp2_with fail;refine N.out.mono ?_;rintro e w2 ⟨hh,n,x,rfl⟩;obtain⟨hR3,hBB⟩:=hS1.uj hh;exact FD98):P:=h
theorem FD29 (h:P:=by go_in;go_wp2_with fail;refine T.out.mono ?_;rintro e w1 ⟨hh,rfl,hP⟩;have hH:=hh.alloc (.cells (A7 t).toArray 190);dsimp only [mG];go_wp2;exact⟨rfl,hH,_,_,rfl⟩):P:=h
theorem FD30 (h:P:=by obtain⟨a,cap,h1,h2,h3,h4⟩:=h;refine⟨a,cap,h1,h2,h3,fun hne=>?_⟩;obtain⟨b,off,e,hlt,hx⟩:=h4 hne;refine⟨b,off,e,hlt,fun j x hj=>?_⟩;obtain⟨s,c1,c2⟩:=hx j x hj;exact⟨s,fun i u hi=>(hb.cell (p:=⟨b,off+j*37+i,none⟩) (Af hlt hB)).trans (c1 i u hi),c2.below hb hB⟩):P:=h
theorem FD31 (h:P:=by obtain⟨a,cap,h1,h2,h3,h4⟩:=h;refine⟨a,cap,h1,h2,h3,fun hne=>?_⟩;obtain⟨b,off,e,hlt,hx⟩:=h4 hne;refine⟨b,off,e,hlt,fun j x hj=>?_⟩;obtain⟨s,c1,c2⟩:=hx j x hj;exact⟨s,fun i u hi=>(hb.cell (p:=⟨b,off+j*8+i,none⟩) (Af hlt hB)).trans (c1 i u hi),c2.below hb hB⟩):P:=h
theorem FD32 (h:P:=by go_in;go_wp2;go_ret;exact⟨rfl,rfl⟩):P:=h
theorem FD33 (h:P:=by dsimp only [bI];go_wp2;go_ret2;exact⟨by rw [<- hR1.out];rfl,hB1.trans (hb2.mono hB1.size)⟩):P:=h
theorem FD34 (h:P:=by
 clear bad hH hHH;go_in;go_wp2;refine Ck 190 w.heap.size (A7 t) rfl rfl ?_ underlying190 rfl kR ?_;·exact (Hj (w.setCell _ _) _ _).1 |> fun h=>by simpa [A7] using h
 ·exact⟨(hST.out.2.alloc _).alloc _,rfl,hST.out.1.below (((Ac _ _).alloc nR _).alloc sM _)⟩):P:=h
theorem FD35 (h:P:=by
 refine wp_seq_k fun K2 hK2=>?_;replace hK2:=Aa hK2;go_wp2_with (refine Ca rfl 27 _ _ rfl w De _ rfl rfl g1 rfl kR (by simp [Value.oneCell']) ?_)
 intro Y hY hHY hYs;go_wp2;exact Uk hY (B1.trans (hHY.below B1.size (fun r hr=>by simp at hr;omega))) rfl rfl):P:=h
theorem FD36 (h:P:=by
 obtain⟨es,clock,hb,hes,_⟩:=h;have hf:=Tm w k kvs es.toList hes;cases hq:Bp k kvs 0 with
 |none =>rw [hq] at hf;simp [Instr.lookup,Dv hT,F8 hb,M5,hf,hz,Result.andThen]
 |some p =>rw [hq] at hf;simp [Instr.lookup,Dv hT,F8 hb,M5,hf,Result.andThen]):P:=h
theorem FD37 (h:P:=by
 by_cases zy:N<=12
 ·have z1:=naj ((12:Int)<(N:Int));have hr1:r=0:=by rw [<- hr.out,hword.out,h0,hR0,Di zy];rfl
  subst hr1;exact FD15
 ·have z1:=nai ((12:Int)<(N:Int));have hr1:r=1:=by rw [<- hr.out,hword.out,h0,hR0,Cj zy];rfl
  subst hr1;exact FD15):P:=h
theorem FD38 (h:P:=by have A:=I.out [110] 0 dC w;rw [h4] at A;replace A:=Aa A;go_wp2_with fail;refine A.out.mono ?_;rintro e w9 ⟨rfl,hw9⟩;rw [hw9];clear A hw9 w9;clear I;go_wp2;go_ret;exact⟨by rw [<- hr.out];simp only [CH.slen,h1,h2,h3,h4];rfl,Ac _ _⟩):P:=h
theorem FD39 (h:P:=by have A:=I.out [39,96,94] 1 dC w1;rw [hq] at A;replace A:=Aa A;go_wp2_with fail;refine A.out.mono ?_;rintro e w9 ⟨rfl,hw9⟩;rw [hw9];clear A hw9 w9;clear I;go_wp2;go_ret;exact⟨by rw [<- hr.out];simp only [CH.slen,hL,hq];rfl,hb1⟩):P:=h
theorem FD40 (h:P:=by have A:=I.out [110] 0 dC w;rw [h4] at A;replace A:=Aa A;go_wp2_with fail;refine A.out.mono ?_;rintro e w9 ⟨rfl,hw9⟩;rw [hw9];clear A hw9 w9;clear I;go_wp2;go_ret;exact⟨by rw [<- hr.out];simp only [CH.slen,h1,h3,h4];rfl,Ac _ _⟩):P:=h
theorem FD41 (h:P:=by go_in;go_wp2_with fail;refine T.out.mono ?_;rintro e w1 ⟨hh,rfl,hP⟩;have hH:=hh.alloc (.cells (A7 t).toArray 190);have hQ:=hP.below ((Ac _ _).alloc nR (.cells (A7 t).toArray 190));dsimp only [mG];go_wp2;go_ret;exact⟨hH,rfl,hQ⟩):P:=h
theorem FD42 (h:P:=by unfold Fs;exact dQ.fP (dQ.fP (dQ.fP (dQ.fP (dQ.fP (dQ.fP (dQ.fP (fun _ h=>by cases h) (.one oM)) (.one oM)) (.cons oM (.cons sM (.one oM)))) (.cons sM (.one oM))) (.cons sM (.one oM))) (.cons sM (.one oM))) (.cons sM (.one oM))):P:=h
theorem FD43 (h:P:=by obtain⟨_,_,e3,_,_⟩:=h.lm.form;obtain⟨_,_,e4,_,_⟩:=h.lp.form;obtain⟨_,_,e5,_,_⟩:=h.hj.form;change vn=_ at e1;change vk=_ at e2;change vm=_ at e3;change vp=_ at e4;change vj=_ at e5;subst e1 e2 e3 e4 e5;exact Dj.1 rF):P:=h
theorem FD44 (h:P:=by
 obtain⟨g,rfl⟩:∃ g,f=g+1:=⟨f - 1,oM⟩
 rw [Po h2 oM oM hn (by simp at ho;omega),ih g _ hda (by have:=congrArg List.length hd;rw [Cc,Am] at this;omega) (by simp at hf;omega) (by simp at ho ⊢;omega)];simp):P:=h
theorem FD45 (h:P:=by go_wp2;go_ret;exact⟨by rw [hr'];rfl,hb⟩):P:=h
theorem FD46 (h:P:=by
 clear hO3 hg3;go_wp2;go_roundw;case rel=>exact⟨k+1,oM,by go_num,hO4,wB,hB4⟩
 case measure=>simp [ZG];omega):P:=h
theorem FD47 (h:P:=by obtain⟨a,cap,hv,h1,h2,h3⟩:=h;refine⟨a,cap,hv,h1,h2,fun hne=>?_⟩;obtain⟨b,off,ha,hlt,hc⟩:=h3 hne;exact⟨b,off,ha,hlt,fun j l hj=>(hb.cell (p:=⟨b,off+j,none⟩) (Af hlt hB)).trans (hc j l hj)⟩):P:=h
theorem FD48 (h:P:=by
 go_in;go_wp2_with (first|(refine (Xc _ _).mono ?_;rintro e w' ⟨rfl,rfl⟩)|fail)
 go_ret;exact⟨rfl,rfl⟩):P:=h
theorem FD49 (h:P:=by go_in;go_wp2_with fail;refine (Eta l w hl).mono ?_;rintro e w1 ⟨rfl,hb⟩;go_wp2;go_ret;exact⟨rfl,hb⟩):P:=h
theorem FD50 (h:P:=by
 have hr1:r=false:=by rw [<- hr];simp
 clear hr;subst hr1;clear T;exact FD25):P:=h
theorem FD51 (h:P:=by go_wp2_with fail;go_ret2;exact⟨_,rfl,hO.out.below ((Ac _ wr).alloc nR _),hB.out.alloc hB.out.size _⟩):P:=h
theorem FD52 (h:P:=by have A:=A3.out w2;rw [hi] at A;replace A:=Aa A;clear A3 W;refine (A.out).mono ?_;rintro e w9 ⟨rfl,hw9⟩;rw [hw9];clear hw9 w9;clear A;go_wp2;go_ret;exact⟨by rw [<- hr.out];simp [aW,hi],hB2⟩):P:=h
theorem FD53 (h:P:=by go_wp2_with fail;refine (WN.out _).mono ?_;rintro e w3 ⟨rfl,hb3⟩;clear WN;go_wp2;go_ret2;exact⟨by rw [<- hR2.out];rfl,(hB2.alloc hB2.size _).trans (hb3.mono (hB2.alloc hB2.size _).size)⟩):P:=h
theorem FD54 (h:P:=by
 go_wp2;refine Gk (r:=r) (cells:=[.int .i64 4,↑i,.int .i64 0,.string ((ByteArray.mk s.toArray).extract i (i+1))]) ?_ hth ?_ hb nR (Aa ?_) <;> try rfl
 rw [<- hr.out,Hn.out];simp only [Fu,Hg];rfl):P:=h
theorem FD55 (h:P:=by go_wp2_with fail;rw [Exit.noGoto_ret];exact Qg (w+3) rfl rfl rfl (by exact trivial) nR ⟨_,_,x2' _⟩ ⟨_,x3' _⟩ ⟨_,x4' _⟩ (hbz _) (by exact⟨(dC:(5:Int)≠0),rfl,rfl⟩) _ (.inl rfl)):P:=h
theorem FD56 (h:P:=by
 obtain⟨t,ht⟩:=ht;unfold jr;rw [ht];have:hK.getD v.authority.toNat []=ku:=by rw [ha];rfl
 rw [this,hc,hl];have q:decide (v.authority >= (hK.length:Int))=false:=by rw [ha];decide
 rw [q];rfl):P:=h
theorem FD57 (h:P:=by
 have hlt:=Bd w p hp;simp only [Ez,Dw,Dl,ne_eq] at hq ⊢;refine⟨q2.cells hp fun e=>hq.2 e,hq.1,fun e=>?_⟩;rcases q3 with q3|q3;·exact hq.2 (q3 ▸ e)
 ·rw [q3] at e;have:=Gh e;omega):P:=h
theorem FD58 (h:P:=by exact⟨none,_,by have:=run_endLoop (P:=P) hl (by rw [hrec];simp);rw [hrec] at this;exact this,hdone _ xs _ nR hS (hI.putObj _ hi oM hl rfl) ((World.putObj_heap_other oM).trans hk)⟩):P:=h
theorem FD59 (h:P:=by
 simp only [Az,Bo,Ey] at hr;rcases hr with rfl|rfl;·obtain⟨kvs,⟨es,ck,e,_⟩,_⟩:=hC.known;exact⟨es,ck,e⟩
 ·obtain⟨kvs,⟨es,ck,e,_⟩,_⟩:=hC.forks;exact⟨es,ck,e⟩):P:=h
theorem FD60 (h:P:=by have HI:=Aa hI;clear hI hp hv hm;go_in;go_wp2_with fail;refine HI.out.mono ?_;rintro e w1 ⟨i,rfl,hi,hb⟩;have HH:=Aa hi;clear hi;go_wp2;go_ret;exact⟨by rw [<- HH.out];rfl,hb⟩):P:=h
theorem FD61 (h:P:=by go_in;go_wp2;go_ret;exact⟨rfl,hB0 _ _⟩):P:=h
theorem FD62 (h:P:=by clear I3;go_wp2;go_ret;exact⟨rfl,hBw2⟩):P:=h
theorem FD63 (h:P:=by
 have l1:¬ (9223372036854775807<1+T.length):=oM;have l2:¬ (9223372036854775807<1+T.length+1):=oM;cases b6 <;> cases b5;·exact FD11
 ·exact FD2
 ·exact FD2
 ·exact FD2):P:=h
theorem FD64 (h:P:=by go_in;go_wp2;go_ret;exact⟨rfl,Ac _ _⟩):P:=h
theorem FD65 (h:P:=by obtain rfl:R=none:=hR.symm;go_wp2_with fail;refine T.out.mono ?_;rintro e w2 ⟨hh,n,x,rfl⟩;obtain⟨hR3,hBB⟩:=hS.uj hh;exact FD98):P:=h
theorem FD66 (h:P:=by
 intro e;subst e;have hlt:bK s [1] i<s.length:=oM;have hg:=Ae hlt;rw [fF s _ _ hg] at hc;have:s[bK s [1] i]=10:=by simpa using hb
 rw [this] at hc;exact absurd hc dC):P:=h
theorem FD67 (h:P:=by simp only [ZM,Dh,D9];rw [Ai oM,Ai oM,Ah trivial]):P:=h
theorem FD68 (h:P:=by clear hO;go_wp2_with fail;refine J.out.mono ?_;rintro e w2 ⟨rfl,hb2⟩;clear J m0;go_wp2;go_ret;exact⟨by rw [<- hRe.out];rfl,hB.trans (hb2.mono hB.size)⟩):P:=h
theorem FD69 (h:P:=by go_wp2;go_ret;exact⟨rfl,hB1.trans (hb2.mono hB1.size)⟩):P:=h
theorem FD70 (h:P:=by obtain⟨q1,q2,q3⟩:=Pw cs [] old.toList w (by simpa using hl) (by simpa using hb);exact h _ (by simpa using q1) (by simpa using q2) (by simpa using q3)):P:=h
theorem FD71 (h:P:=by
 rw [hx] at hne;rw [show (en.id != cid)=true from by rw [bne,hx];rfl] at hr;have hr1:r=false:=by rw [<- hr];simp
 clear hr;subst hr1;clear E T;exact FD25):P:=h
theorem FD72 (h:P:=by obtain⟨a,cap,h1,h2,h3,_⟩:=h;exact⟨a,cap,h1,h2,h3⟩):P:=h
theorem FD73 (h:P:=by
 go_wp2;refine Gk (r:=r) (cells:=[.int .i64 0,.int .i64 0,.int .i64 0,.string ⟨#[]⟩]) ?_ hth ?_ hb nR (Aa ?_) <;> try rfl
 rw [<- hr.out,Hn.out];rfl):P:=h
theorem FD74 (h:P:=by
 have h4:(CH.title n.script).length<=6:=by unfold CH.title;exact FD108
 unfold bD;simp only [Am,Ap,Bf,Ba] at h1 ⊢;omega):P:=h
theorem FD75 (h:P:=by obtain⟨a,cap,hv,h1,h2,h3⟩:=h;refine⟨a,cap,hv,h1,h2,fun hne=>?_⟩;obtain⟨b,off,ha,hlt,hc⟩:=h3 hne;exact⟨b,off,ha,Af hlt hB,hc⟩):P:=h
theorem FD76 (h:P:=by
 have hr1:r=1:=by
  have h0:(R==[])=false:=by cases R with|nil=>cases hRe|cons _ _=>rfl
  rw [<- hr.out,hword.out,h0];rfl
 subst hr1;exact FD15):P:=h
theorem FD77 (h:P:=by go_wp2;refine Ar (results_tmp3 rfl _ _ _) rfl ?_;refine⟨(hBr.trans (hb3.mono hBr.size)).alloc (Aj hBr.size hb3.size) _,?_⟩;rw [hl'];rfl):P:=h
theorem FD78 (h:P:=by rw [Lc,Gi,La];refine⟨hnd,sM,?_⟩;intro a ha b hb' e;obtain⟨x,hx,rfl⟩:=Ew.1 ha;simp only [Gg,Ja,Ad] at hb';have:=hold x hx;omega):P:=h
theorem FD79 (h:P:=by refine⟨?_,Ao hz _⟩;rw [Ba,Ab hz j];rcases (oM:j=0\/j=1\/j=2\/j=3\/j=4\/j=5\/j=6\/j=7) with rfl|rfl|rfl|rfl|rfl|rfl|rfl|rfl <;> rfl):P:=h
theorem FD80 (h:P:=by go_in;go_wp2_with fail;refine N1.out.mono ?_;rintro e w1 ⟨hH,n,x,rfl⟩;exact⟨rfl,hH.sub hsub,⟨n,x,rfl⟩,m,hm.held hH naf⟩):P:=h
theorem FD81 (h:P:=by go_wp2;go_ret2;exact⟨by rw [<- hR1.out];rfl,hB1.alloc hB1.size _⟩):P:=h
theorem FD82 (h:P:=by exact⟨w1+1,Iy _,⟨rfl,rfl,rfl,rfl,rfl,rfl⟩,Wv (hC7 ▸ Rb w1 _ _) ((((Ac _ w1).alloc nR _).alloc sM _).drew) (hts t1 sM)⟩):P:=h
theorem FD83 (h:P:=by exact⟨none,0,rfl,Au _,dC,fun e=>absurd rfl e⟩):P:=h
theorem FD84 (h:P:=by go_wp2;go_ret;exact⟨rfl,hBw3⟩):P:=h
theorem FD85 (h:P:=by
 clear STEP hO3 hg3 hO2 hB2 n0 n1;go_wp2;go_roundw;case rel=>exact⟨j+1,oM,by go_num,hO4,hB4⟩
 case measure=>simp [ZG];omega):P:=h
theorem FD86 (h:P:=by simpa using this):P:=h
theorem FD87 (h:P:=by have A:=I.out ([98,100,102,103,104,106,107,108,109,110,112,113,114,115,116,119,120,121,122,39]:List UInt8) 0 dC w;exact FD18):P:=h
theorem FD88 (h:P:=by cases h;refine⟨rfl,?_⟩;simp only [C9];omega):P:=h
theorem FD89 (h:P:=by
 rcases hu with rfl|rfl|rfl|rfl|rfl|rfl|rfl|rfl;·rfl
 ·rfl
 ·rfl
 ·rfl
 ·rw [e1];rfl
 ·rfl
 ·rw [e2];rfl
 ·rw [e3];rfl):P:=h
theorem FD90 (h:P:=by unfold Cl;rw [hk];exact⟨rfl,rfl,⟨rfl,HS.out.n⟩,trivial⟩):P:=h
theorem FD91 (h:P:=by have l4:¬ (9223372036854775807<6+List.length J):=oM;exact FD16):P:=h
theorem FD92 (h:P:=by simp only [ZM,Dh,D9];rw [Ah trivial]):P:=h
theorem FD93 (h:P:=by refine⟨hlen,.inr ⟨g,cap,cur,e1,hb,?_,hr⟩⟩;rw [hh.block g (aZ hg) fun h=>by have:=hR g h;omega];exact hg):P:=h
theorem FD94 (h:P:=by obtain rfl:k=N:=oM;obtain rfl:R=true:=Q6 hQ.out hn.out (by rw [<- hN.out]);go_wp2;go_ret;exact⟨rfl,hBr.out⟩):P:=h
theorem FD95 (h:P:=by rw [Al _ _ _ _ _ _ _ (Al _ _ _ _ _ _ _ (Al _ _ _ _ _ _ _ (Al _ _ _ _ _ _ _ (Al _ _ _ _ _ _ _ h))))];rfl):P:=h
theorem FD96 (h:P:=by have h2:16 ^ k<16 ^ 16:=Nj h1 (by simpa using hn);have:=(Nat.pow_lt_pow_iff_right (dC:1<16)).1 h2;omega):P:=h
theorem FD97 (h:P:=by simp [Instr.mapUpdate,Dv hT,F8 hb,hK.check,Instr.findKey,Dv hK.under,hf,Result.andThen,Kw _ hb];rfl):P:=h
theorem FD98 (h:P:=by exact R8 rfl rfl rfl rfl hb hR3 hBB n x):P:=h
theorem FD99 (h:P:=by go_wp2;go_ret;exact⟨rfl,hB2⟩):P:=h
theorem FD100 (h:P:=by go_in;go_wp2_with fail;refine T.out.mono ?_;rintro e w1 ⟨hh,n,a,rfl⟩;exact⟨rfl,hh,n,a,rfl⟩):P:=h
theorem FD101 (h:P:=by have:=Ag (w.alloc (.deferred (some []))) (.loop (rec .ready none));rw [Df,hV] at this;exact this):P:=h
theorem FD102 (h:P:=by subst h0;exact⟨_,[],rfl,⟨a,cap,rfl,h1,h2,fun hne=>absurd rfl hne⟩,fun _ h=>by cases h⟩):P:=h
theorem FD103 (h:P:=by
 intro j u hj;rcases j with _|j;·simp at hj;subst hj;simpa [Addr.add] using hcell
 ·simp at hj):P:=h
theorem FD104 (h:P:=by go_wp2;go_ret2;exact⟨by rw [<- hR1.out];rfl,hB2⟩):P:=h
theorem FD105 (h:P:=by go_in;go_wp2;go_ret;exact⟨by rw [<- hr.out];simp only [We,h1,h2];rfl,(Ac _ w).alloc nR _⟩):P:=h
theorem FD106 (h:P:=by
 go_wp2;go_roundw;case rel=>exact⟨k+1,oM,by go_num,hB',hI'⟩
 case measure=>simp [ZG];omega):P:=h
theorem FD107 (h:P:=by have hkN:k=N:=oM;rw [hkN,<- hN.out,D5] at hi;rw [Dj] at hi ⊢;exact fun x hx=>hi x (Hq hx)):P:=h
theorem FD108 (h:P:=by
 repeat' split
 all_goals decide):P:=h
theorem FD109 (h:P:=by
 intro x hx;rw [Lc,Bz,Ad] at hx;rcases hx with hx|rfl;·have:=hold x hx;omega
 ·exact Cm _):P:=h
theorem FD110 (h:P:=by exact⟨none,0,rfl,Au _,oM,fun h=>absurd rfl h⟩):P:=h
theorem FD111 (h:P:=by clear hne hne' hR;generalize ls.length=N at *;generalize ls'.length=M at *;exact FD61):P:=h
theorem FD112 (h:P:=by simp only [World.alloc,Dh,D9];exact⟨by rw [Ai oM,Ah trivial],by rw [Ah trivial]⟩):P:=h
theorem FD113 (h:P:=by obtain⟨es,clock,h1,h2⟩:=h;exact⟨es,clock,(hb.block r (aZ h1)).trans h1,h2⟩):P:=h
theorem FD114 (h:P:=by go_wp2_with fail;refine A.out.mono ?_;rintro e w1 ⟨rfl,rfl⟩;clear A;exact FD45):P:=h
theorem FD115 (h:P:=by go_in;go_wp2;go_ret;exact⟨rfl,hB0.out _ _⟩):P:=h
theorem FD116 (h:P:=by rw [decide_eq_true_iff,show ((2:Int) ^ n2)=((2 ^ n2:Nat):Int) from by simp];omega):P:=h
theorem FD117 (h:P:=by obtain⟨⟨n,x,rfl⟩,hm⟩:=hm;exact⟨rfl,hs2.out.trans hH,⟨n,x,rfl⟩,hm⟩):P:=h
theorem FD118 (h:P:=by go_in;go_wp2;go_ret;exact⟨by rw [<- hr.out];unfold CH.within;rw [d0];rfl,rfl⟩):P:=h
theorem naa {α:Sort _} (a:α):∃ x,a=x:=⟨_,rfl⟩
theorem nac {α:Sort _} (a:α):∃ x,Go.RowKit.Hid (a=x):=⟨_,Go.Lib.hid rfl⟩
theorem nad {α:Sort _} (a:α):∃ x,x=a:=⟨_,rfl⟩
theorem nae {α:Sort _} (a:α):∃ x,Go.RowKit.Hid (x=a):=⟨_,Go.Lib.hid rfl⟩
theorem naf (h:P:=by simp;omega):P:=h
theorem nag (h:P:=by simp <;> omega):P:=h
theorem nah (h:P:=by decide +kernel):P:=h
theorem nai (P:Prop) [Decidable P] (h:P:=by omega):decide P=true:=decide_eq_true h
theorem naj (P:Prop) [Decidable P] (h:¬P:=by omega):decide P=false:=decide_eq_false h
theorem nak (a b:Int) (h:a=b:=by omega):(a==b)=true:=beq_iff_eq.2 h
theorem nal (a b:Int) (h:¬a=b:=by omega):(a==b)=false:=beq_eq_false_iff_ne.2 h
theorem lR (h:P:=by repeat' first|(intros;kernel_rfl)|decide|constructor):P:=h
end
instance cW : Coe Go.World Nat := ⟨fun w => w.heap.size⟩
instance cS : Coe (List UInt8) Go.Value := ⟨fun l => .string ⟨l.toArray⟩⟩
instance cI : Coe Int Go.Value := ⟨fun n => .int .i64 n⟩
instance cN : Coe Nat Go.Value := ⟨fun n => .int .i64 n⟩
def Ik:=@Classical.byContradiction
def Xl:=@Bool.and_false
def Ug:=@Bool.not_eq_true
def O8:=@Bool.not_false
def Fj:=@List.append_nil
def Il:=@of_decide_eq_true
def Ah:=@if_pos
def Ai:=@if_neg
def Gh:=@Option.some.inj
def Lp:=@Array.mem_of_getElem?
def Dj:=@List.all_eq_true
def Ox:=@Go.wpAnyH_take
def D7:=@Go.wpAnyH_ready
def Aw:=@Go.AllReadyH.cons
def Dx:=@Go.AllReadyH.nil
def Au:=@Nat.le_refl
def Af:=@Nat.lt_of_lt_of_le
def Aj:=@Nat.le_trans
def Jw:=@Array.getElem?_eq_some_iff
def En:=@List.getElem?_eq_some_iff
def Ae:=@List.getElem?_eq_getElem
def Ls:=@Nat.mod_lt
def Nj:=@Nat.lt_of_le_of_lt
def Nv:=@Nat.div_eq_of_lt
def J4:=@Nat.pow_le_pow_right
def J9:=@List.replicate_succ
def Hw:=@List.take_succ_cons
def Am:=@List.length_append
def Ip:=@List.take_add_one
def Ap:=@List.length_cons
def Fp:=@Array.getElem?_modify
def Ew:=@List.mem_map
def Dv:=@Go.run_underlying
def Ei:=@List.drop_eq_getElem_cons
def I8:=@Array.length_toList
def J8:=@Nat.lt_or_ge
def Jh:=@Nat.pow_succ
def Nh:=@Nat.mul_comm
def G9:=@Go.World.cell?_alloc_past
def Ac:=@Go.RowKit.Below.refl
def Eo:=@Array.getElem?_eq_getElem
def Aa:=@Go.Lib.hid
def Oo:=@Nat.mod_eq_of_lt
def Ht:=@List.getElem?_drop
def Jv:=@Array.getElem?_toList
def Jo:=@Go.IntKind.wrap_u64
def J3:=@Go.World.cell?_setCell_same'
def Jg:=@Go.World.frozen?_alloc_past
def Jt:=@Go.World.frozen?_setCell
def J5:=@Go.ByteArray.extract_mk
def Dz:=@List.take_of_length_le
def Ic:=@List.take_zero
def Eu:=@List.nil_append
def Ce:=@List.length_map
def C9:=@List.length_take
def Ba:=@Nat.zero_add
def Dy:=@Nat.le_of_lt
def Ci:=@Go.World.cell?_alloc_at
def Kv:=@Go.World.frozen?_alloc_at
def Ak:=@Nat.zero_le
def Fv:=@Bool.eq_iff_iff
def Eh:=@beq_iff_eq
def Bg:=@List.mem_of_getElem?
def Dq:=@List.length_singleton
def Bf:=@List.length_nil
def Df:=@Go.World.size_alloc
def Lu:=@Nat.add_assoc
def Gf:=@List.mem_of_mem_drop
def Hq:=@List.mem_of_mem_take
def Ji:=@Go.World.ownsRow_nil
def Et:=@List.length_eq_zero_iff
def Jf:=@Go.World.ownsRow.cellAt
def Jb:=@Go.info_parts
def Jj:=@Go.World.ownsRow.alloc
def Jm:=@List.any_eq_true
def Jy:=@List.ext_getElem?
def Ih:=@Go.World.ownsRow.lt
def Ll:=@List.map_map
def Gi:=@List.map_append
def Gg:=@List.map_cons
def Ja:=@List.map_nil
def Bz:=@List.mem_append
def Mc:=@List.sum_cons
def Ec:=@Nat.mul_le_mul_right
def Es:=@List.getElem?_map
def Gz:=@Option.map_some
def G6:=@Option.some.injEq
def Ib:=@Prod.mk.injEq
def Gw:=@List.getElem?_eq_none
def Jq:=@List.drop_eq_nil_of_le
def Cc:=@List.length_drop
def F9:=@List.findIdx?_eq_some_iff_getElem
def Dl:=@beq_eq_false_iff_ne
def Cj:=@decide_eq_false
def Hg:=@Nat.add_sub_cancel_left
def Ju:=@List.all_append
def Nu:=@List.all_cons
def Nz:=@List.getElem_of_mem
def Jl:=@List.mem_range
def Jc:=@List.getElem_mem
def Np:=@List.all_eq_false
def H9:=@List.getElem?_cons_zero
def Ir:=@List.getElem?_cons_succ
def Az:=@List.mem_cons
def Fz:=@UInt8.toNat_lt
def a_Bool_true_and:=@Bool.true_and
def Ed:=@decide_eq_decide
def Ea:=@Go.below_regrown
def Cb:=@Go.World.cell?_alloc_mark
def Qy:=@if_true
def Bh:=@Go.wp_region_quiet_below
def D8:=@Go.wpQuiet_nil
def Dp:=@Go.Calls.regrown_of
def Hu:=@Nat.add_zero
def Aq:=@Bool.and_eq_true
def Bj:=@decide_eq_true_eq
def Ej:=@Bool.or_eq_true
def Pm:=@List.contains_eq_mem
def Bo:=@List.not_mem_nil
def Ey:=@or_false
def Dw:=@decide_eq_false_iff_not
def Ar:=@Go.bodyPost_ret
def Fq:=@Go.run_loadVar_mid
def Ef:=@Go.World.rangeAt_setCells_same
def Ag:=@Go.heap_alloc_last
def Gu:=@List.size_toArray
def Gv:=@List.drop_zero
def Di:=@decide_eq_true
def Dh:=@Array.getElem?_push
def D9:=@Array.size_push
def Na:=@List.foldl_cons
def Pz:=@Option.toList_some
def D5:=@List.take_length
def Ku:=@Array.all_eq_true'
def Ep:=@Nat.lt_of_succ_lt
def Iy:=@Nat.le_succ
def Iu:=@Nat.ne_of_lt
def Cm:=@Nat.lt_succ_self
def Dn:=@Go.wpList_load_mid
def Ig:=@Go.wpList_store_mid
def Iw:=@Array.getElem?_setIfInBounds_ne
def Oz:=@Array.getElem?_eq_none
def Ez:=@Bool.or_eq_false_iff
def Jd:=@Go.mem_ready
def A8:=@Go.cell_regrown
def Gx:=@List.drop_succ_cons
def I9:=@Go.Sem.run_bind
def Io:=@Go.Result.andThen_ok
def Oe:=@Bool.not_true
def Nk:=@Bool.false_eq_true
def Aap:=@if_false
def Lh:=@Go.Sem.run_pure
def Fb:=@List.take_append_drop
def G8:=@Bool.not_eq_true'
def Bc:=@Go.results_tmp2
def Je:=@ByteArray.size_append
def F8:=@Go.MapKept.run_getObj_map
def Kw:=@Go.MapKept.run_setObj_map
def Vr:=@List.length_set
def I5:=@Go.Oper.semAt_some
def Ns:=@Go.callsIn_of_wp
def Gt:=@Array.replicate_succ
def Gs:=@Array.replicate_zero
def Hl:=@List.push_toArray
def Gy:=@List.append_toArray
def D6:=@List.cons_append
def Iz:=@Go.callsIn_wide
def Gn:=@List.getElem?_append_left
def Ld:=@Go.results_none
def Eb:=@List.getElem?_append_right
def Kq:=@Go.World.ownsRow.kept
def J6:=@Go.wpIn_wide
def Fa:=@Go.RowKit.Below.alloc
def Bl:=@Go.World.cell?_setCell_far
def Dc:=@Go.wpAnyH_done
def Hy:=@List.getElem?_toArray
def Ij:=@Go.RowKit.Below.heap_alloc
def Oq:=@List.all_nil
def Og:=@Bool.and_true
def Hz:=@Go.RowKit.run_makeMap
def Em:=@Go.World.cell?_alloc_some
def bf:=@Go.heap_setCell_other
def Ky:=@List.length_pos_of_mem
def Jz:=@List.any_eq_false
def Ad:=@List.mem_singleton
def Le:=@not_or
def Bd:=@Go.World.block_lt_of_cell?
def Lc:=@Array.toList_push
def La:=@List.nodup_append
def Oy:=@Go.World.setCell_alloc_at
def Fh:=@Go.all_oneCell_toArray
def Ou:=@List.nodup_cons
def Bv:=@List.mem_cons_of_mem
def Kz:=@Nat.lt_trichotomy
def Ho:=@List.pairwise_append
def Gj:=@List.mem_iff_getElem?
def Gm:=@List.pairwise_iff_getElem
def Jp:=@List.filter_eq_nil_iff
def Kr:=@List.filter_append
def Ie:=@List.pairwise_cons
def Me:=@Option.map_none
def Lr:=@Option.getD_none
def Kt:=@Bool.not_eq_false'
def Lm:=@Bool.and_eq_false_iff
def Fe:=@List.flatMap_cons
def Ii:=@List.flatMap_nil
def F7:=@Option.map_eq_some_iff
def I7:=@List.flatMap_append
def Dk:=@List.append_assoc
def Dt:=@Go.wp_region_held_drew
def He:=@Go.RowKit.Below.drew
def Fg:=@Go.RowKit.Below.setCell
def Gq:=@Array.getD_eq_getD_getElem?
def Ia:=@Go.getD_set_true
def Pj:=@List.mem_append_left
def fO:=@Go.cell_of_row
def Om:=@Go.mem_left
def J7:=@Go.results_tmp
def Ee:=@Option.getD_some
def Nq:=@Bool.not_eq_false
def Lj:=@Nat.le_of_eq
def Md:=@List.getElem?_range
def Iq:=@List.getElem?_take_of_lt
theorem nR {n:Nat}:n<=n:=Nat.le_refl n
theorem aZ {α:Type} {xs:Array α} {i:Nat} {b:α} (h:xs[i]?=some b):i<xs.size:=(Array.getElem?_eq_some_iff.1 h).1
theorem lS {α:Type} {xs:List α} {i:Nat} {b:α} (h:xs[i]?=some b):i<xs.length:=(List.getElem?_eq_some_iff.1 h).1
namespace Go.Proofs.Y
theorem CmZ {P:Program} {f:Nat} {xs:Array Value} {w:World} {v:Value} {R:World->Prop} {Q:Ending->World->Prop} (h:Calls P f xs w fun e w'=>e=.returned v/\R w') (k:∀ w',R w'->Q (.returned v) w'):Calls P f xs w Q:=h.mono fun e w' ⟨he,hr⟩=>he ▸ k w' hr
theorem tk {P:Program} {md:Region.Mode} {ops:Array Oper} {S:World->Prop} {Q:Exit->Act->World->Prop} {fuel:Nat} {kx:Array Bool} {a:Act} {w:World} {oi:Oper} {v:Value} (i:Nat) (hi:ops[i]?=some oi) (hw:Region.wanted oi (yielded ops a.tmps)=true) (hS:S w) (hy:∀ w,S w->(execOp a.eval oi).run P w=.ok (.value v) w) (h:wpAnyH P md ops Q S fuel (kx.setIfInBounds i true) (a.put oi.dst v) w) (hs:Region.noSelect ops=true:=by kernel_rfl) (hf:Region.free md ops kx i=true:=by kernel_rfl) (hr:(Region.ready md ops kx).contains i=true:=by kernel_rfl) (hQ:∀ c a w,Q (.panic c) (a.put oi.dst v) w->Q (.panic c) a w:=by exact fun _ _ _ h=>h):wpAnyH P md ops Q S (fuel+1) kx a w := wpAnyH_take hi hs hf hr hQ (Or.inl ⟨hw,hy⟩) hS h
theorem tj {P:Program} {md:Region.Mode} {ops:Array Oper} {S:World->Prop} {Q:Exit->Act->World->Prop} {fuel:Nat} {kx:Array Bool} {a:Act} {w:World} {oi:Oper} {v:Value} (i:Nat) (h:wpAnyH P md ops Q S fuel (kx.setIfInBounds i true) (a.put oi.dst v) w) (hi:ops[i]?=some oi:=by rfl) (hw:Region.wanted oi (yielded ops a.tmps)=true:=by rfl) (hS:S w:=by assumption) (hy:∀ w,S w->(execOp a.eval oi).run P w=.ok (.value v) w:=by intro w hSw;(try dsimp only at hSw);go_simp;try with_reducible rfl) (hs:Region.noSelect ops=true:=by kernel_rfl) (hf:Region.free md ops kx i=true:=by kernel_rfl) (hr:(Region.ready md ops kx).contains i=true:=by kernel_rfl) (hQ:∀ c a w,Q (.panic c) (a.put oi.dst v) w->Q (.panic c) a w:=by exact fun _ _ _ h=>h):wpAnyH P md ops Q S (fuel+1) kx a w := wpAnyH_take hi hs hf hr hQ (Or.inl ⟨hw,hy⟩) hS h
theorem rk {P:Program} {md:Region.Mode} {ops:Array Oper} {S:World->Prop} {Q:Exit->Act->World->Prop} {fuel:Nat} {kx:Array Bool} {a:Act} {w:World} {o:Oper} (i:Nat) (ho:ops[i]?=some o) (h:∀ K':Act->World->Prop,Shut (∀ a w,S w->(S w->wpAnyH P md ops Q S fuel (kx.setIfInBounds i true) a w)->K' a w)->if Region.wanted o (yielded ops a.tmps)=true then Oper.wp P o a w K' Q else K' (a.put o.dst undef) w) (hr:Region.ready md ops kx=[i]:=by kernel_rfl):wpAnyH P md ops Q S (fuel+1) kx a w := wpAnyH_ready hr (List.cons_ne_nil _ _) (AllReadyH.cons ho h AllReadyH.nil)
theorem pA {α:Type} (l:List α) (i:Nat) (a:α):l.toArray.setIfInBounds i a=(l.set i a).toArray:=List.setIfInBounds_toArray _ _ _
theorem pB {α:Type} (a b:α) (l:List α):(a::l).set 0 b=b::l:=rfl
theorem pC {α:Type} (a b:α) (l:List α) (n:Nat):(a::l).set (n+1) b=a::l.set n b:=rfl
theorem pD {α:Type} (l:List α) (i:Nat) (h:i<l.toArray.size):l.toArray[i]=l[i]'(by simpa using h):=rfl
theorem pE {α:Type} (a:α) (l:List α) (h:0<(a::l).length):(a::l)[0]=a:=rfl
theorem pF {α:Type} (a:α) (l:List α) (n:Nat) (h:n+1<(a::l).length):(a::l)[n+1]=l[n]'(Nat.lt_of_succ_lt_succ h):=rfl
attribute [push_cast] Act.put pA pB pC pD pE pF
end Go.Proofs.Y
