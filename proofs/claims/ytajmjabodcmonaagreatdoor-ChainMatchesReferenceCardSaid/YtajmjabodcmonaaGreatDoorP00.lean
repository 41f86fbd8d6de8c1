/- ChainMatch, part 1 of 26. -/
import Derived.Test.YtajmjabodcmonaaGreatDoorProg
import Derived.WalkKit
import Derived.Deep.RegionHeld
import Derived.Deep.WholeRow
import Derived.Lib.QuietBelow
import Derived.Lib.Hide
set_option linter.all false
set_option maxHeartbeats 40000000
set_option maxRecDepth 100000
abbrev Q00:=List UInt8
section
variable {P:Prop}
theorem kR (h:P:=by kernel_rfl):P:=h
theorem oM (h:P:=by omega):P:=h
theorem sM (h:P:=by simp):P:=h
theorem dC (h:P:=by decide):P:=h
theorem rF (h:P:=by rfl):P:=h
theorem FD0 (h:P:=by
 obtain⟨x,hx⟩:∃ x,c.entry.names[j]?=some x:=⟨_,Ad (by rw [hN];omega)⟩
 obtain⟨a',c',e',_,_,hcs⟩:=hv;injection e' with ea eb ec;clear eb;subst ea ec;obtain⟨bb,off,rfl,hblt,hcs⟩:=hcs (fun e=>by rw [e] at hN;simp at hN;omega);obtain⟨vw,d1,d2,d3⟩:=hcs j x hx;have e1:=(hBw.cell (p:=⟨bb,off+j*2,none⟩) hblt).trans d1;have e2:=(hBw.cell (p:=⟨bb,off+j*2+1,none⟩) hblt).trans d2;have hmem:x∈c.entry.names:=Ap hx;have NT:=Aa fun (W:ZB) (hb:Below w w W)=>Mw [aJ x.script,vw] x W (hG.below hb) ⟨vw,rfl,(d3.below hb nR).mono hb.size⟩ (hS.entry.names x hmem) (Mo hok x hmem);have htl:=Lt x (hS.entry.names x hmem);have hts:Hid ((c.entry.names.take (j+1)).map B7=(c.entry.names.take j).map B7++[[34]++aV x++[34]]):=Aa (by rw [aI _ j x hx];simp [B7]);obtain⟨aw,cw,rfl,_,_⟩:=d3.form;generalize x.words.length=xn at *;generalize aV x=T at *;have ht0:((c.entry.names.take j).map B7).length<=8:=by simp;omega
 replace hBw:=Aa hBw;clear hcs d1 d2 d3 hmem hx;have l1:¬ (9223372036854775807<1+T.length):=oM;have l2:¬ (9223372036854775807<1+T.length+1):=oM;clear htl;go_wp2_with fail;refine (NT.out _ (hBw.out.alloc hBw.out.size _)).mono ?_;rintro e w5 ⟨rfl,hb5⟩;have hA5:=Aa ((hA4.out.alloc _).below hb5);have hB5:Hid (Below w1 w1 w5):=Aa ((hB4.out.alloc hB4.out.size _).trans (hb5.mono (by simp;have:=hB4.out.size;omega)));clear NT hb5 e1 e2;go_wp2_with fail;rw [show (⟨#[34]⟩:ByteArray)++⟨T.toArray⟩++⟨#[34]⟩=⟨([34]++T++[34]).toArray⟩ from by rw [<- bytes_append,<- bytes_append]];refine (Kd _ [[34]++T++[34]] (pre++(c.entry.names.take j).map B7) w1.heap.size P _ _ (hA5.out.alloc _) (Fu w5 [[34]++T++[34]] sM).strs (by rw [Ah];simp only [A8,Bj];omega)).mono ?_;rintro e w6 ⟨rfl,hA6,hb6,hs6⟩;have hA6:Hid (Cs w1 P w6 (pre++(c.entry.names.take (j+1)).map B7)):=Aa (by rw [hts.out,<- Dv];exact hA6);have hB6:Hid (Below w1 w1 w6):=Aa ((hB5.out.alloc hB5.out.size _).trans hb6);clear hA5 hB5 hb6 hA4 hB4;go_wp2;go_roundw;case rel=>exact⟨j+1,oM,by go_num,hA6,hB6⟩
 case measure=>simp [ZG];omega):P:=h
theorem FD1 (h:P:=by
 obtain⟨WV,hWV⟩:∃ x,CH.words (Fl v)=x:=⟨_,rfl⟩
 have WN:=fun bo T=>K3 (Fl v) [.iface 9 (aA ([118,101,114,115,105,111,110]:List UInt8)),.iface 3 ↑v.authority,.iface 3 ↑v.number,.iface 3 ↑v.pos,.iface 9 (aA v.prev)] T 5 (W1.alloc bo) ((hG.below hB1).gl.below ((Ac _ W1).alloc nR _)) ⟨rfl,⟨rfl,HS.out.authority⟩,⟨rfl,HS.out.number⟩,⟨rfl,HS.out.pos⟩,rfl,trivial⟩ rfl dC (by have:=hl.out;omega);have hl:Hid (WV.length<=1000000):=Aa (by rw [<- hWV];exact hl.out);rw [hWV] at WN;have hR3:Hid (iQ ((fE v.acts).map (WV++[10]++·))=R):=Aa (by rw [<- hR2.out,hWV];rfl);simp only [Dt] at WN;have WN:=Aa WN;clear hR2 hWV;refine (WN.out _ _).mono ?_;rintro e w2 ⟨rfl,hb2⟩;have hIB:Lib.IsBuilder 127 5 W1.heap.size W1 (ZL []) w2:=Cz (Cz (Lib.fresh_isBuilder _ _ W1) ((Ac _ _).alloc nR _)) hb2;have hB2:Below W1 W1 w2:=(((Ac _ W1).alloc nR _).alloc sM _).trans (hb2.mono (by simp;omega));have hs2:=hB2.size;clear WN hb2;have hl9:¬ (9223372036854775807<WV.length+1):=by have:=hl.out;omega
 have BW:=Aa fun (sb:ByteArray) (hsb:sb.size<=2000000)=>C7 W1 W1 _ sb w2 hIB (by simp [ZL];omega) hs2;go_wp2_with fail;refine (BW.out _ (by have:=hl.out;simp [Jp];simp [ByteArray.size];omega)).mono ?_;rintro e w3 ⟨rfl,tJ,hb3⟩;clear BW hIB;have hB3:Below W1 W1 w3:=hB2.trans hb3;have tJ:Lib.IsBuilder 127 5 W1.heap.size W1 (ZL (WV++[10]++(v.acts.take 0).flatMap Cl)) w3:=.inr (by
  have e:ZL (WV++[10]++(v.acts.take 0).flatMap Cl)=ZL []++Lib.strCells (⟨WV.toArray⟩++⟨#[10]⟩):=by simp [ZL,Lib.strCells,bytes_append WV [10]]
  rw [e];exact tJ)
 clear hB2 hb3 hs2;have m4:=(hB3.cell (p:=⟨w,4,none⟩) hlt1).trans k4;go_wp2_with fail;go_loopw [86] (fun i wr=>∃ k:Nat,k<=N/\i=↑k/\Hid (Lib.IsBuilder 127 5 W1.heap.size W1 (ZL (WV++[10]++(v.acts.take k).flatMap Cl)) wr)/\Hid (Below W1 W1 wr)/\Hid (∀ x∈v.acts.take k,(aP x).isSome=true)) (fun i _=>N - (ZG i).toNat);case atStart=>exact⟨0,Az _,rfl,Aa tJ,Aa hB3,Aa fun x hx=>by simp at hx⟩
 case round =>
  obtain⟨k,hk,rfl,hI,hBr,hJ⟩:=hrel;have hBw:Below w w wr:=hB1.trans (hBr.out.mono hB1.size);by_cases hlt:k<N
  ·obtain⟨b,off,rfl,hbl,kj⟩:=HA3.out (by intro h;have:=HN.out;simp [h] at this;omega);obtain⟨x,hx⟩:∃ x,v.acts[k]?=some x:=⟨_,Ad (by rw [HN.out];exact hlt)⟩
   obtain⟨sx,hc,hat⟩:=kj k x hx;have hrg:wr.rangeAt b (off+k*37) (As x sx):=fun j u hj=>(hBw.cell (p:=⟨b,off+k*37+j,none⟩) hbl).trans (hc j u hj);have hlen:(prog.info? 73).map (·.size)=some (As x sx).length:=kR;have h1c:=Aa (Tj hat);have hlenA:(As x sx).length=37:=rfl;have T:=Aa fun o=>AT x sx (wr.alloc o) (hG.below (hBw.alloc hBw.size o)) ((hat.below (hBw.alloc hBw.size o) nR).mono (hBw.alloc hBw.size o).size);obtain⟨t,ht⟩:∃ t,aP x=t:=⟨_,rfl⟩
   have hle:∀ y,t=some y->y.length<=100000100:=fun y hy=>Mp (ht.trans hy) hat;rw [ht] at T;have ht:=Aa ht;have hx:=Aa hx;clear kj hc hat;generalize As x sx=C at *;have hn1:=Aa (Bp wr C 73);have hrg:=Aa hrg;go_wp2_with (first|refine Bd rfl 73 _ rfl b (off+k*37) rfl C _ hrg.out underlying73 rfl hlen ?_|refine Bw rfl 73 _ _ rfl C rfl rfl (by rw [hlenA];rfl) hlen h1c.out ?_|refine Bd rfl 73 _ rfl wr 0 rfl C _ hn1.out underlying73 rfl hlen ?_)
   refine (T.out _).mono ?_;rintro e w4 ⟨rfl,hb4⟩;clear T hrg hn1 h1c hlenA hlen;have hba:=hBr.out.alloc hBr.out.size (.cells C.toArray 73);have hB4:Below W1 W1 w4:=hba.trans (hb4.mono hba.size);cases t with
   |none =>dsimp only [bU];go_wp2;refine Aj (Aq rfl _ _ _) rfl ?_;refine⟨?_,hB1.trans (hB4.mono hB1.size)⟩;rw [<- hR3.out,Kc ht.out v.acts (Ap hx.out)];rfl
   |some t =>
    have hle:=hle t rfl;have hI4:Hid (Lib.IsBuilder 127 5 W1.heap.size W1 (ZL (WV++[10]++(v.acts.take k).flatMap Cl)) w4):=Aa (Cz (Cz hI.out ((Ac _ wr).alloc nR _)) hb4);have hl8:¬ (9223372036854775807<t.length+1):=oM;have htl:=Wz (l:=v.acts.take k) fun y hy=>HA.out.acts y (Gs hy);have htk:(v.acts.take k).length<=40:=by rw [C9,HN.out];have:=G5 h7;omega
    have htl:Hid (((v.acts.take k).flatMap Cl).length<=4000004040):=Aa (by have:=Dh 100000101 htk;omega);have BW:=Aa fun (sb:ByteArray) (hsb:sb.size<=200000000)=>C7 W1 W1 _ sb w4 hI4.out (by have:=hl.out;have:=htl.out;simp only [ZL,Bh,Ah,Di];omega) hB4.size;have hfs:=Aa (Bsd Cl v.acts k x hx.out);have AA:=Aa (My ht.out);have hJ':Hid (∀ y∈v.acts.take (k+1),(aP y).isSome=true):=Aa (by
     intro y hy;rw [aI v.acts k x hx.out] at hy;rcases Dp.1 hy with hy|hy;·exact hJ.out y hy
     ·cases Ce.1 hy;rw [ht.out];rfl)
    clear htk hb4;dsimp only [bU];go_wp2_with fail;refine (BW.out _ (by simp [Jp];simp [ByteArray.size];omega)).mono ?_;rintro e w5 ⟨rfl,hI5,hb5⟩;have hI5:Hid (Lib.IsBuilder 127 5 W1.heap.size W1 (ZL (WV++[10]++(v.acts.take (k+1)).flatMap Cl)) w5):=Aa (.inr (by
     have e:ZL (WV++[10]++(v.acts.take (k+1)).flatMap Cl)=ZL (WV++[10]++(v.acts.take k).flatMap Cl)++Lib.strCells (⟨t.toArray⟩++⟨#[10]⟩):=by rw [hfs.out,AA.out];simp [ZL,Lib.strCells,bytes_append t [10]]
     rw [e];exact hI5))
    have hB5:Hid (Below W1 W1 w5):=Aa (hB4.trans hb5);clear BW hb5;go_wp2;go_roundw;case rel=>exact⟨k+1,oM,by go_num,hI5,hB5,hJ'⟩
    case measure=>simp [ZG];omega
  ·have hkN:k=N:=oM;subst hkN;have hI:=hI.out;have hJ:=hJ.out;rw [<- HN.out,Dn] at hI hJ;have hR4:Hid (iQ (some (WV++[10]++v.acts.flatMap Cl))=R):=Aa (by rw [<- hR3.out,Kb v.acts hJ];rfl);generalize WV++[10]++v.acts.flatMap Cl=FT at *;go_wp2_with fail;refine (Tryz.Builder_String_any _ _ _ _ hI hBr.out.size).mono ?_;rintro e w4 ⟨rfl,hb4⟩;go_wp2;refine Aj (Aq rfl _ _ _) rfl ?_;exact⟨by rw [<- hR4.out];rfl,hBw.trans (hb4.mono hB1.size)⟩):P:=h
theorem FD2 (h:P:=by
 have gY:KT=[40]++T++[41]:=hkP.out (by rw [hpar.out];rfl);replace gY:=Aa gY;clear hkP hkB hpar hKT;go_wp2_with (at_builtin;refine Cq rfl _ _ rfl (w+1) _ L rfl (hO2.out.alloc _) w2.heap.size 1 ([40]++T++[41]) rfl ?c1 ?c2 ?c3 ?_)
 case c1=>rw [Cj _ _ _ _ rfl];show some (Value.string ((⟨[40].toArray⟩:ByteArray)++⟨T.toArray⟩++⟨[41].toArray⟩))=_;rw [bytes_append,bytes_append]
 case c2=>rw [hLl.out];omega
 case c3=>simp;omega
 intro v3 w3 hO3 hg3 _;obtain⟨hO4,hB4⟩:=STEP.out v3 w3 _ (by rw [gY.out];exact hO3) hg3;exact FD119):P:=h
theorem FD3 (h:P:=by
 go_wp2_with fail;go_loopw [5] (fun i wr=>∃ k:Nat,k<=N/\i=↑k/\Hid (Below w w wr)) (fun i _=>N - (ZG i).toNat);case atStart=>exact⟨0,Az _,rfl,Aa (Ac _ _)⟩
 case round =>
  obtain⟨k,hk,rfl,hBr⟩:=hrel;by_cases hlt:k<N
  ·obtain⟨b,off,rfl,hbl,kj⟩:=hne.out (by intro h;have:=hN.out;simp [h] at this;omega);obtain⟨b',off',rfl,gV,hcells'⟩:=hne'.out (by intro h;have:=hN.out;simp [h] at this;omega);obtain⟨l,hl'⟩:∃ l,ls[k]?=some l:=⟨_,Ad (by rw [hN.out];exact hlt)⟩
   have e1:wr.cell? ⟨b,off+k,none⟩=some ↑l:=(hBr.out.cell (p:=⟨b,off+k,none⟩) hbl).trans (kj k l hl');have e2:wr.cell? ⟨b',off'+k,none⟩=some ↑l:=(hBr.out.cell (p:=⟨b',off'+k,none⟩) gV).trans (hcells' k l hl');clear kj hcells' hl';have z0:(0:Int)<=(k:Int):=oM;have zk:((k:Int)).toNat=k:=oM;have hk':(k:Int)<(N:Int):=oM;have g1:∀ (d:Nat) (os:Array Obj),(grow (ZI wr d) os).cell? ⟨b,off+k,none⟩=some ↑l:=Ag e1;have g2:∀ (d:Nat) (os:Array Obj),(grow (ZI wr d) os).cell? ⟨b',off'+k,none⟩=some ↑l:=Ag e2;go_wp2_with fail;refine Ar kR kR ?_;repeat (quiet_step (fail))
   refine Bv ?_;intro wq hbq;replace hbq:=An hbq;clear g1 g2;have hB2:Hid (Below w w wq):=Aa (hBr.out.trans (hbq.mono hBr.out.size));clear hbq e1 e2;go_wp2;go_roundw;case rel=>exact⟨k+1,oM,by go_num,hB2⟩
   case measure=>simp [ZG];omega
  ·exact FD97):P:=h
theorem FD4 (h:P:=by
 go_wp2_with fail;refine A.out.mono ?_;clear A;rintro e w1 ⟨hb,hm⟩;cases hl:CH.lex s with
 |error x =>
  have hr':r=false:=by rw [<- hr.out,hl]
  clear hr;rw [hl] at hm;dsimp only at hm;subst hm;have hx:=Ctd s x hl;have z0:((x.1:Int)==0)=false:=by simp;omega
  clear hl;exact FD64
 |ok ts =>
  rw [hl] at hm;obtain⟨v,rfl,hO⟩:=hm;obtain⟨av,cv,rfl,hc1,hc2⟩:=hO.form;replace hr:=Aa ((congrArg (fun x=>match x with|.ok [t]=>t.kind==1&&t.text==s|_=>false) hl).symm.trans hr.out);clear hl;rcases ts with _|⟨t,_|⟨t2,ts⟩⟩;·have hr':r=false:=hr.out.symm;clear hr hO;exact FD64
  ·obtain⟨g,rfl,k0,k3⟩:=hO.cellAt;have hsb:=Cr t.text s;by_cases hk:t.kind=1
   ·have z1:((t.kind:Int)==1)=true:=by simp;omega
    have hr':r=(t.text==s):=by rw [<- hr.out];show (t.kind==1&&t.text==s)=_;rw [Eb.2 hk];rfl
    clear hr;go_wp2;go_ret;exact⟨by rw [hr',<- hsb];rfl,hb⟩
   ·have z1:((t.kind:Int)==1)=false:=by simp;omega
    have hr':r=false:=by rw [<- hr.out];show (t.kind==1&&t.text==s)=_;rw [Cb.2 hk];rfl
    clear hr;exact FD64
  ·have z1:(((t::t2::ts).length:Int)==1)=false:=by simp;omega
   generalize hn:(t::t2::ts).length=n at *;have hr':r=false:=hr.out.symm;clear hO hr;exact FD64):P:=h
theorem FD5 (h:P:=by
 subst e;go_wp2_with fail;refine (G0 c.pos X hp0 hp1 (hG.1.below (hB1.trans (hBX.mono hB1.size)))).mono ?_;rintro e w2 ⟨rfl,hb2⟩;have hA2:=hA.below hb2;have hB2:Below w1 w1 w2:=hBX.trans (hb2.mono hBX.size);go_wp2_with fail;refine (Kd _ [ZK c.pos] [kw,c.id] w1.heap.size P _ _ (hA2.alloc _) (Fu w2 [ZK c.pos] sM).strs sM).mono ?_;rintro e w3 ⟨rfl,hA3,hb3,hs3⟩;have hB3:Below w1 w1 w3:=(hB2.alloc hB2.size _).trans hb3;have m33:w3.cell? ⟨w,3,none⟩=some (.slice an N cn):=(hB3.cell (p:=⟨w,3,none⟩) hlt1).trans (Ab HB.out 3);obtain⟨pre,hpre⟩:∃ pre,Hid (pre=[kw,c.id,ZK c.pos]):=⟨_,Aa rfl⟩
 have hA3:Cs w1 P w3 pre:=by rw [hpre.out];exact hA3
 clear hA hA2 m0 m3 m4;have hNp:N<=8:=by rw [<- hN];exact Gd hok
 have hpl:pre.length<=3:=by rw [hpre.out];simp
 go_wp2_with fail;go_loopw [40] (fun iv wr=>∃ j:Nat,j<=N/\iv=↑j/\Hid (Cs w1 P wr (pre++(c.entry.names.take j).map B7))/\Hid (Below w1 w1 wr)) (fun iv _=>N - (ZG iv).toNat);case atStart=>exact⟨0,Az _,rfl,Aa (by simpa using hA3),Aa hB3⟩
 case round =>
  obtain⟨j,hj,rfl,hA4,hB4⟩:=hrel;have hBw:Below w w wr:=hB1.trans (hB4.out.mono hB1.size);by_cases hlt:j<N;·exact FD0
  ·obtain rfl:j=N:=oM;have htk:c.entry.names.take j=c.entry.names:=by rw [<- hN,Dn]
   rw [htk] at hA4;clear htk;obtain⟨v,hv4,hO,_,_⟩:=hA4.out;obtain⟨av,cv,rfl,_,_,_⟩:=hO.form;have c11:wr.cell? ⟨P,0,none⟩=some (.slice av (pre++c.entry.names.map B7).length cv):=Ab hv4 0;have hll:(pre++c.entry.names.map B7).length<=11:=by rw [Ah,Bh,hN];omega
   have hjl:=Ly c hok hS.entry.names pre hpl (by rw [hpre.out];exact .cons hkl.out (.cons wG.out (.one zu.out)));exact FD23):P:=h
theorem FD6 (h:P:=by have hql:=HQ.out k n hn';have hqd:Km n=[32,34]++aV n++[34]:=rfl;clear kj d1 d2 hn' ht;obtain⟨vwa,vwc,rfl,_,_⟩:=d3;generalize n.words.length=nw at *;generalize aV n=nt at *;rw [hqd] at hs;have z0:(0:Int)<=(k:Int):=oM;have zk:((k:Int)).toNat=k:=oM;have hk':(k:Int)<(N:Int):=oM;have hs':=Aa hs.symm;have hkm:k*61000<=8*61000:=Dh _ oM;clear hs hqd;go_wp2_with fail;refine F.out.mono ?_;rintro e w2 ⟨rfl,hb2⟩;have qV:=Aa (hBr.out.trans (hb2.mono hBr.out.size));have hb2:=Aa (hb.out.trans (hb2.mono hb.out.size));clear F e1 e2 c3 hBr hb;go_wp2_with fail;refine⟨⟨k+1,t++([32,34]++nt++[34]),oM,by go_num,by simp only [bytes_append,Dv],by simp only [Ah,A8,Bj];omega,hs',qV,hb2⟩,by simp [ZG];omega⟩):P:=h
theorem FD7 (h:P:=by
 clear hn0 hn1;go_enter func74,ntmps74;go_wp2_with (refine Bd rfl 73 _ rfl w 0 rfl C _ hr0.out underlying73 rfl iA ?_)
 refine (AL.out _ hB0.out).mono ?_;rintro e w1 ⟨rfl,hb1⟩;have hB1:=hB0.out.trans (hb1.mono hB0.out.size);have PP:=P.out w1 _ (A6 hr0.out hb1 sM);have k0:=PP.1;have k35:=PP.2.2.2.2.2.1;rw [Bf] at k35;clear PP AL;go_wp2_with fail;refine (NM.out _).mono ?_;rintro e w2 ⟨rfl,hb2⟩;have hB2:=hB1.trans (hb2.mono hB1.size);replace hb2:=hb1.trans (hb2.mono hb1.size);have PP:=P.out w2 _ (A6 hr0.out hb2 sM);clear k0 k35;have k0:=PP.1;have k35:=PP.2.2.2.2.2.1;have k36:=PP.2.2.2.2.2.2;rw [Bf] at k35 k36;have g35:=@Ag _ _ _ k35;have g36:=@Ag _ _ _ k36;clear PP P NM;go_wp2_with fail;refine Ar kR kR ?_;repeat (quiet_step ((with_reducible exact Bc (DE.out _))))
 refine Bv ?_;intro wq hbq;replace hbq:=An hbq;clear g35 g36 k0 k35 k36 DE;have hB3:=hB2.trans (hbq.mono hB2.size);go_wp2;refine Aj (Aq rfl _ _ _) rfl ?_;exact⟨congrArg (fun b=>Ending.returned (.tuple #[.string b,.int .i64 0])) (by simp only [bytes_append,Dv,Ea,Dl]),hB3⟩):P:=h
theorem FD8 (h:P:=by have k1:w1.cell? ⟨w,1,none⟩=some ↑cid:=Ab hblk 1;have k2:w1.cell? ⟨w,2,none⟩=some ↑en.id:=Ab hblk 2;have k3:w1.cell? ⟨w,3,none⟩=some (.slice an N cn):=Ab hblk 3;have k4:w1.cell? ⟨w,4,none⟩=some ↑ps:=Ab hblk 4;clear E T;exact FD25):P:=h
theorem FD9 (h:P:=by
 subst e;obtain⟨pre,hpre⟩:∃ pre,Hid (pre=[kw,c.id]):=⟨_,Aa rfl⟩
 have hA3:Cs w1 P X pre:=by rw [hpre.out];exact hA
 have hB3:Below w1 w1 X:=hBX;clear hA m4;have hNp:N<=8:=by rw [<- hN];exact Gd hok
 have hpl:pre.length<=3:=by rw [hpre.out];simp
 go_wp2_with fail;go_loopw [40] (fun iv wr=>∃ j:Nat,j<=N/\iv=↑j/\Hid (Cs w1 P wr (pre++(c.entry.names.take j).map B7))/\Hid (Below w1 w1 wr)) (fun iv _=>N - (ZG iv).toNat);case atStart=>exact⟨0,Az _,rfl,Aa (by simpa using hA3),Aa hB3⟩
 case round =>
  obtain⟨j,hj,rfl,hA4,hB4⟩:=hrel;have hBw:Below w w wr:=hB1.trans (hB4.out.mono hB1.size);by_cases hlt:j<N;·exact FD0
  ·obtain rfl:j=N:=oM;have htk:c.entry.names.take j=c.entry.names:=by rw [<- hN,Dn]
   rw [htk] at hA4;clear htk;obtain⟨v,hv4,hO,_,_⟩:=hA4.out;obtain⟨av,cv,rfl,_,_,_⟩:=hO.form;have c11:wr.cell? ⟨P,0,none⟩=some (.slice av (pre++c.entry.names.map B7).length cv):=Ab hv4 0;have hll:(pre++c.entry.names.map B7).length<=11:=by rw [Ah,Bh,hN];omega
   have hjl:=Ly c hok hS.entry.names pre hpl (by rw [hpre.out];exact .cons hkl.out (.one wG.out));exact FD23):P:=h
theorem FD10 (h:P:=by
 go_wp2_with fail;cases hi:CH.isName l.id with
 |false =>exact FD70
 |true =>have A:=A3.out w2;rw [hi] at A;replace A:=Aa A;clear A3;refine (A.out).mono ?_;rintro e w9 ⟨rfl,hw9⟩;rw [hw9];clear hw9 w9;clear A;clear W;go_wp2;go_ret;exact⟨by rw [<- hr.out];simp [aO,hi,HL.out],hB2⟩):P:=h
theorem FD11 (h:P:=by
 obtain rfl:KT=T:=hkB.out (by rw [hpar.out];rfl);clear hkP hkB hpar hKT;go_wp2_with (at_builtin;refine Cq rfl _ _ rfl (w+1) _ L rfl (hO2.out.alloc _) w2.heap.size 1 KT rfl ?c1 ?c2 ?c3 ?_)
 case c1=>rw [Cj _ _ _ _ rfl];rfl
 case c2=>rw [hLl.out];omega
 case c3=>simp;omega
 intro v3 w3 hO3 hg3 _;obtain⟨hO4,hB4⟩:=STEP.out v3 w3 _ hO3 hg3;exact FD119):P:=h
theorem FD12 (h:P:=by
 go_wp2_with fail;go_loopw [8] (fun i wr=>∃ k:Nat,k<=ls.length/\i=↑k/\Hid ((ls.take k).any p=false)/\Below w w wr) (fun i _=>ls.length - (ZG i).toNat);case atStart=>exact⟨0,Az _,rfl,rfl,Ac _ _⟩
 case round =>
  obtain⟨k,hk,rfl,hH,hb⟩:=hrel;by_cases hlt:k<ls.length
  ·obtain⟨b,off,rfl,hbl,kj⟩:=hne (by intro h;simp [h] at hlt);obtain⟨l,hl'⟩:∃ l,ls[k]?=some l:=⟨_,Ad hlt⟩
   have hcell:wr.cell? ⟨b,off+k,none⟩=some ↑l:=(hb.cell (p:=⟨b,off+k,none⟩) hbl).trans (kj k l hl');have hmem:l∈ls:=Ap hl';have HT:=Aa (Po p ls k l hl');clear kj hl';go_wp2_with fail;refine (HC.out l _ (hG.below hb) (HM.out l hmem)).mono ?_;rintro e w1 ⟨rfl,hb1⟩;have hb1':=hb.trans (hb1.mono hb.size);rcases hpl:p l with _|_
   ·have HT':Hid ((ls.take (k+1)).any p=false):=by rw [HT.out,hH.out,hpl];exact rfl
    clear hpl;go_wp2;go_roundw;case rel=>exact⟨k+1,oM,by go_num,HT',hb1'⟩
    case measure=>simp [ZG];omega
   ·have hfin:ls.any p=true:=Jc.2 ⟨l,hmem,hpl⟩;have HF:=Aa hfin;clear hpl hfin;go_wp2;go_ret;exact⟨k,rfl,by rw [HF.out];simp,hb1'⟩
  ·have hfin:ls.any p=false:=by have:=hH.out;rwa [Bz oM] at this
   have HF:=Aa hfin;clear hfin hH hne;go_wp2;go_ret;exact⟨-1,rfl,by rw [HF.out];rfl,hb⟩):P:=h
theorem FD13 (h:P:=by
 obtain rfl:k=N:=oM;have htR:t++[59]=R:=by rw [ht.out,<- hR.out,Bz (by rw [hN.out];exact Bg _)]
 have hbx:(⟨t.toArray⟩:ByteArray)++⟨#[59]⟩=⟨R.toArray⟩:=by rw [<- htR,bytes_append]
 have hkm:k*61000<=8*61000:=Dh _ oM;clear ht htR;go_wp2;refine Aj (Aq rfl _ _ _) rfl ?_;exact⟨by first|rfl|(rw [hbx];rfl),hBr.out⟩):P:=h
theorem FD14 (h:P:=by
 go_enter func97,ntmps97;go_wp2_with fail;refine (I.out _).mono ?_;rintro e w1 ⟨rfl,hb1⟩;have hB1:Below w w w1:=(hB0 _).trans (hb1.mono sM);have hblk:=(hb1.block w sM).trans (hW _);have hlt1:w.heap.size<w1.heap.size:=(aZ hblk)
 clear I hb1 hW hB0;have k0:w1.cell? ⟨w,0,none⟩=some ↑kd:=Ab hblk 0;exact FD8):P:=h
theorem FD15 (h:P:=by
 refine Ar kR kR ?_;repeat (quiet_step (first|exact r1 _ _|exact r2 _ _))
 refine Bv ?_;intro wq hbq;replace hbq:=An hbq;go_wp2_with fail;exact⟨_,Ku rfl _ _ _,by rw [HF.out];rfl,hB0 _ hbq⟩):P:=h
theorem FD16 (h:P:=by
 go_wp2_with fail;refine (T.out _ (hB0 _)).mono ?_;rintro e w1 ⟨rfl,hb1⟩;have hB1:Below w w w1:=(hB0 _).trans (hb1.mono sM);clear T hb1;go_wp2_with fail;refine Ar kR kR ?_;repeat (quiet_step (fail))
 refine Bv ?_;intro wq hbq;replace hbq:=An hbq;go_wp2;go_ret;exact⟨rfl,hB1.trans (hbq.mono hB1.size)⟩):P:=h
theorem FD17 (h:P:=by
 refine Ar kR kR ?_;repeat (quiet_step (first|exact Bc (cT _ (D6 _ _ _))|exact Bc (cJ _ (D6 _ _ _))))
 refine Bv ?_;intro wq hbq;replace hbq:=An hbq;clear cT cJ g0 g1;go_wp2;refine Aj (Aq rfl _ _ _) rfl ?_;refine⟨?_,hB1.trans (hbq.mono hB1.size)⟩;rw [<- hres'.out,<- bytes_append,<- bytes_append];rfl):P:=h
theorem FD18 (h:P:=by
 go_wp2;refine Fr (r:=r) (cells:=[.int .i64 0,.int .i64 0,.int .i64 0,.string ⟨#[]⟩]) ?_ hth ?_ hbb nR (Aa ?_) <;> try rfl
 rw [<- hr.out,Hn.out];rfl):P:=h
theorem FD19 (h:P:=by
 go_wp2_with (refine K7 rfl _ _ rfl base _ ls rfl hO B _ lx rfl hX oM oM ?_;intro v5 w5 hO5 hg5 h45;have hn5:v5.ownBlock≠some p:=h45.elim (fun h=>(by rw [h];exact hne)) (fun h e=>(by rw [h] at e;injection e;omega));clear h45;obtain⟨a5,c5,rfl,hf5⟩:=hO5.form;have hp5:=(hg5.block p hpl (fun e=>hne e.symm)).trans hv;have c5':w5.cell? ⟨p,0,none⟩=some (.slice av N cv):=Ab hp5 0;have f5':w5.frozen? ⟨p,0,none⟩=false:=Bb hp5 0)
 go_end0;have y0:=A7 w5 p 0 (.slice a5 (ls++lx).length c5) _ _ _ hp5;simp only [List.setIfInBounds_toArray,List.set_cons_zero] at y0;have e1:(ls++lx).length=N+M:=by simp [hN,hM]
 refine⟨rfl,⟨_,?_,Lc hO5 (Ka w5 ⟨p,0,none⟩ _) (.inr hn5),hn5,hbp⟩,?_,?_⟩;·simpa [e1] using y0
 ·exact (((Ac base w).grown hg5 oM (fun k e=>hblk k e))).setCell (p:=⟨p,0,none⟩) hbp _
 ·simp [World.setCell];exact hg5.size):P:=h
theorem FD20 (h:P:=by go_wp2_with fail;refine⟨sM,.inl ⟨_,_,rfl,run_takeDeferred (ds:=[]) hdef,?_⟩⟩;exact⟨_,Aq rfl _ _ _,_,rfl,hbD⟩):P:=h
theorem FD21 (h:P:=by
 go_wp2;go_loop [3] (fun t=>∃ k f:Nat,t=↑k/\1<=k/\k<=2305843009213693952/\Hid (n<=k*2 ^ f/\jC f n k=CH.half n)) (fun t=>n - (ZG t).toNat);case atStart=>exact⟨1,n,rfl,oM,oM,by rw [Nat.one_mul];exact Gw Nat.lt_two_pow_self,rfl⟩
 case round =>
  obtain⟨k,f,rfl,hk,hk2,hH⟩:=hrel;by_cases hlt:2*k<n
  ·go_wp2;go_round;case rel =>
    obtain⟨h1,h2⟩:=hH.out;cases f with
    |zero=>simp at h1;omega
    |succ f =>
     refine⟨2*k,f,by go_num,oM,oM,?_,?_⟩;·rw [Jb] at h1;rw [Mc 2 k,Nat.mul_assoc,Mc 2];exact h1
     ·rw [jC,Au hlt] at h2;exact h2
   case measure=>simp [ZG];omega
  ·go_wp2;go_ret;exact⟨O0 (by rw [<- hH.out.2,mF _ _ _ hlt]),rfl⟩):P:=h
theorem FD22 (h:P:=by rw [hb] at A;replace A:=Aa A;go_enter func321,ntmps321;go_wp2_with fail;refine A.out.mono ?_;rintro e w9 ⟨rfl,hw9⟩;rw [hw9];clear A hw9 w9;clear I;go_wp2;go_ret;exact⟨by rw [<- hr.out];simp only [CH.slen,hb];rfl,Ac _ _⟩):P:=h
theorem FD23 (h:P:=by have J:=Aa (Lx _ (pre++c.entry.names.map B7) [32] wr hO.strs oM oM);have hRf:Hid (r=bU (some (CH.join [32] (pre++c.entry.names.map B7)++[59]))):=Aa (by rw [<- hr.out,hpre.out,<- hkw.out,hkn];unfold bQ;rw [hok,hkn];rfl);generalize CH.join [32] (pre++c.entry.names.map B7)=JJ at *;generalize (pre++c.entry.names.map B7).length=LL at *;have l1:¬ (9223372036854775807<JJ.length+1):=oM;clear hjl;clear hO hv4 hA4;go_wp2_with fail;refine J.out.mono ?_;rintro e w7 ⟨rfl,hb7⟩;clear J c11;go_wp2;refine Aj (Aq rfl _ _ _) rfl ?_;refine⟨?_,hBw.trans (hb7.mono hBw.size)⟩;rw [hRf.out];unfold bU;dsimp only;rw [<- bytes_append];rfl):P:=h
theorem FD24 (h:P:=by obtain⟨a,cap,h1,h2,h3,h4⟩:=h;refine⟨a,cap,h1,h2,h3,fun hne=>?_⟩;obtain⟨b,off,e,hlt,hx⟩:=h4 hne;refine⟨b,off,e,Ae hlt hB,fun j x hj=>?_⟩;obtain⟨s,c1,c2⟩:=hx j x hj;exact⟨s,c1,c2.mono hB⟩):P:=h
theorem FD25 (h:P:=by go_wp2;go_ret;exact⟨rfl,hB1⟩):P:=h
theorem FD26 (h:P:=by go_enter func166,ntmps166;go_wp2;go_ret;exact⟨rfl,hB0 _⟩):P:=h
theorem FD27 (h:P:=by go_enter func40,ntmps40;go_wp2;refine Aj (Aq rfl _ _ _) rfl ?_;exact⟨rfl,hB0.out _⟩):P:=h
theorem FD28 (h:P:=by
 subst hwm;rcases (by cases b1 <;> cases b2 <;> cases b3 <;> simp:(b1=true)\/(b1=false/\b2=false)\/(b1=false/\b2=true/\b3=false)\/(b1=false/\b2=true/\b3=true)) with rfl|⟨rfl,rfl⟩|⟨rfl,rfl,rfl⟩|⟨rfl,rfl,rfl⟩;all_goals rcases (by cases b4 <;> cases b5 <;> cases b6 <;> simp:(b4=false)\/(b4=true/\b5=false)\/(b4=true/\b5=true/\b6=false)\/(b4=true/\b5=true/\b6=true)) with rfl|⟨rfl,rfl⟩|⟨rfl,rfl,rfl⟩|⟨rfl,rfl,rfl⟩
 all_goals go_wp2;go_ret;exact⟨by rw [<- hr'.out];rfl,(Ac _ w).alloc nR _⟩):P:=h
theorem FD29 (h:P:=by
 have hgb:Below base w w':=Bu g2 hx5 hob;have hO3:dH base B w' v' (out++zs.map (·.1)):=by
  refine⟨xs++zs,by rw [Ep,hx1],?_,fun z hz=>?_,hx4,Af hx5 hgb.size⟩;·rw [Ah,Bh,hn,hm,Hg];exact g1
  ·rcases Dp.1 hz with h1|h1;·exact⟨(hx3 z h1).1.below hgb hx4,(hx3 z h1).2.below hgb hx4⟩
   ·exact⟨(hat z h1).1.below hgb hx4,(hat z h1).2.below hgb hx4⟩
 exact FD111):P:=h
theorem FD30 (h:P:=by go_wp2;go_ret;exact⟨rfl,Ac _ _⟩):P:=h
theorem FD31 (h:P:=by
 have hgb:Below base w w':=Bu g2 hx5 hob;have hO3:Bi base B w' v' (out++zs.map (·.1)):=by
  refine⟨xs++zs,by rw [Ep,hx1],?_,fun z hz=>?_,hx4,Af hx5 hgb.size⟩;·rw [Ah,Bh,hn,hm,show A9 (xs++zs)=A9 xs++A9 zs from Hg];exact g1
  ·rcases Dp.1 hz with h1|h1;·exact (hx3 z h1).below hgb hx4
   ·exact (hat z h1).below hgb hx4
 exact FD111):P:=h
theorem FD32 (h:P:=by have hO4:Hid (At w w3 v3 ((ws.take (k+1)).flatMap CH.Word.texts)):=Aa (by rw [hts.out];exact hO3);have hB4:Hid (Below w w w3):=Aa (((hB2).alloc oM _).grown hg3 (by simp;omega) (fun j hj=>(Dw hO2 j hj).1));have tH:Hid (((ws.take (k+1)).flatMap CH.Word.texts).length<=(k+1)*5000):=Aa (by rw [hts.out,Ah,Di];have h9:=hLe.out;omega);exact FD65):P:=h
theorem FD33 (h:P:=by go_wp2;refine Aj (Aq rfl _ _ _) rfl ?_;exact⟨by rw [<- hR1.out];rfl,hB1.alloc hB1.size _⟩):P:=h
theorem FD34 (h:P:=by replace hR:=Aa hR;clear T1 T2;go_enter func310,ntmps310;go_wp2;go_ret;exact⟨by rw [<- hR.out];rfl,hB0.out _⟩):P:=h
theorem FD35 (h:P:=by go_wp2;go_ret;exact⟨rfl,rfl⟩):P:=h
theorem FD36 (h:P:=by
 clear hR hfalse;rcases hop with rfl|rfl|rfl|rfl|rfl|⟨⟨k1,k2,k3⟩,k4,k5,k6⟩ <;>
  (go_enter func310,ntmps310
   go_wp2
   go_ret
   exact⟨by rw [hr.out];rfl,hB0.out _⟩)):P:=h
theorem FD37 (h:P:=by go_wp2;go_ret;exact⟨by rw [<- hr.out];unfold CH.within;rw [d0];rfl,rfl⟩):P:=h
theorem FD38 (h:P:=by dsimp only [bU];go_wp2;refine Aj (Aq rfl _ _ _) rfl ?_;exact⟨by rw [<- hR1.out];rfl,hB1.trans (hb2.mono hB1.size)⟩):P:=h
theorem FD39 (h:P:=by go_wp2;go_ret;exact⟨rfl,hb1⟩):P:=h
theorem FD40 (h:P:=by generalize keys.length=NK at *;generalize l.length=NL at *;go_enter func3,ntmps3;go_wp2_with fail;refine (Tw w hG).mono ?_;rintro e w1 ⟨rfl,hb1⟩;go_wp2_with fail;refine (FW.out w1 hb1).mono ?_;rintro e w2 ⟨rfl,hb2⟩;have hB2:=Aa (hb1.trans (hb2.mono hb1.size));go_wp2;go_ret;exact⟨rfl,hB2.out⟩):P:=h
theorem FD41 (h:P:=by
 by_cases wU:N<=12
 ·have z1:ZH ((12:Int)<(N:Int))=false:=by simp;omega
  have hr1:r=0:=by rw [<- hr.out,hword.out,h0,hR0,Am wU];rfl
  subst hr1;exact FD20
 ·have z1:ZH ((12:Int)<(N:Int))=true:=by simp;omega
  have hr1:r=1:=by rw [<- hr.out,hword.out,h0,hR0,Ak wU];rfl
  subst hr1;exact FD20):P:=h
theorem FD42 (h:P:=by have k3:w1.cell? ⟨w,3,none⟩=some (.string ⟨List.toArray tg⟩):=Ab hblk 3;clear I2 I3;exact FD25):P:=h
theorem FD43 (h:P:=by obtain⟨a,cap,h1,h2,h3,h4⟩:=h;refine⟨a,cap,h1,h2,h3,fun hne=>?_⟩;obtain⟨b,off,e,hlt,hx⟩:=h4 hne;refine⟨b,off,e,hlt,fun j x hj=>?_⟩;obtain⟨s,c1,c2⟩:=hx j x hj;exact⟨s,fun i u hi=>(hb.cell (p:=⟨b,off+j*37+i,none⟩) (Ae hlt hB)).trans (c1 i u hi),c2.below hb hB⟩):P:=h
theorem FD44 (h:P:=by obtain⟨a,cap,h1,h2,h3,h4⟩:=h;refine⟨a,cap,h1,h2,h3,fun hne=>?_⟩;obtain⟨b,off,e,hlt,hx⟩:=h4 hne;refine⟨b,off,e,hlt,fun j x hj=>?_⟩;obtain⟨s,c1,c2⟩:=hx j x hj;exact⟨s,fun i u hi=>(hb.cell (p:=⟨b,off+j*8+i,none⟩) (Ae hlt hB)).trans (c1 i u hi),c2.below hb hB⟩):P:=h
theorem FD45 (h:P:=by go_wp2;go_ret;exact⟨by rw [hr.out];rfl,hB0.out _⟩):P:=h
theorem FD46 (h:P:=by
 intro j u hj;rcases j with _|j;·simp at hj;subst hj;simpa [Addr.add] using hcell
 ·simp at hj):P:=h
theorem FD47 (h:P:=by
 go_enter Tryz.func47,Tryz.ntmps47;go_wp2_with (first|(refine (Uf _ _).mono ?_;rintro e w' ⟨rfl,rfl⟩)|fail)
 go_ret;exact⟨rfl,rfl⟩):P:=h
theorem FD48 (h:P:=by
 obtain⟨es,clock,hb,hes,_⟩:=h;have hf:=P9 w k kvs es.toList hes;cases hq:Cd k kvs 0 with
 |none =>rw [hq] at hf;simp [Instr.lookup,Ej hT,G8 hb,Mn,hf,hz,Result.andThen]
 |some p =>rw [hq] at hf;simp [Instr.lookup,Ej hT,G8 hb,Mn,hf,Result.andThen]):P:=h
theorem FD49 (h:P:=by go_wp2_with fail;refine Aj (Aq rfl _ _ _) rfl ?_;exact⟨_,rfl,hO.out.below ((Ac _ wr).alloc nR _),hB.out.alloc hB.out.size _⟩):P:=h
theorem FD50 (h:P:=by
 clear T hb1 hblk k0 kc;go_wp2_with fail;refine Ar kR kR ?_;repeat (quiet_step (fail))
 refine Bv ?_;intro wq hbq;replace hbq:=An hbq;clear g0 gc;go_wp2;go_ret;have hB2:=hB1.trans (hbq.mono hB1.size);exact⟨rfl,HC.out.grow hB2,Held.of_below hB2⟩):P:=h
theorem FD51 (h:P:=by rw [hx] at hr;replace hr:=Aa hr.out;exact FD156):P:=h
theorem FD52 (h:P:=by clear hR2;go_wp2;refine Aj (Aq rfl _ _ _) rfl ?_;exact⟨by rw [<- hR3.out];rfl,hB4⟩):P:=h
theorem FD53 (h:P:=by have A:=I.out [110] 0 dC w;rw [h4] at A;replace A:=Aa A;go_wp2_with fail;refine A.out.mono ?_;rintro e w9 ⟨rfl,hw9⟩;rw [hw9];clear A hw9 w9;clear I;go_wp2;go_ret;exact⟨by rw [<- hr.out];simp only [CH.slen,h1,h2,h3,h4];rfl,Ac _ _⟩):P:=h
theorem FD54 (h:P:=by have A:=I.out [39,96,94] 1 dC w1;rw [hq] at A;replace A:=Aa A;go_wp2_with fail;refine A.out.mono ?_;rintro e w9 ⟨rfl,hw9⟩;rw [hw9];clear A hw9 w9;clear I;go_wp2;go_ret;exact⟨by rw [<- hr.out];simp only [CH.slen,hL,hq];rfl,hb1⟩):P:=h
theorem FD55 (h:P:=by have A:=I.out [110] 0 dC w;rw [h4] at A;replace A:=Aa A;go_wp2_with fail;refine A.out.mono ?_;rintro e w9 ⟨rfl,hw9⟩;rw [hw9];clear A hw9 w9;clear I;go_wp2;go_ret;exact⟨by rw [<- hr.out];simp only [CH.slen,h1,h3,h4];rfl,Ac _ _⟩):P:=h
theorem FD56 (h:P:=by have z1:¬ 9223372036854775807<6+1+id.length:=oM;have z2:¬ 9223372036854775807<6+1+id.length+1:=oM;have z3:¬ 9223372036854775807<6+1+id.length+1+nt.length:=oM;have z4:¬ 9223372036854775807<6+1+id.length+1+nt.length+1:=oM;exact FD7):P:=h
theorem FD57 (h:P:=by refine (TX.out _ hB1).mono ?_;rintro e w2 ⟨rfl,hb2⟩;clear TX;go_wp2;refine Aj (Aq rfl _ _ _) rfl ?_;exact⟨congrArg (fun b=>Ending.returned (.tuple #[.string b,.int .i64 0])) (bytes_append _ _),hB1.trans (hb2.mono hB1.size)⟩):P:=h
theorem FD58 (h:P:=by clear i1 i2 hI hd hne HW;go_wp2_with fail;refine L1.out.mono ?_;rintro e w1 ⟨rfl,hb1⟩;have hB1:=hB.out.trans (hb1.mono hB.out.size);clear L1 hb1;go_wp2;refine Aj (Aq rfl _ _ _) rfl ?_;exact⟨_,_,rfl,by rw [hr.out];rfl,hB1⟩):P:=h
theorem FD59 (h:P:=by unfold Ds;exact dU.fO (dU.fO (dU.fO (dU.fO (dU.fO (dU.fO (dU.fO (fun _ h=>by cases h) (.one oM)) (.one oM)) (.cons oM (.cons sM (.one oM)))) (.cons sM (.one oM))) (.cons sM (.one oM))) (.cons sM (.one oM))) (.cons sM (.one oM))):P:=h
theorem FD60 (h:P:=by obtain⟨_,_,e3,_,_⟩:=h.lm.form;obtain⟨_,_,e4,_,_⟩:=h.lp.form;obtain⟨_,_,e5,_,_⟩:=h.hj.form;change vn=_ at e1;change vk=_ at e2;change vm=_ at e3;change vp=_ at e4;change vj=_ at e5;subst e1 e2 e3 e4 e5;exact Df.1 rF):P:=h
theorem FD61 (h:P:=by
 generalize CH.isIn s i _=b at *;replace hsl:=Aa hsl;go_enter func350,ntmps350;go_wp2_with fail;refine (C.out _).mono ?_;rintro e w1 ⟨rfl,hb1⟩;cases b;·obtain rfl:=hsl.out;exact FD39
 ·obtain rfl:=hsl.out;exact FD39):P:=h
theorem FD62 (h:P:=by go_wp2_with fail;refine (WN.out _).mono ?_;rintro e w3 ⟨rfl,hb3⟩;clear WN;go_wp2;refine Aj (Aq rfl _ _ _) rfl ?_;exact⟨by rw [<- hR2.out];rfl,(hB2.alloc hB2.size _).trans (hb3.mono (hB2.alloc hB2.size _).size)⟩):P:=h
theorem FD63 (h:P:=by go_wp2;refine Aj (Aq rfl _ _ _) rfl ?_;exact⟨by rw [<- hR1.out];rfl,hB2⟩):P:=h
theorem FD64 (h:P:=by go_wp2;go_ret;exact⟨by rw [hr'];rfl,hb⟩):P:=h
theorem FD65 (h:P:=by
 clear hO3 hg3;go_wp2;go_roundw;case rel=>exact⟨k+1,oM,by go_num,hO4,tH,hB4⟩
 case measure=>simp [ZG];omega):P:=h
theorem FD66 (h:P:=by obtain⟨a,cap,hv,h1,h2,h3⟩:=h;refine⟨a,cap,hv,h1,h2,fun hne=>?_⟩;obtain⟨b,off,ha,hlt,hc⟩:=h3 hne;exact⟨b,off,ha,hlt,fun j l hj=>(hb.cell (p:=⟨b,off+j,none⟩) (Ae hlt hB)).trans (hc j l hj)⟩):P:=h
theorem FD67 (h:P:=by
 have hr1:r=false:=by rw [<- hr];simp
 clear hr;subst hr1;clear T;exact FD25):P:=h
theorem FD68 (h:P:=by
 rintro e w1 ⟨rfl,hb1⟩;go_wp2;go_roundw;case rel=>exact⟨k+1,CH.sum t,oM,by go_num,rfl,by rw [dL];omega,by rw [hH.out,<- iP];exact rfl,hb.trans (hb1.mono hb.size)⟩
 case measure=>simp [ZG];omega):P:=h
theorem FD69 (h:P:=by
 go_wp2_with fail;go_loopw [3,4] (fun ov iv wr=>ov=.slice none 0 0/\iv=.int .i64 0/\w=wr) (fun _ _ _=>0);case atStart=>exact⟨rfl,rfl,rfl⟩
 case round =>obtain⟨rfl,rfl,rfl⟩:=hrel;exact FD35):P:=h
theorem FD70 (h:P:=by have A:=A3.out w2;rw [hi] at A;replace A:=Aa A;clear A3 W;refine (A.out).mono ?_;rintro e w9 ⟨rfl,hw9⟩;rw [hw9];clear hw9 w9;clear A;go_wp2;go_ret;exact⟨by rw [<- hr.out];simp [aO,hi],hB2⟩):P:=h
theorem FD71 (h:P:=by
 go_wp2;refine Fr (r:=r) (cells:=[.int .i64 4,↑i,.int .i64 0,.string ((ByteArray.mk s.toArray).extract i (i+1))]) ?_ hth ?_ hb nR (Aa ?_) <;> try rfl
 rw [<- hr.out,Hn.out];simp only [Fk,Ho];rfl):P:=h
theorem FD72 (h:P:=by go_wp2_with fail;refine (Cvh l w hl).mono ?_;rintro e w1 ⟨rfl,hb⟩;exact FD130):P:=h
theorem FD73 (h:P:=by go_enter func198,ntmps198;go_wp2_with fail;refine HH.out.mono ?_;rintro e w' ⟨rfl,rfl⟩;go_wp2_with fail;refine IH.out.mono ?_;rintro e w' ⟨rfl,rfl⟩;go_wp2;go_ret;exact⟨O0 oM,rfl⟩):P:=h
theorem FD74 (h:P:=by clear E;go_enter func158,ntmps158;go_wp2;go_ret;exact⟨rfl,hB0 _ _⟩):P:=h
theorem FD75 (h:P:=by
 obtain⟨t,ht⟩:=ht;unfold dV;rw [ht];have:hK.getD v.authority.toNat []=jP:=by rw [ha];rfl
 rw [this,hc,hl];have q:ZH (v.authority >= (hK.length:Int))=false:=by rw [ha];decide
 rw [q];rfl):P:=h
theorem FD76 (h:P:=by
 obtain⟨xs,h1,⟨h2,h2'⟩,h3,h4,h5⟩:=h;refine⟨xs,h1,⟨h2,?_⟩,h3,hB,Af hb h5⟩;rcases h2' with h|⟨g,cap,cur,e,hg,r⟩;·exact .inl h
 ·exact .inr ⟨g,cap,cur,e,Af hb hg,r⟩):P:=h
theorem FD77 (h:P:=by
 go_wp2_with fail;go_loopw [8] (fun a wr=>a=.int .i64 1/\w=wr) (fun _ _=>0);case atStart=>exact⟨rfl,rfl⟩
 case round =>obtain⟨rfl,rfl⟩:=hrel;go_wp2;go_end0;exact⟨rfl,rfl⟩):P:=h
theorem FD78 (h:P:=by exact⟨none,_,by have:=run_endLoop (P:=P) hl (by rw [hrec];simp);rw [hrec] at this;exact this,hdone _ xs _ nR hS (hI.putObj _ hi oM hl rfl) ((World.putObj_heap_other oM).trans hk)⟩):P:=h
theorem FD79 (h:P:=by rintro e w1 ⟨rfl,hb1⟩;have hB1:=(hB0.out _ _).trans (hb1.mono (hB0.out _ _).size);exact FD25):P:=h
theorem FD80 (h:P:=by
 simp only [Bl,Ci,Et] at hr;rcases hr with rfl|rfl;·obtain⟨kvs,⟨es,ck,e,_⟩,_⟩:=hC.known;exact⟨es,ck,e⟩
 ·obtain⟨kvs,⟨es,ck,e,_⟩,_⟩:=hC.forks;exact⟨es,ck,e⟩):P:=h
theorem FD81 (h:P:=by exact⟨rfl,hB1.trans (hb2.mono hB1.size)⟩):P:=h
theorem FD82 (h:P:=by subst h0;exact⟨_,[],rfl,⟨a,cap,rfl,h1,h2,fun hne=>absurd rfl hne⟩,fun _ h=>by cases h⟩):P:=h
theorem FD83 (h:P:=by replace hr:=Aa hr;go_wp2;go_ret;exact⟨by rw [hr.out];rfl,hBW.trans (hB.out.mono hBW.size)⟩):P:=h
theorem FD84 (h:P:=by clear I3;go_wp2;go_ret;exact⟨rfl,hBw2⟩):P:=h
theorem FD85 (h:P:=by
 have l1:¬ (9223372036854775807<1+T.length):=oM;have l2:¬ (9223372036854775807<1+T.length+1):=oM;cases b6 <;> cases b5;·exact FD11
 ·exact FD2
 ·exact FD2
 ·exact FD2):P:=h
theorem FD86 (h:P:=by exact⟨none,0,rfl,Bg _,oM,fun h=>absurd rfl h⟩):P:=h
theorem FD87 (h:P:=by
 intro e;subst e;have hlt:cu s [1] i<s.length:=oM;have hg:=Ad hlt;rw [jq s _ _ hg] at hc;have:s[cu s [1] i]=10:=by simpa using hb
 rw [this] at hc;exact absurd hc dC):P:=h
theorem FD88 (h:P:=by simp only [ZM,Dk,Ef];rw [Ai oM,Ai oM,Au trivial]):P:=h
theorem FD89 (h:P:=by refine⟨_,l,rfl,⟨_,cap,by rw [hl],oM,h2,fun _=>⟨b,off,rfl,hb,fun j x hj=>(hp j x hj).1⟩⟩,fun x hx=>?_⟩;obtain⟨j,hj⟩:=Dj.1 hx;exact (hp j x hj).2):P:=h
theorem FD90 (h:P:=by clear hO;go_wp2_with fail;refine J.out.mono ?_;rintro e w2 ⟨rfl,hb2⟩;clear J m0;go_wp2;go_ret;exact⟨by rw [<- hRe.out];rfl,hB.trans (hb2.mono hB.size)⟩):P:=h
theorem FD91 (h:P:=by go_wp2_with fail;refine (V.out _ hB2).mono ?_;rintro e w3 ⟨rfl,hb3⟩;clear V;go_wp2;go_ret;exact⟨by rw [<- hR2.out];rfl,hB2.trans (hb3.mono hB2.size)⟩):P:=h
theorem FD92 (h:P:=by go_wp2;go_ret;exact⟨rfl,hb1.trans (hb2.mono hb1.size)⟩):P:=h
theorem FD93 (h:P:=by
 rw [hx] at hne;rw [show (en.id != cid)=true from by rw [bne,hx];rfl] at hr;have hr1:r=false:=by rw [<- hr];simp
 clear hr;subst hr1;clear E T;exact FD25):P:=h
theorem FD94 (h:P:=by go_wp2;refine Aj (Aq rfl _ _ _) rfl ?_;exact⟨rfl,hB2⟩):P:=h
theorem FD95 (h:P:=by go_wp2;refine Aj (Aq rfl _ _ _) rfl ?_;exact⟨rfl,hB1⟩):P:=h
theorem FD96 (h:P:=by
 go_wp2;refine Fr (r:=r) (cells:=[.int .i64 0,.int .i64 0,.int .i64 0,.string ⟨#[]⟩]) ?_ hth ?_ hb nR (Aa ?_) <;> try rfl
 rw [<- hr.out,Hn.out];rfl):P:=h
theorem FD97 (h:P:=by obtain rfl:k=N:=oM;go_wp2;go_ret;exact⟨rfl,hBr.out⟩):P:=h
theorem FD98 (h:P:=by
 go_wp2;go_roundw;case rel=>exact⟨.inr ⟨by go_num,_,_,_,rfl,Aa ⟨_,hO5,oM⟩⟩,Aa (hBW.trans (hb5.mono hBW.size))⟩
 case measure=>simp [ZG]):P:=h
theorem FD99 (h:P:=by go_wp2_with fail;refine HI.out.mono ?_;rintro e w1 ⟨i,rfl,hi,hb⟩;have HH:=Aa hi;clear hi;go_wp2;go_ret;exact⟨by rw [<- HH.out];rfl,hb⟩):P:=h
theorem FD100 (h:P:=by go_wp2;refine Aj (Aq rfl _ _ _) rfl ?_;exact⟨by rw [<- hR1.out];rfl,hB1⟩):P:=h
theorem FD101 (h:P:=by
 have h4:(CH.title n.script).length<=6:=by unfold CH.title;exact FD154
 unfold aV;simp only [Ah,A8,Bj,Bf] at h1 ⊢;omega):P:=h
theorem FD102 (h:P:=by obtain⟨a,cap,hv,h1,h2,h3⟩:=h;refine⟨a,cap,hv,h1,h2,fun hne=>?_⟩;obtain⟨b,off,ha,hlt,hc⟩:=h3 hne;exact⟨b,off,ha,Ae hlt hB,hc⟩):P:=h
theorem FD103 (h:P:=by
 have hr1:r=1:=by
  have h0:(R==[])=false:=by cases R with|nil=>cases hRe|cons _ _=>rfl
  rw [<- hr.out,hword.out,h0];rfl
 subst hr1;exact FD20):P:=h
theorem FD104 (h:P:=by go_wp2;refine Aj (results_tmp3 rfl _ _ _) rfl ?_;refine⟨(hBr.trans (hb3.mono hBr.size)).alloc (Af hBr.size hb3.size) _,?_⟩;rw [hl'];rfl):P:=h
theorem FD105 (h:P:=by go_enter func264,ntmps264;go_wp2;go_ret;exact⟨Ac _ _,_,rfl,fun _=>rfl⟩):P:=h
theorem FD106 (h:P:=by exact⟨rfl,(hB0 _).trans (hb1.mono sM)⟩):P:=h
theorem FD107 (h:P:=by rintro e w3 ⟨rfl,hb3⟩;clear S;go_wp2;refine Aj (Aq rfl _ _ _) rfl ?_;exact⟨by rw [<- hR1.out];rfl,hB2.trans (hb3.mono hB2.size)⟩):P:=h
theorem FD108 (h:P:=by
 obtain⟨hlen,⟨rfl,h0⟩|⟨g,cap,cur,rfl,hb,hg,hn,hc,hsz',htk⟩⟩:=hown;·exact⟨none,0,by rw [h0],oM⟩
 ·exact⟨_,cap,rfl,hn⟩):P:=h
theorem FD109 (h:P:=by go_enter func119,ntmps119;go_wp2;go_ret;exact⟨Ac _ _,_,rfl,rfl,nofun⟩):P:=h
theorem FD110 (h:P:=by
 obtain⟨xs,h1,⟨hlen,⟨rfl,h0⟩|⟨g,cap,cur,rfl,_,_,hn,_⟩⟩,_⟩:=h;·exact⟨none,0,by rw [h0],oM⟩
 ·exact⟨_,cap,rfl,hn⟩):P:=h
theorem FD111 (h:P:=by
 obtain⟨av,cv,rfl,_⟩:=hO3.form;have e:(out++zs.map (·.1)).length=n+m:=by rw [Ah,Bh,hn,hm]
 rw [e] at hO3 ⊢;exact h av cv w' hO3 g2):P:=h
theorem FD112 (h:P:=by go_wp2;go_ret;exact⟨rfl,hB.out⟩):P:=h
theorem FD113 (h:P:=by
 cases y2;·have:=List.isEmpty_eq_false_iff.1 s3;exact .inr ⟨⟨this,Cb.2 this⟩,rfl⟩
 ·exact .inl ⟨List.isEmpty_iff.1 s3,rfl⟩):P:=h
theorem FD114 (h:P:=by rw [Ls,Ep,J8];refine⟨hnd,sM,?_⟩;intro a ha b hb' e;obtain⟨x,hx,rfl⟩:=Dz.1 ha;simp only [Fa,Iq,Ce] at hb';have:=hold x hx;omega):P:=h
theorem FD115 (h:P:=by refine⟨?_,Bb hz _⟩;rw [Bf,Ab hz j];rcases (oM:j=0\/j=1\/j=2\/j=3\/j=4\/j=5\/j=6\/j=7) with rfl|rfl|rfl|rfl|rfl|rfl|rfl|rfl <;> rfl):P:=h
theorem FD116 (h:P:=by
 obtain⟨_,⟨e,_⟩|⟨g,cap,cur,e,hb,_⟩⟩:=hx2;·rw [e];intro j hj;cases hj
 ·rw [e];intro j hj;simp [Value.ownBlock] at hj;omega):P:=h
theorem FD117 (h:P:=by simp only [Value.slice.injEq] at e;obtain⟨rfl,rfl,rfl⟩:=e;exact⟨h0,Bg _,.inl ⟨rfl,rfl,rfl⟩,xs,h1,h3,fun g e=>by cases e⟩):P:=h
theorem FD118 (h:P:=by go_wp2;go_ret;exact⟨rfl,hBw3⟩):P:=h
theorem FD119 (h:P:=by
 clear STEP hO3 hg3 hO2 hB2 n0 n1;go_wp2;go_roundw;case rel=>exact⟨j+1,oM,by go_num,hO4,hB4⟩
 case measure=>simp [ZG];omega):P:=h
theorem FD120 (h:P:=by have A:=I.out ([98,100,102,103,104,106,107,108,109,110,112,113,114,115,116,119,120,121,122,39]:List UInt8) 0 dC w;exact FD22):P:=h
theorem FD121 (h:P:=by go_wp2;go_ret;exact⟨rfl,hB0.out _⟩):P:=h
theorem FD122 (h:P:=by rcases M0 (hx.trans he) with rfl|rfl <;> decide):P:=h
theorem FD123 (h:P:=by go_wp2;go_ret;exact⟨rfl,hB2⟩):P:=h
theorem FD124 (h:P:=by
 rcases hu with rfl|rfl|rfl|rfl|rfl|rfl|rfl|rfl;·rfl
 ·rfl
 ·rfl
 ·rfl
 ·rw [e1];rfl
 ·rfl
 ·rw [e2];rfl
 ·rw [e3];rfl):P:=h
theorem FD125 (h:P:=by go_enter func39,ntmps39;go_wp2;go_ret;exact⟨rfl,hB0.out _ _⟩):P:=h
theorem FD126 (h:P:=by exact⟨none,0,by rw [h0],oM,oM,fun hne=>absurd (Bo.1 h0) hne⟩):P:=h
theorem FD127 (h:P:=by unfold Ch;rw [hk];exact⟨rfl,rfl,⟨rfl,HS.out.n⟩,trivial⟩):P:=h
theorem FD128 (h:P:=by have l4:¬ (9223372036854775807<6+List.length J):=oM;exact FD17):P:=h
theorem FD129 (h:P:=by have hk:=hok false (Aa (by rw [Ee]));clear hok;go_wp2;refine Aj (Aq rfl _ _ _) rfl ?_;refine⟨hb1,?_⟩;rw [hk];rfl):P:=h
theorem FD130 (h:P:=by go_wp2;go_ret;exact⟨rfl,hb⟩):P:=h
theorem FD131 (h:P:=by simp only [ZM,Dk,Ef];rw [Au trivial]):P:=h
theorem FD132 (h:P:=by refine (TX.out _ hB1).mono ?_;rintro e w2 ⟨rfl,hb2⟩;clear TX;go_wp2;refine Aj (Aq rfl _ _ _) rfl ?_;exact FD81):P:=h
theorem FD133 (h:P:=by
 obtain⟨xs,_,⟨_,⟨rfl,_⟩|⟨g,cap,cur,rfl,hb,hg,_⟩⟩,_⟩:=h;·cases hj
 ·cases hj;exact⟨hb,(aZ hg)⟩):P:=h
theorem FD134 (h:P:=by go_enter func35,ntmps35;go_wp2_with fail;refine Aj (Aq rfl _ _ _) rfl ?_;exact⟨by rw [<- hR2.out];rfl,(hB0 _)⟩):P:=h
theorem FD135 (h:P:=by go_enter func178,ntmps178;go_wp2;go_ret;exact⟨by rw [<- hr.out];simp only [Tg,h1,h2];rfl,(Ac _ w).alloc nR _⟩):P:=h
theorem FD136 (h:P:=by exact⟨rfl,hB2.trans (hb3.mono hB2.size)⟩):P:=h
theorem FD137 (h:P:=by exact⟨rfl,(Cn w _).trans (hb1.mono sM)⟩):P:=h
theorem FD138 (h:P:=by go_wp2_with fail;go_ret;exact⟨rfl,rfl⟩):P:=h
theorem FD139 (h:P:=by
 go_wp2;go_roundw;case rel=>exact⟨j+1,m+1,oM,oM,by go_num,rfl,by trivial⟩
 case measure=>simp [ZG];omega):P:=h
theorem FD140 (h:P:=by exact⟨rfl,(Ac _ w).alloc nR _⟩):P:=h
theorem FD141 (h:P:=by rintro e w1 ⟨rfl,hb1⟩;have hB1:=(hB0.out _ _).trans (hb1.mono (hB0.out _ _).size);clear F;exact FD25):P:=h
theorem FD142 (h:P:=by obtain⟨a,cap,h1,h2,h3,_⟩:=h;exact⟨a,cap,h1,h2,h3⟩):P:=h
theorem FD143 (h:P:=by go_wp2;go_ret;exact⟨rfl,hBW.trans (hb.mono hBW.size)⟩):P:=h
theorem FD144 (h:P:=by have h2:16 ^ k<16 ^ 16:=J4 h1 (by simpa using hn);have:=(Nat.pow_lt_pow_iff_right (dC:1<16)).1 h2;omega):P:=h
theorem FD145 (h:P:=by unfold maxLen;omega):P:=h
theorem FD146 (h:P:=by simp [Instr.mapUpdate,Ej hT,G8 hb,hK.check,Instr.findKey,Ej hK.under,hf,Result.andThen,Lj _ hb];rfl):P:=h
theorem FD147 (h:P:=by dsimp only [iQ];generalize v.sel.sig.length=n1 at *;generalize v.sel.path.length=n2 at *;exact FD33):P:=h
theorem FD148 (h:P:=by rw [ht] at T;dsimp only [Al,Hk] at T ⊢;have T:=Aa T;clear ht hv;go_enter func9,ntmps9;exact FD16):P:=h
theorem FD149 (h:P:=by rw [ht] at T;dsimp only [Al,Hk] at T ⊢;have T:=Aa T;clear ht hv;go_enter func8,ntmps8;exact FD16):P:=h
theorem FD150 (h:P:=by have:=Aw (w.alloc (.deferred (some []))) (.loop (rec .ready none));rw [Dt,hV] at this;exact this):P:=h
theorem FD151 (h:P:=by go_enter func292,ntmps292;go_wp2;go_ret;exact⟨by rw [<- hr.out];unfold aW;rw [d0];rfl,rfl⟩):P:=h
theorem FD152 (h:P:=by
 go_wp2;go_roundw;case rel=>exact⟨k+1,oM,by go_num,hB',hI'⟩
 case measure=>simp [ZG];omega):P:=h
theorem FD153 (h:P:=by have hkN:k=N:=oM;rw [hkN,<- hN.out,Dn] at hi;rw [Df] at hi ⊢;exact fun x hx=>hi x (Gs hx)):P:=h
theorem FD154 (h:P:=by
 repeat' split
 all_goals decide):P:=h
theorem FD155 (h:P:=by have hR3:Hid (Hk (.error 2)=R):=Aa (by rw [<- hR2.out,Au (by simpa using h20)]);exact FD52):P:=h
theorem FD156 (h:P:=by go_wp2;go_ret;exact⟨by rw [<- hr.out];rfl,hB3⟩):P:=h
theorem FD157 (h:P:=by go_wp2;go_ret;exact⟨by rw [<- hr.out];rfl,hB2⟩):P:=h
theorem FD158 (h:P:=by
 intro x hx;rw [Ls,Dp,Ce] at hx;rcases hx with hx|rfl;·have:=hold x hx;omega
 ·exact Fj _):P:=h
theorem FD159 (h:P:=by simpa using this):P:=h
theorem FD160 (h:P:=by go_enter func207,ntmps207;exact FD45):P:=h
theorem FD161 (h:P:=by have hB1:=Aa (hB.out.trans (hb1.mono hB.out.size));go_wp2;go_ret;exact⟨rfl,hB1.out⟩):P:=h
theorem FD162 (h:P:=by
 by_cases e:j=k;·subst e;cases Hl.out.symm.trans hx;exact hb
 ·exact hT.out j x oM hx):P:=h
theorem FD163 (h:P:=by unfold A9 at hu;obtain⟨z,hz,huz⟩:=List.mem_flatMap.1 hu;exact Ha (hat z hz) u huz):P:=h
theorem FD164 (h:P:=by simp only [World.alloc,Dk,Ef];exact⟨by rw [Ai oM,Au trivial],by rw [Au trivial]⟩):P:=h
theorem FD165 (h:P:=by obtain⟨z,hz,huz⟩:=List.mem_flatMap.1 hu;exact Ps (hat z hz).1 (hat z hz).2 u huz):P:=h
theorem FD166 (h:P:=by obtain⟨es,clock,h1,h2⟩:=h;exact⟨es,clock,(hb.block r (aZ h1)).trans h1,h2⟩):P:=h
theorem FD167 (h:P:=by intro u hu;simp at hu;subst hu;rfl):P:=h
theorem FD168 (h:P:=by go_wp2_with fail;refine D.out.mono ?_;rintro e w1 ⟨rfl,hb1⟩;clear D;exact FD39):P:=h
theorem FD169 (h:P:=by go_wp2_with fail;refine Aj (Aq rfl _ _ _) rfl ?_;refine⟨Ac _ _,?_⟩;rw [hk];rfl):P:=h
theorem FD170 (h:P:=by go_wp2_with fail;refine A.out.mono ?_;rintro e w1 ⟨rfl,rfl⟩;clear A;exact FD64):P:=h
theorem FD171 (h:P:=by clear h0 hne;go_enter func195,ntmps195;go_wp2;go_ret;exact⟨by rw [e'];rfl,rfl⟩):P:=h
theorem FD172 (h:P:=by rw [decide_eq_true_iff,show ((2:Int) ^ n2)=((2 ^ n2:Nat):Int) from by simp];omega):P:=h
theorem lR (h:P:=by repeat' first|(intros;kernel_rfl)|decide|constructor):P:=h
end
instance cW : Coe Go.World Nat := ⟨fun w => w.heap.size⟩
instance cS : Coe (List UInt8) Go.Value := ⟨fun l => .string ⟨l.toArray⟩⟩
instance cI : Coe Int Go.Value := ⟨fun n => .int .i64 n⟩
instance cN : Coe Nat Go.Value := ⟨fun n => .int .i64 n⟩
def Gp:=@Classical.byContradiction
def Ee:=@Bool.and_false
def Gi:=@Bool.false_and
def Gz:=@Bool.not_eq_true
def Gy:=@Bool.not_false
def Gg:=@List.append_nil
def G5:=@of_decide_eq_true
def Au:=@if_pos
def Ai:=@if_neg
def Hf:=@Option.some.inj
def Md:=@Array.mem_of_getElem?
def Df:=@List.all_eq_true
def Ir:=@Go.wpAnyH_take
def Ew:=@Go.wpAnyH_ready
def Cc:=@Go.AllReadyH.cons
def Eo:=@Go.AllReadyH.nil
def Bg:=@Nat.le_refl
def Ae:=@Nat.lt_of_lt_of_le
def Af:=@Nat.le_trans
def Nj:=@Array.getElem?_eq_some_iff
def Ii:=@List.getElem?_eq_some_iff
def Ad:=@List.getElem?_eq_getElem
def J3:=@Nat.mod_lt
def J4:=@Nat.lt_of_le_of_lt
def Nb:=@Nat.div_eq_of_lt
def Kr:=@Nat.pow_le_pow_right
def Ky:=@List.replicate_succ
def Jh:=@List.take_succ_cons
def Ah:=@List.length_append
def D7:=@List.take_add_one
def A8:=@List.length_cons
def Fh:=@Array.getElem?_modify
def Dz:=@List.mem_map
def Ej:=@Go.run_underlying
def Ij:=@List.drop_eq_getElem_cons
def I9:=@Array.length_toList
def H9:=@Nat.lt_or_ge
def Jb:=@Nat.pow_succ
def Mc:=@Nat.mul_comm
def G7:=@Go.World.cell?_alloc_past
def Ac:=@Go.RowKit.Below.refl
def F7:=@Array.getElem?_eq_getElem
def Aa:=@Go.Lib.hid
def Na:=@Nat.mod_eq_of_lt
def Gu:=@List.getElem?_drop
def Jq:=@Array.getElem?_toList
def Iw:=@Go.IntKind.wrap_u64
def Kq:=@Go.World.cell?_setCell_same'
def Jr:=@Go.World.frozen?_alloc_past
def J5:=@Go.World.frozen?_setCell
def Kt:=@Go.ByteArray.extract_mk
def Bz:=@List.take_of_length_le
def H6:=@List.take_zero
def Dl:=@List.nil_append
def Bh:=@List.length_map
def C9:=@List.length_take
def Bf:=@Nat.zero_add
def Gw:=@Nat.le_of_lt
def Cj:=@Go.World.cell?_alloc_at
def Lh:=@Go.World.frozen?_alloc_at
def Az:=@Nat.zero_le
def Es:=@Bool.eq_iff_iff
def Eb:=@beq_iff_eq
def Ap:=@List.mem_of_getElem?
def Di:=@List.length_singleton
def Bj:=@List.length_nil
def Dt:=@Go.World.size_alloc
def La:=@Nat.add_assoc
def Iu:=@List.mem_of_mem_drop
def Gs:=@List.mem_of_mem_take
def I5:=@Go.World.ownsRow_nil
def Bo:=@List.length_eq_zero_iff
def Fq:=@Go.World.ownsRow.cellAt
def H8:=@Go.info_parts
def Ik:=@Go.World.ownsRow.alloc
def Jc:=@List.any_eq_true
def Jf:=@List.ext_getElem?
def Dw:=@Go.World.ownsRow.lt
def Nq:=@List.map_map
def Ep:=@List.map_append
def Fa:=@List.map_cons
def Iq:=@List.map_nil
def Dp:=@List.mem_append
def Nc:=@List.sum_cons
def Dh:=@Nat.mul_le_mul_right
def Dq:=@List.getElem?_map
def Gq:=@Option.map_some
def Fe:=@Option.some.injEq
def Hu:=@Prod.mk.injEq
def F8:=@List.getElem?_eq_none
def Jl:=@List.drop_eq_nil_of_le
def Ei:=@List.length_drop
def Gj:=@List.findIdx?_eq_some_iff_getElem
def Cb:=@beq_eq_false_iff_ne
def Ak:=@decide_eq_false
def Ho:=@Nat.add_sub_cancel_left
def Jg:=@List.all_append
def J7:=@List.all_cons
def Og:=@List.getElem_of_mem
def Jw:=@List.mem_range
def Jm:=@List.getElem_mem
def J9:=@List.all_eq_false
def Fv:=@List.getElem?_cons_zero
def Fz:=@List.getElem?_cons_succ
def Bl:=@List.mem_cons
def Fb:=@UInt8.toNat_lt
def a_Bool_true_and:=@Bool.true_and
def Eh:=@decide_eq_decide
def D6:=@Go.below_regrown
def Cm:=@Go.World.cell?_alloc_mark
def Nz:=@if_true
def Ar:=@Go.wp_region_quiet_below
def Bv:=@Go.wpQuiet_nil
def Bc:=@Go.Calls.regrown_of
def Ia:=@Nat.add_zero
def Ba:=@Bool.and_eq_true
def Bq:=@decide_eq_true_eq
def Ec:=@Bool.or_eq_true
def Je:=@List.contains_eq_mem
def Ci:=@List.not_mem_nil
def Et:=@or_false
def Dc:=@decide_eq_false_iff_not
def Aj:=@Go.bodyPost_ret
def H7:=@Go.run_loadVar_mid
def En:=@Go.World.rangeAt_setCells_same
def Aw:=@Go.heap_alloc_last
def Ip:=@List.size_toArray
def Iz:=@List.drop_zero
def Am:=@decide_eq_true
def Dk:=@Array.getElem?_push
def Ef:=@Array.size_push
def Nl:=@List.foldl_cons
def Gf:=@Option.toList_some
def Dn:=@List.take_length
def Ld:=@Array.all_eq_true'
def Ey:=@Nat.lt_of_succ_lt
def Hq:=@Nat.le_succ
def Jk:=@Nat.ne_of_lt
def Fj:=@Nat.lt_succ_self
def Bd:=@Go.wpList_load_mid
def Ih:=@Go.wpList_store_mid
def Iy:=@Array.getElem?_setIfInBounds_ne
def Lp:=@Array.getElem?_eq_none
def Gt:=@Bool.or_eq_false_iff
def Jo:=@Go.mem_ready
def Ag:=@Go.cell_regrown
def Jv:=@List.drop_succ_cons
def Js:=@Go.Sem.run_bind
def Io:=@Go.Result.andThen_ok
def Gv:=@Bool.not_true
def Ic:=@Bool.false_eq_true
def Le:=@if_false
def Kv:=@Go.Sem.run_pure
def D8:=@List.take_append_drop
def F9:=@Bool.not_eq_true'
def Aq:=@Go.results_tmp2
def Jp:=@ByteArray.size_append
def G8:=@Go.MapKept.run_getObj_map
def Lj:=@Go.MapKept.run_setObj_map
def Nk:=@List.length_set
def Jt:=@Go.Oper.semAt_some
def Nw:=@Go.callsIn_of_wp
def Ig:=@Array.replicate_succ
def Ie:=@Array.replicate_zero
def I7:=@List.push_toArray
def Il:=@List.append_toArray
def Ea:=@List.cons_append
def Jj:=@Go.callsIn_wide
def Eu:=@List.getElem?_append_left
def N7:=@Go.results_none
def Em:=@List.getElem?_append_right
def Lc:=@Go.World.ownsRow.kept
def Np:=@Go.wpIn_wide
def Fg:=@Go.RowKit.Below.alloc
def D9:=@Go.World.cell?_setCell_far
def Dy:=@Go.wpAnyH_done
def Hy:=@List.getElem?_toArray
def Kw:=@Go.RowKit.Below.heap_alloc
def Ns:=@List.all_nil
def Jd:=@Bool.and_true
def Ji:=@Go.RowKit.run_makeMap
def G6:=@Go.World.cell?_alloc_some
def bZ:=@Go.heap_setCell_other
def Ll:=@List.length_pos_of_mem
def I8:=@List.any_eq_false
def Ce:=@List.mem_singleton
def Lu:=@not_or
def Ez:=@Go.World.block_lt_of_cell?
def Ls:=@Array.toList_push
def J8:=@List.nodup_append
def Jy:=@Go.World.setCell_alloc_at
def Gh:=@Go.all_oneCell_toArray
def Oa:=@List.nodup_cons
def Gm:=@List.mem_cons_of_mem
def Lr:=@Nat.lt_trichotomy
def Ib:=@List.pairwise_append
def Dj:=@List.mem_iff_getElem?
def Gn:=@List.pairwise_iff_getElem
def Lm:=@List.filter_eq_nil_iff
def Nr:=@List.filter_append
def Ht:=@List.pairwise_cons
def N8:=@Option.map_none
def Ny:=@Option.getD_none
def Nu:=@Bool.not_eq_false'
def J6:=@Bool.and_eq_false_iff
def Dx:=@List.flatMap_cons
def Gx:=@List.flatMap_nil
def Jz:=@Option.map_eq_some_iff
def Hg:=@List.flatMap_append
def Dv:=@List.append_assoc
def Ed:=@Go.wp_region_held_drew
def G9:=@Go.RowKit.Below.drew
def Fp:=@Go.RowKit.Below.setCell
def He:=@Array.getD_eq_getD_getElem?
def Hz:=@Go.getD_set_true
def Nh:=@Bool.false_or
def Ju:=@List.mem_append_left
def Ja:=@List.mem_append_right
def fK:=@Go.cell_of_row
def Oc:=@Go.mem_left
def Ku:=@Go.results_tmp
def Me:=@Option.getD_some
def Ko:=@Bool.not_eq_false
def N9:=@Nat.le_of_eq
def Kz:=@List.getElem?_range
def Hw:=@List.getElem?_take_of_lt
theorem nR {n:Nat}:n<=n:=Nat.le_refl n
theorem aZ {α:Type} {xs:Array α} {i:Nat} {b:α} (h:xs[i]?=some b):i<xs.size:=(Array.getElem?_eq_some_iff.1 h).1
theorem lS {α:Type} {xs:List α} {i:Nat} {b:α} (h:xs[i]?=some b):i<xs.length:=(List.getElem?_eq_some_iff.1 h).1
namespace Go.Proofs.Y
theorem CmZ {P:Program} {f:Nat} {xs:Array Value} {w:World} {v:Value} {R:World->Prop} {Q:Ending->World->Prop} (h:Calls P f xs w fun e w'=>e=.returned v/\R w') (k:∀ w',R w'->Q (.returned v) w'):Calls P f xs w Q:=h.mono fun e w' ⟨he,hr⟩=>he ▸ k w' hr
theorem tk {P:Program} {md:Region.Mode} {ops:Array Oper} {S:World->Prop} {Q:Exit->Act->World->Prop} {fuel:Nat} {jz:Array Bool} {a:Act} {w:World} {oi:Oper} {v:Value} (i:Nat) (hi:ops[i]?=some oi) (hw:Region.wanted oi (yielded ops a.tmps)=true) (hS:S w) (hy:∀ w,S w->(execOp a.eval oi).run P w=.ok (.value v) w) (h:wpAnyH P md ops Q S fuel (jz.setIfInBounds i true) (a.put oi.dst v) w) (hs:Region.noSelect ops=true:=by kernel_rfl) (hf:Region.free md ops jz i=true:=by kernel_rfl) (hr:(Region.ready md ops jz).contains i=true:=by kernel_rfl) (hQ:∀ c a w,Q (.panic c) (a.put oi.dst v) w->Q (.panic c) a w:=by exact fun _ _ _ h=>h):wpAnyH P md ops Q S (fuel+1) jz a w := wpAnyH_take hi hs hf hr hQ (Or.inl ⟨hw,hy⟩) hS h
theorem tj {P:Program} {md:Region.Mode} {ops:Array Oper} {S:World->Prop} {Q:Exit->Act->World->Prop} {fuel:Nat} {jz:Array Bool} {a:Act} {w:World} {oi:Oper} {v:Value} (i:Nat) (h:wpAnyH P md ops Q S fuel (jz.setIfInBounds i true) (a.put oi.dst v) w) (hi:ops[i]?=some oi:=by rfl) (hw:Region.wanted oi (yielded ops a.tmps)=true:=by rfl) (hS:S w:=by assumption) (hy:∀ w,S w->(execOp a.eval oi).run P w=.ok (.value v) w:=by intro w hSw;(try dsimp only at hSw);go_simp;try with_reducible rfl) (hs:Region.noSelect ops=true:=by kernel_rfl) (hf:Region.free md ops jz i=true:=by kernel_rfl) (hr:(Region.ready md ops jz).contains i=true:=by kernel_rfl) (hQ:∀ c a w,Q (.panic c) (a.put oi.dst v) w->Q (.panic c) a w:=by exact fun _ _ _ h=>h):wpAnyH P md ops Q S (fuel+1) jz a w := wpAnyH_take hi hs hf hr hQ (Or.inl ⟨hw,hy⟩) hS h
theorem rk {P:Program} {md:Region.Mode} {ops:Array Oper} {S:World->Prop} {Q:Exit->Act->World->Prop} {fuel:Nat} {jz:Array Bool} {a:Act} {w:World} {o:Oper} (i:Nat) (ho:ops[i]?=some o) (h:∀ K':Act->World->Prop,Shut (∀ a w,S w->(S w->wpAnyH P md ops Q S fuel (jz.setIfInBounds i true) a w)->K' a w)->if Region.wanted o (yielded ops a.tmps)=true then Oper.wp P o a w K' Q else K' (a.put o.dst undef) w) (hr:Region.ready md ops jz=[i]:=by kernel_rfl):wpAnyH P md ops Q S (fuel+1) jz a w := wpAnyH_ready hr (List.cons_ne_nil _ _) (AllReadyH.cons ho h AllReadyH.nil)
theorem pA {α:Type} (l:List α) (i:Nat) (a:α):l.toArray.setIfInBounds i a=(l.set i a).toArray:=List.setIfInBounds_toArray _ _ _
theorem pB {α:Type} (a b:α) (l:List α):(a::l).set 0 b=b::l:=rfl
theorem pC {α:Type} (a b:α) (l:List α) (n:Nat):(a::l).set (n+1) b=a::l.set n b:=rfl
theorem pD {α:Type} (l:List α) (i:Nat) (h:i<l.toArray.size):l.toArray[i]=l[i]'(by simpa using h):=rfl
theorem pE {α:Type} (a:α) (l:List α) (h:0<(a::l).length):(a::l)[0]=a:=rfl
theorem pF {α:Type} (a:α) (l:List α) (n:Nat) (h:n+1<(a::l).length):(a::l)[n+1]=l[n]'(Nat.lt_of_succ_lt_succ h):=rfl
attribute [push_cast] Act.put pA pB pC pD pE pF
end Go.Proofs.Y
