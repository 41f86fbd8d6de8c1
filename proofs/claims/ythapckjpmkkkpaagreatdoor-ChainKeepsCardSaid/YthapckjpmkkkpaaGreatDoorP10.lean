/-
  ChainKeeps: the proof, part 11 of 25.
-/
import Derived.Test.YthapckjpmkkkpaaGreatDoorP08
import Derived.Test.YthapckjpmkkkpaaGreatDoorP09
set_option linter.unusedSimpArgs false
set_option linter.unusedVariables false
set_option maxHeartbeats 40000000
set_option maxRecDepth 100000
open Go renaming undef -> ZA, World -> ZB
open Go.Act renaming put -> ZF
open Go.RowKit renaming intOf -> ZG
open Go.Lib renaming itoa -> ZK
namespace Go.Proofs.YthapckjpmkkkpaaGreatDoor
section
open Go.Lib Go.Proofs.Tryz Go.RowKit Go.Shelf Go.Sort CH
theorem Foo:og 57 9223372036854775807 (fun l=>!aG l):=by refine⟨enters_of func57 kR rfl,fun l w hG hl=>?_⟩;go_enter func57,ntmps57;go_wp2_with fail;refine (Alt l w hl).mono ?_;rintro e w1 ⟨rfl,hb⟩;go_wp2;go_ret;exact⟨rfl,hb⟩
theorem Rs (v:Value) (ls:List (List UInt8)) (most:Nat) (w:ZB) (hG:Gl w) (hv:Strs w w v ls) (hl:∀ l∈ls,l.length<=9223372036854775807) : Calls prog 22 #[v,↑most] w (Ret w (.bool (dV ls most))):=by
 have C:=Aa (S2 _ _ _ Foo v ls w hG hv hl);obtain⟨r,hr⟩:∃ r,Hid (dV ls most=r):=⟨_,Aa rfl⟩
 rw [hr.out];obtain⟨a,cap,rfl,_,_⟩:=hv.form;clear hv hl;obtain⟨b,hb⟩:∃ b,Hid ((ls.any fun s=>!aG s)=b):=⟨_,Aa rfl⟩
 rw [hb.out] at C;by_cases h:ls.length<=most
 ·have hr1:r=!b:=by rw [<- hr.out,<- hb.out];unfold dV;rw [decide_eq_true h];rfl
  subst hr1;have d:decide ((ls.length:Int)<=(most:Int))=true:=by simp;omega
  generalize ls.length=N at *;go_enter func22,ntmps22;go_wp2_with fail;refine C.out.mono ?_;rintro e w1 ⟨rfl,hb1⟩;clear C;go_wp2;go_ret;exact⟨rfl,hb1⟩
 ·have hr1:r=false:=by rw [<- hr.out];unfold dV;rw [decide_eq_false h];rfl
  subst hr1;have d:decide ((ls.length:Int)<=(most:Int))=false:=by simp;omega
  generalize ls.length=N at *;go_enter func22,ntmps22;go_wp2;go_ret;exact⟨rfl,Ac _ _⟩
theorem Abo (vn:Value) (c:CH.Change) (w:ZB) (hG:Gc w) (hv:Er w w vn c.entry.names) (hS:iR c) (hp0:-9223372036854775808<=c.pos) (hp1:c.pos<=9223372036854775807) : Calls prog 47 #[.agg (Bb c vn).toArray] w (Ret w (bF (bJ c))):=by
 obtain⟨r,hr⟩:∃ r,Hid (bF (bJ c)=r):=⟨_,Aa rfl⟩
 rw [hr.out];have hB0:=fun o=>(Ac _ w).alloc nR o;have hW:=fun o=>Ai w o;have F:=fun (w':ZB) (hb:Below w w w')=>Ggr vn c w' (hG.below hb) ((hv.below hb nR).mono hb.size) hS;obtain⟨an,cn,rfl,JZ,JY⟩:=hv.form;generalize hN:c.entry.names.length=N at *;dsimp only [Bb] at F ⊢;cases hok:dD c with
 |false =>rw [hok] at F;have F:=Aa F;go_enter func47,ntmps47;go_wp2_with fail;refine (F.out _ (hB0 _)).mono ?_;rintro e w1 ⟨rfl,hb1⟩;clear F;go_wp2;refine Au (Bc rfl _ _ _) rfl ?_;exact⟨by rw [<- hr.out];unfold bJ;rw [hok];rfl,(hB0 _).trans (hb1.mono sM)⟩
 |true =>
  rw [hok] at F;have F:=Aa F;have hk:=Get hok;go_enter func47,ntmps47;go_wp2_with fail;refine (F.out _ (hB0 _)).mono ?_;rintro e w1 ⟨rfl,hb1⟩;clear F;have hB1:Below w w w1:=(hB0 _).trans (hb1.mono sM);have hblk:=(hb1.block w sM).trans (hW _);have hlt1:w.heap.size<w1.heap.size:=(aZ hblk)
  clear hb1 hW hB0;have HB:=Aa hblk;obtain⟨kn,hkn,JV,JU⟩:∃ kn:Nat,c.kind=kn/\1<=kn/\kn<=4:=⟨c.kind.toNat,oM,oM,oM⟩
  have k0:w1.cell? ⟨w,0,none⟩=some ↑kn:=by rw [<- hkn];exact Ab hblk 0
  have k1:w1.cell? ⟨w,1,none⟩=some ↑c.id:=Ab hblk 1;clear hblk;go_wp2_with fail;have SS:∀ W',Below w1 w1 W'->W'.cell? ⟨w,0,none⟩=some ↑kn/\W'.cell? ⟨w,1,none⟩=some ↑c.id:=fun W' hb=>⟨(hb.cell (p:=⟨w,0,none⟩) hlt1).trans k0,(hb.cell (p:=⟨w,1,none⟩) hlt1).trans k1⟩
  obtain⟨kw,hkw⟩:∃ kw,Hid (CH.kindWord c.kind=kw):=⟨_,Aa rfl⟩
  have hkc:∀ (W':ZB),(W'.alloc (.cells #[.string ⟨#[]⟩,.string ⟨([97,100,100]:List UInt8).toArray⟩,.string ⟨([114,101,109,111,118,101]:List UInt8).toArray⟩,.string ⟨([99,111,114,114,101,99,116]:List UInt8).toArray⟩,.string ⟨([118,111,105,100]:List UInt8).toArray⟩] 9)).cell? ⟨W',kn,none⟩=some ↑kw:=fun W'=>by rw [Cm,<- hkw.out,hkn];rcases (oM:kn=1\/kn=2\/kn=3\/kn=4) with rfl|rfl|rfl|rfl <;> rfl
  have hBd:Below w1 w1 w1.drew:=(Ac _ w1).drew;have k0d:=fun o=>(SS _ (hBd.alloc nR o))
  have EY:∀ (W':ZB) o,((W'.alloc (.cells #[.string ⟨#[]⟩,.string ⟨([97,100,100]:List UInt8).toArray⟩,.string ⟨([114,101,109,111,118,101]:List UInt8).toArray⟩,.string ⟨([99,111,114,114,101,99,116]:List UInt8).toArray⟩,.string ⟨([118,111,105,100]:List UInt8).toArray⟩] 9)).alloc o).cell? ⟨W',kn,none⟩=some ↑kw:=fun W' o=>by rw [Gq _ _ _ (by rw [hkc];rfl)];exact hkc W'
  have EX:∀ o,((w1.alloc o).alloc (.cells #[.string ⟨#[]⟩,.string ⟨([97,100,100]:List UInt8).toArray⟩,.string ⟨([114,101,109,111,118,101]:List UInt8).toArray⟩,.string ⟨([99,111,114,114,101,99,116]:List UInt8).toArray⟩,.string ⟨([118,111,105,100]:List UInt8).toArray⟩] 9)).cell? ⟨w1+1,kn,none⟩=some ↑kw:=fun o=>by have:=hkc (w1.alloc o);rwa [Cc] at this
  rename_i K hK;have TAIL:∀ (P:Nat) (v13 v16 v20:Value) (X:ZB),Cw w1 P X [kw,c.id]->Below w1 w1 X->K { tmps:=#[.agg #[↑kn,↑c.id,↑c.entry.id,.slice an N cn,↑c.pos],.pointer (some ⟨w,0,none⟩),.string ⟨#[]⟩,.int .i64 0,.pointer (some ⟨P,0,none⟩),ZA,ZA,ZA,ZA,ZA,.agg #[↑kn,↑c.id,↑c.entry.id,.slice an N cn,↑c.pos],.bool true,.bool false,v13,.pointer (some ⟨w,0,none⟩),↑kn,v16,↑kw,.pointer (some ⟨w,1,none⟩),↑c.id,v20,ZA,ZA,ZA,ZA,ZA,ZA,ZA,ZA,ZA,ZA,ZA,ZA,ZA,ZA,ZA,ZA,ZA,ZA,ZA,ZA,ZA,ZA,ZA,ZA,ZA,ZA,ZA,ZA,ZA,ZA,ZA,ZA,ZA,ZA,ZA,ZA,ZA,ZA],defers:=[] } X:=by
   intro P v13 v16 v20 X hA hBX;refine hK _ _ ?_;clear hkc EY EX k0d SS;have m0:X.cell? ⟨w,0,none⟩=some ↑kn:=(hBX.cell (p:=⟨w,0,none⟩) hlt1).trans k0;have m3:X.cell? ⟨w,3,none⟩=some (.slice an N cn):=(hBX.cell (p:=⟨w,3,none⟩) hlt1).trans (Ab HB.out 3);have m4:X.cell? ⟨w,4,none⟩=some ↑c.pos:=(hBX.cell (p:=⟨w,4,none⟩) hlt1).trans (Ab HB.out 4);have xk:=Lib.itoa_length_le c.pos hp0 hp1;have hkl:kw.length<=1000000000100:=by rw [<- hkw.out];exact Ag (Pj _) dC
   have uD:Hid (c.id.length<=1000000000100):=Aa (by have:=hS.id;omega);have xk:Hid ((ZK c.pos).length<=1000000000100):=Aa oM;replace hkl:=Aa hkl;rcases (oM:kn=1\/kn=2\/kn=3\/kn=4) with e|e|e|e
   ·subst e;go_wp2_with fail;refine (G2 c.pos X hp0 hp1 (hG.1.below (hB1.trans (hBX.mono hB1.size)))).mono ?_;rintro e w2 ⟨rfl,hb2⟩;have hA2:=hA.below hb2;have hB2:Below w1 w1 w2:=hBX.trans (hb2.mono hBX.size);go_wp2_with fail;refine (K2 _ [ZK c.pos] [kw,c.id] w1.heap.size P _ _ (hA2.alloc _) (Ha w2 [ZK c.pos] sM).strs sM).mono ?_;rintro e w3 ⟨rfl,hA3,hb3,hs3⟩;have hB3:Below w1 w1 w3:=(hB2.alloc hB2.size _).trans hb3;have m33:w3.cell? ⟨w,3,none⟩=some (.slice an N cn):=(hB3.cell (p:=⟨w,3,none⟩) hlt1).trans (Ab HB.out 3);obtain⟨pre,hpre⟩:∃ pre,Hid (pre=[kw,c.id,ZK c.pos]):=⟨_,Aa rfl⟩
    have hA3:Cw w1 P w3 pre:=by rw [hpre.out];exact hA3
    clear hA hA2 m0 m3 m4;have hNp:N<=8:=by rw [<- hN];exact Gr hok
    have hpl:pre.length<=3:=by rw [hpre.out];simp
    go_wp2_with fail;go_loopw [40] (fun iv wr=>∃ j:Nat,j<=N/\iv=↑j/\Hid (Cw w1 P wr (pre++(c.entry.names.take j).map B8))/\Hid (Below w1 w1 wr)) (fun iv _=>N - (ZG iv).toNat);case atStart=>exact⟨0,Bg _,rfl,Aa (by simpa using hA3),Aa hB3⟩
    case round =>
     obtain⟨j,hj,rfl,hA4,hB4⟩:=hrel;have hBw:Below w w wr:=hB1.trans (hB4.out.mono hB1.size);by_cases hlt:j<N
     ·obtain⟨x,hx⟩:∃ x,c.entry.names[j]?=some x:=⟨_,Ad (by rw [hN];omega)⟩
      obtain⟨a',c',e',_,_,hcs⟩:=hv;injection e' with ea eb ec;clear eb;subst ea ec;obtain⟨bb,off,rfl,hblt,hcs⟩:=hcs (fun e=>by rw [e] at hN;simp at hN;omega);obtain⟨vw,d1,d2,d3⟩:=hcs j x hx;have e1:=(hBw.cell (p:=⟨bb,off+j*2,none⟩) hblt).trans d1;have e2:=(hBw.cell (p:=⟨bb,off+j*2+1,none⟩) hblt).trans d2;have hmem:x∈c.entry.names:=Ap hx;have NT:=Aa fun (W:ZB) (hb:Below w w W)=>Mx [aJ x.script,vw] x W (hG.below hb) ⟨vw,rfl,(d3.below hb nR).mono hb.size⟩ (hS.entry.names x hmem) (Mp hok x hmem);have htl:=Lx x (hS.entry.names x hmem);have hts:Hid ((c.entry.names.take (j+1)).map B8=(c.entry.names.take j).map B8++[[34]++aT x++[34]]):=Aa (by rw [aN _ j x hx];simp [B8]);obtain⟨aw,cw,rfl,_,_⟩:=d3.form;generalize x.words.length=xn at *;generalize aT x=T at *;have ht0:((c.entry.names.take j).map B8).length<=8:=by simp;omega
      replace hBw:=Aa hBw;clear hcs d1 d2 d3 hmem hx;have l1:¬ (9223372036854775807<1+T.length):=oM;have l2:¬ (9223372036854775807<1+T.length+1):=oM;clear htl;go_wp2_with fail;refine (NT.out _ (hBw.out.alloc hBw.out.size _)).mono ?_;rintro e w5 ⟨rfl,hb5⟩;have hA5:=Aa ((hA4.out.alloc _).below hb5);have hB5:Hid (Below w1 w1 w5):=Aa ((hB4.out.alloc hB4.out.size _).trans (hb5.mono (by simp;have:=hB4.out.size;omega)));clear NT hb5 e1 e2;go_wp2_with fail;rw [show (⟨#[34]⟩:ByteArray)++⟨T.toArray⟩++⟨#[34]⟩=⟨([34]++T++[34]).toArray⟩ from by rw [<- bytes_append,<- bytes_append]];refine (K2 _ [[34]++T++[34]] (pre++(c.entry.names.take j).map B8) w1.heap.size P _ _ (hA5.out.alloc _) (Ha w5 [[34]++T++[34]] sM).strs (by rw [Aj];simp only [Ar,Bo];omega)).mono ?_;rintro e w6 ⟨rfl,hA6,hb6,hs6⟩;have hA6:Hid (Cw w1 P w6 (pre++(c.entry.names.take (j+1)).map B8)):=Aa (by rw [hts.out,<- D9];exact hA6);have hB6:Hid (Below w1 w1 w6):=Aa ((hB5.out.alloc hB5.out.size _).trans hb6);clear hA5 hB5 hb6 hA4 hB4;go_wp2;go_roundw;case rel=>exact⟨j+1,oM,by go_num,hA6,hB6⟩
      case measure=>simp [ZG];omega
     ·obtain rfl:j=N:=oM;have htk:c.entry.names.take j=c.entry.names:=by rw [<- hN,Dx]
      rw [htk] at hA4;clear htk;obtain⟨v,hv4,hO,_,_⟩:=hA4.out;obtain⟨av,cv,rfl,_,_,_⟩:=hO.form;have c11:wr.cell? ⟨P,0,none⟩=some (.slice av (pre++c.entry.names.map B8).length cv):=Ab hv4 0;have hll:(pre++c.entry.names.map B8).length<=11:=by rw [Aj,Dc,hN];omega
      have hjl:=L2 c hok hS.entry.names pre hpl (by rw [hpre.out];exact .cons hkl.out (.cons uD.out (.one xk.out)));have J:=Aa (L0 _ (pre++c.entry.names.map B8) [32] wr hO.strs oM oM);have hRf:Hid (r=bF (some (CH.join [32] (pre++c.entry.names.map B8)++[59]))):=Aa (by rw [<- hr.out,hpre.out,<- hkw.out,hkn];unfold bJ;rw [hok,hkn];rfl);generalize CH.join [32] (pre++c.entry.names.map B8)=JJ at *;generalize (pre++c.entry.names.map B8).length=LL at *;have l1:¬ (9223372036854775807<JJ.length+1):=oM;clear hjl;clear hO hv4 hA4;go_wp2_with fail;refine J.out.mono ?_;rintro e w7 ⟨rfl,hb7⟩;clear J c11;go_wp2;refine Au (Bc rfl _ _ _) rfl ?_;refine⟨?_,hBw.trans (hb7.mono hBw.size)⟩;rw [hRf.out];unfold bF;dsimp only;rw [<- bytes_append];rfl
   ·subst e;go_wp2_with fail;refine (G2 c.pos X hp0 hp1 (hG.1.below (hB1.trans (hBX.mono hB1.size)))).mono ?_;rintro e w2 ⟨rfl,hb2⟩;have hA2:=hA.below hb2;have hB2:Below w1 w1 w2:=hBX.trans (hb2.mono hBX.size);go_wp2_with fail;refine (K2 _ [ZK c.pos] [kw,c.id] w1.heap.size P _ _ (hA2.alloc _) (Ha w2 [ZK c.pos] sM).strs sM).mono ?_;rintro e w3 ⟨rfl,hA3,hb3,hs3⟩;have hB3:Below w1 w1 w3:=(hB2.alloc hB2.size _).trans hb3;have m33:w3.cell? ⟨w,3,none⟩=some (.slice an N cn):=(hB3.cell (p:=⟨w,3,none⟩) hlt1).trans (Ab HB.out 3);obtain⟨pre,hpre⟩:∃ pre,Hid (pre=[kw,c.id,ZK c.pos]):=⟨_,Aa rfl⟩
    have hA3:Cw w1 P w3 pre:=by rw [hpre.out];exact hA3
    clear hA hA2 m0 m3 m4;have hNp:N<=8:=by rw [<- hN];exact Gr hok
    have hpl:pre.length<=3:=by rw [hpre.out];simp
    go_wp2_with fail;go_loopw [40] (fun iv wr=>∃ j:Nat,j<=N/\iv=↑j/\Hid (Cw w1 P wr (pre++(c.entry.names.take j).map B8))/\Hid (Below w1 w1 wr)) (fun iv _=>N - (ZG iv).toNat);case atStart=>exact⟨0,Bg _,rfl,Aa (by simpa using hA3),Aa hB3⟩
    case round =>
     obtain⟨j,hj,rfl,hA4,hB4⟩:=hrel;have hBw:Below w w wr:=hB1.trans (hB4.out.mono hB1.size);by_cases hlt:j<N
     ·obtain⟨x,hx⟩:∃ x,c.entry.names[j]?=some x:=⟨_,Ad (by rw [hN];omega)⟩
      obtain⟨a',c',e',_,_,hcs⟩:=hv;injection e' with ea eb ec;clear eb;subst ea ec;obtain⟨bb,off,rfl,hblt,hcs⟩:=hcs (fun e=>by rw [e] at hN;simp at hN;omega);obtain⟨vw,d1,d2,d3⟩:=hcs j x hx;have e1:=(hBw.cell (p:=⟨bb,off+j*2,none⟩) hblt).trans d1;have e2:=(hBw.cell (p:=⟨bb,off+j*2+1,none⟩) hblt).trans d2;have hmem:x∈c.entry.names:=Ap hx;have NT:=Aa fun (W:ZB) (hb:Below w w W)=>Mx [aJ x.script,vw] x W (hG.below hb) ⟨vw,rfl,(d3.below hb nR).mono hb.size⟩ (hS.entry.names x hmem) (Mp hok x hmem);have htl:=Lx x (hS.entry.names x hmem);have hts:Hid ((c.entry.names.take (j+1)).map B8=(c.entry.names.take j).map B8++[[34]++aT x++[34]]):=Aa (by rw [aN _ j x hx];simp [B8]);obtain⟨aw,cw,rfl,_,_⟩:=d3.form;generalize x.words.length=xn at *;generalize aT x=T at *;have ht0:((c.entry.names.take j).map B8).length<=8:=by simp;omega
      replace hBw:=Aa hBw;clear hcs d1 d2 d3 hmem hx;have l1:¬ (9223372036854775807<1+T.length):=oM;have l2:¬ (9223372036854775807<1+T.length+1):=oM;clear htl;go_wp2_with fail;refine (NT.out _ (hBw.out.alloc hBw.out.size _)).mono ?_;rintro e w5 ⟨rfl,hb5⟩;have hA5:=Aa ((hA4.out.alloc _).below hb5);have hB5:Hid (Below w1 w1 w5):=Aa ((hB4.out.alloc hB4.out.size _).trans (hb5.mono (by simp;have:=hB4.out.size;omega)));clear NT hb5 e1 e2;go_wp2_with fail;rw [show (⟨#[34]⟩:ByteArray)++⟨T.toArray⟩++⟨#[34]⟩=⟨([34]++T++[34]).toArray⟩ from by rw [<- bytes_append,<- bytes_append]];refine (K2 _ [[34]++T++[34]] (pre++(c.entry.names.take j).map B8) w1.heap.size P _ _ (hA5.out.alloc _) (Ha w5 [[34]++T++[34]] sM).strs (by rw [Aj];simp only [Ar,Bo];omega)).mono ?_;rintro e w6 ⟨rfl,hA6,hb6,hs6⟩;have hA6:Hid (Cw w1 P w6 (pre++(c.entry.names.take (j+1)).map B8)):=Aa (by rw [hts.out,<- D9];exact hA6);have hB6:Hid (Below w1 w1 w6):=Aa ((hB5.out.alloc hB5.out.size _).trans hb6);clear hA5 hB5 hb6 hA4 hB4;go_wp2;go_roundw;case rel=>exact⟨j+1,oM,by go_num,hA6,hB6⟩
      case measure=>simp [ZG];omega
     ·obtain rfl:j=N:=oM;have htk:c.entry.names.take j=c.entry.names:=by rw [<- hN,Dx]
      rw [htk] at hA4;clear htk;obtain⟨v,hv4,hO,_,_⟩:=hA4.out;obtain⟨av,cv,rfl,_,_,_⟩:=hO.form;have c11:wr.cell? ⟨P,0,none⟩=some (.slice av (pre++c.entry.names.map B8).length cv):=Ab hv4 0;have hll:(pre++c.entry.names.map B8).length<=11:=by rw [Aj,Dc,hN];omega
      have hjl:=L2 c hok hS.entry.names pre hpl (by rw [hpre.out];exact .cons hkl.out (.cons uD.out (.one xk.out)));have J:=Aa (L0 _ (pre++c.entry.names.map B8) [32] wr hO.strs oM oM);have hRf:Hid (r=bF (some (CH.join [32] (pre++c.entry.names.map B8)++[59]))):=Aa (by rw [<- hr.out,hpre.out,<- hkw.out,hkn];unfold bJ;rw [hok,hkn];rfl);generalize CH.join [32] (pre++c.entry.names.map B8)=JJ at *;generalize (pre++c.entry.names.map B8).length=LL at *;have l1:¬ (9223372036854775807<JJ.length+1):=oM;clear hjl;clear hO hv4 hA4;go_wp2_with fail;refine J.out.mono ?_;rintro e w7 ⟨rfl,hb7⟩;clear J c11;go_wp2;refine Au (Bc rfl _ _ _) rfl ?_;refine⟨?_,hBw.trans (hb7.mono hBw.size)⟩;rw [hRf.out];unfold bF;dsimp only;rw [<- bytes_append];rfl
   ·subst e;obtain⟨pre,hpre⟩:∃ pre,Hid (pre=[kw,c.id]):=⟨_,Aa rfl⟩
    have hA3:Cw w1 P X pre:=by rw [hpre.out];exact hA
    have hB3:Below w1 w1 X:=hBX;clear hA m4;have hNp:N<=8:=by rw [<- hN];exact Gr hok
    have hpl:pre.length<=3:=by rw [hpre.out];simp
    go_wp2_with fail;go_loopw [40] (fun iv wr=>∃ j:Nat,j<=N/\iv=↑j/\Hid (Cw w1 P wr (pre++(c.entry.names.take j).map B8))/\Hid (Below w1 w1 wr)) (fun iv _=>N - (ZG iv).toNat);case atStart=>exact⟨0,Bg _,rfl,Aa (by simpa using hA3),Aa hB3⟩
    case round =>
     obtain⟨j,hj,rfl,hA4,hB4⟩:=hrel;have hBw:Below w w wr:=hB1.trans (hB4.out.mono hB1.size);by_cases hlt:j<N
     ·obtain⟨x,hx⟩:∃ x,c.entry.names[j]?=some x:=⟨_,Ad (by rw [hN];omega)⟩
      obtain⟨a',c',e',_,_,hcs⟩:=hv;injection e' with ea eb ec;clear eb;subst ea ec;obtain⟨bb,off,rfl,hblt,hcs⟩:=hcs (fun e=>by rw [e] at hN;simp at hN;omega);obtain⟨vw,d1,d2,d3⟩:=hcs j x hx;have e1:=(hBw.cell (p:=⟨bb,off+j*2,none⟩) hblt).trans d1;have e2:=(hBw.cell (p:=⟨bb,off+j*2+1,none⟩) hblt).trans d2;have hmem:x∈c.entry.names:=Ap hx;have NT:=Aa fun (W:ZB) (hb:Below w w W)=>Mx [aJ x.script,vw] x W (hG.below hb) ⟨vw,rfl,(d3.below hb nR).mono hb.size⟩ (hS.entry.names x hmem) (Mp hok x hmem);have htl:=Lx x (hS.entry.names x hmem);have hts:Hid ((c.entry.names.take (j+1)).map B8=(c.entry.names.take j).map B8++[[34]++aT x++[34]]):=Aa (by rw [aN _ j x hx];simp [B8]);obtain⟨aw,cw,rfl,_,_⟩:=d3.form;generalize x.words.length=xn at *;generalize aT x=T at *;have ht0:((c.entry.names.take j).map B8).length<=8:=by simp;omega
      replace hBw:=Aa hBw;clear hcs d1 d2 d3 hmem hx;have l1:¬ (9223372036854775807<1+T.length):=oM;have l2:¬ (9223372036854775807<1+T.length+1):=oM;clear htl;go_wp2_with fail;refine (NT.out _ (hBw.out.alloc hBw.out.size _)).mono ?_;rintro e w5 ⟨rfl,hb5⟩;have hA5:=Aa ((hA4.out.alloc _).below hb5);have hB5:Hid (Below w1 w1 w5):=Aa ((hB4.out.alloc hB4.out.size _).trans (hb5.mono (by simp;have:=hB4.out.size;omega)));clear NT hb5 e1 e2;go_wp2_with fail;rw [show (⟨#[34]⟩:ByteArray)++⟨T.toArray⟩++⟨#[34]⟩=⟨([34]++T++[34]).toArray⟩ from by rw [<- bytes_append,<- bytes_append]];refine (K2 _ [[34]++T++[34]] (pre++(c.entry.names.take j).map B8) w1.heap.size P _ _ (hA5.out.alloc _) (Ha w5 [[34]++T++[34]] sM).strs (by rw [Aj];simp only [Ar,Bo];omega)).mono ?_;rintro e w6 ⟨rfl,hA6,hb6,hs6⟩;have hA6:Hid (Cw w1 P w6 (pre++(c.entry.names.take (j+1)).map B8)):=Aa (by rw [hts.out,<- D9];exact hA6);have hB6:Hid (Below w1 w1 w6):=Aa ((hB5.out.alloc hB5.out.size _).trans hb6);clear hA5 hB5 hb6 hA4 hB4;go_wp2;go_roundw;case rel=>exact⟨j+1,oM,by go_num,hA6,hB6⟩
      case measure=>simp [ZG];omega
     ·obtain rfl:j=N:=oM;have htk:c.entry.names.take j=c.entry.names:=by rw [<- hN,Dx]
      rw [htk] at hA4;clear htk;obtain⟨v,hv4,hO,_,_⟩:=hA4.out;obtain⟨av,cv,rfl,_,_,_⟩:=hO.form;have c11:wr.cell? ⟨P,0,none⟩=some (.slice av (pre++c.entry.names.map B8).length cv):=Ab hv4 0;have hll:(pre++c.entry.names.map B8).length<=11:=by rw [Aj,Dc,hN];omega
      have hjl:=L2 c hok hS.entry.names pre hpl (by rw [hpre.out];exact .cons hkl.out (.one uD.out));have J:=Aa (L0 _ (pre++c.entry.names.map B8) [32] wr hO.strs oM oM);have hRf:Hid (r=bF (some (CH.join [32] (pre++c.entry.names.map B8)++[59]))):=Aa (by rw [<- hr.out,hpre.out,<- hkw.out,hkn];unfold bJ;rw [hok,hkn];rfl);generalize CH.join [32] (pre++c.entry.names.map B8)=JJ at *;generalize (pre++c.entry.names.map B8).length=LL at *;have l1:¬ (9223372036854775807<JJ.length+1):=oM;clear hjl;clear hO hv4 hA4;go_wp2_with fail;refine J.out.mono ?_;rintro e w7 ⟨rfl,hb7⟩;clear J c11;go_wp2;refine Au (Bc rfl _ _ _) rfl ?_;refine⟨?_,hBw.trans (hb7.mono hBw.size)⟩;rw [hRf.out];unfold bF;dsimp only;rw [<- bytes_append];rfl
   ·subst e;obtain⟨pre,hpre⟩:∃ pre,Hid (pre=[kw,c.id]):=⟨_,Aa rfl⟩
    have hA3:Cw w1 P X pre:=by rw [hpre.out];exact hA
    have hB3:Below w1 w1 X:=hBX;clear hA m4;have hNp:N<=8:=by rw [<- hN];exact Gr hok
    have hpl:pre.length<=3:=by rw [hpre.out];simp
    go_wp2_with fail;go_loopw [40] (fun iv wr=>∃ j:Nat,j<=N/\iv=↑j/\Hid (Cw w1 P wr (pre++(c.entry.names.take j).map B8))/\Hid (Below w1 w1 wr)) (fun iv _=>N - (ZG iv).toNat);case atStart=>exact⟨0,Bg _,rfl,Aa (by simpa using hA3),Aa hB3⟩
    case round =>
     obtain⟨j,hj,rfl,hA4,hB4⟩:=hrel;have hBw:Below w w wr:=hB1.trans (hB4.out.mono hB1.size);by_cases hlt:j<N
     ·obtain⟨x,hx⟩:∃ x,c.entry.names[j]?=some x:=⟨_,Ad (by rw [hN];omega)⟩
      obtain⟨a',c',e',_,_,hcs⟩:=hv;injection e' with ea eb ec;clear eb;subst ea ec;obtain⟨bb,off,rfl,hblt,hcs⟩:=hcs (fun e=>by rw [e] at hN;simp at hN;omega);obtain⟨vw,d1,d2,d3⟩:=hcs j x hx;have e1:=(hBw.cell (p:=⟨bb,off+j*2,none⟩) hblt).trans d1;have e2:=(hBw.cell (p:=⟨bb,off+j*2+1,none⟩) hblt).trans d2;have hmem:x∈c.entry.names:=Ap hx;have NT:=Aa fun (W:ZB) (hb:Below w w W)=>Mx [aJ x.script,vw] x W (hG.below hb) ⟨vw,rfl,(d3.below hb nR).mono hb.size⟩ (hS.entry.names x hmem) (Mp hok x hmem);have htl:=Lx x (hS.entry.names x hmem);have hts:Hid ((c.entry.names.take (j+1)).map B8=(c.entry.names.take j).map B8++[[34]++aT x++[34]]):=Aa (by rw [aN _ j x hx];simp [B8]);obtain⟨aw,cw,rfl,_,_⟩:=d3.form;generalize x.words.length=xn at *;generalize aT x=T at *;have ht0:((c.entry.names.take j).map B8).length<=8:=by simp;omega
      replace hBw:=Aa hBw;clear hcs d1 d2 d3 hmem hx;have l1:¬ (9223372036854775807<1+T.length):=oM;have l2:¬ (9223372036854775807<1+T.length+1):=oM;clear htl;go_wp2_with fail;refine (NT.out _ (hBw.out.alloc hBw.out.size _)).mono ?_;rintro e w5 ⟨rfl,hb5⟩;have hA5:=Aa ((hA4.out.alloc _).below hb5);have hB5:Hid (Below w1 w1 w5):=Aa ((hB4.out.alloc hB4.out.size _).trans (hb5.mono (by simp;have:=hB4.out.size;omega)));clear NT hb5 e1 e2;go_wp2_with fail;rw [show (⟨#[34]⟩:ByteArray)++⟨T.toArray⟩++⟨#[34]⟩=⟨([34]++T++[34]).toArray⟩ from by rw [<- bytes_append,<- bytes_append]];refine (K2 _ [[34]++T++[34]] (pre++(c.entry.names.take j).map B8) w1.heap.size P _ _ (hA5.out.alloc _) (Ha w5 [[34]++T++[34]] sM).strs (by rw [Aj];simp only [Ar,Bo];omega)).mono ?_;rintro e w6 ⟨rfl,hA6,hb6,hs6⟩;have hA6:Hid (Cw w1 P w6 (pre++(c.entry.names.take (j+1)).map B8)):=Aa (by rw [hts.out,<- D9];exact hA6);have hB6:Hid (Below w1 w1 w6):=Aa ((hB5.out.alloc hB5.out.size _).trans hb6);clear hA5 hB5 hb6 hA4 hB4;go_wp2;go_roundw;case rel=>exact⟨j+1,oM,by go_num,hA6,hB6⟩
      case measure=>simp [ZG];omega
     ·obtain rfl:j=N:=oM;have htk:c.entry.names.take j=c.entry.names:=by rw [<- hN,Dx]
      rw [htk] at hA4;clear htk;obtain⟨v,hv4,hO,_,_⟩:=hA4.out;obtain⟨av,cv,rfl,_,_,_⟩:=hO.form;have c11:wr.cell? ⟨P,0,none⟩=some (.slice av (pre++c.entry.names.map B8).length cv):=Ab hv4 0;have hll:(pre++c.entry.names.map B8).length<=11:=by rw [Aj,Dc,hN];omega
      have hjl:=L2 c hok hS.entry.names pre hpl (by rw [hpre.out];exact .cons hkl.out (.one uD.out));have J:=Aa (L0 _ (pre++c.entry.names.map B8) [32] wr hO.strs oM oM);have hRf:Hid (r=bF (some (CH.join [32] (pre++c.entry.names.map B8)++[59]))):=Aa (by rw [<- hr.out,hpre.out,<- hkw.out,hkn];unfold bJ;rw [hok,hkn];rfl);generalize CH.join [32] (pre++c.entry.names.map B8)=JJ at *;generalize (pre++c.entry.names.map B8).length=LL at *;have l1:¬ (9223372036854775807<JJ.length+1):=oM;clear hjl;clear hO hv4 hA4;go_wp2_with fail;refine J.out.mono ?_;rintro e w7 ⟨rfl,hb7⟩;clear J c11;go_wp2;refine Au (Bc rfl _ _ _) rfl ?_;refine⟨?_,hBw.trans (hb7.mono hBw.size)⟩;rw [hRf.out];unfold bF;dsimp only;rw [<- bytes_append];rfl
  have z0:(0:Int)<=(kn:Int):=oM;have zk:((kn:Int)).toNat=kn:=oM;have hk5:(kn:Int)<5:=oM;refine Ej (S:=(fun W'=>W'.cell? ⟨w,0,none⟩=some ↑kn/\W'.cell? ⟨w,1,none⟩=some ↑c.id)) kR (SS _ hBd) (fun hHeld=>?_);refine tk 1 (v:=?_) rfl rF hHeld ?_ ?_;rotate_left;·(intro w hSw;(try dsimp only at hSw);go_simp;try with_reducible rfl)
  (try simp only [ZF,pA,pB,pC]);refine tk 2 (v:=?_) rfl rF hHeld ?_ ?_;rotate_left;·(intro w hSw;(try dsimp only at hSw);go_simp;try with_reducible rfl)
  (try simp only [ZF,pA,pB,pC]);refine tk 5 (v:=?_) rfl rF hHeld ?_ ?_;rotate_left;·(intro w hSw;(try dsimp only at hSw);go_simp;try with_reducible rfl)
  (try simp only [ZF,pA,pB,pC]);refine tk 6 (v:=?_) rfl rF hHeld ?_ ?_;rotate_left;·(intro w hSw;(try dsimp only at hSw);go_simp;try with_reducible rfl)
  (try simp only [ZF,pA,pB,pC]);refine Fj (rs:=[0,8]) kR sM ?_;refine Ci (o:=_) rfl (fun K hK=>?_) ?_;focus
   go_simp;refine (Yn _).mono ?_;rintro e w2 ⟨rfl,rfl⟩;go_wp2_with fail;refine hK.out _ _ (by refine SS _ ?_;repeat (first|exact hBd|exact Ac _ _|refine Gu ?_|refine Ez ?_ (by simp <;> omega) _|refine Fg ?_ (by simp <;> omega) _)) (fun hHeld=>?_);clear hK K;(try simp only [ZF,pA,pB,pC]);refine tk 3 (v:=?_) rfl rF hHeld ?_ ?_;rotate_left;·(intro w hSw;(try dsimp only at hSw);go_simp;try with_reducible rfl)
   (try simp only [ZF,pA,pB,pC]);refine Fj (rs:=[4,8]) kR sM ?_;refine Ci (o:=_) rfl (fun K hK=>?_) ?_;focus
    go_simp;refine hK.out _ _ (by refine SS _ ?_;repeat (first|exact hBd|exact Ac _ _|refine Gu ?_|refine Ez ?_ (by simp <;> omega) _|refine Fg ?_ (by simp <;> omega) _)) (fun hHeld=>?_);clear hK K;(try simp only [ZF,pA,pB,pC]);refine Fj (rs:=[7,8]) kR sM ?_;refine Ci (o:=_) rfl (fun K hK=>?_) ?_;focus go_simp;refine hK.out _ _ (by refine SS _ ?_;repeat (first|exact hBd|exact Ac _ _|refine Gu ?_|refine Ez ?_ (by simp <;> omega) _|refine Fg ?_ (by simp <;> omega) _)) (fun hHeld=>?_);clear hK K;(try simp only [ZF,pA,pB,pC]);refine rk 8 rfl (fun K hK=>?_);go_simp;refine hK.out _ _ (by refine SS _ ?_;repeat (first|exact hBd|exact Ac _ _|refine Gu ?_|refine Ez ?_ (by simp <;> omega) _|refine Fg ?_ (by simp <;> omega) _)) (fun hHeld=>?_);clear hK K;(try simp only [ZF,pA,pB,pC]);refine rk 9 rfl (fun K hK=>?_);go_simp;refine hK.out _ _ (by refine SS _ ?_;repeat (first|exact hBd|exact Ac _ _|refine Gu ?_|refine Ez ?_ (by simp <;> omega) _|refine Fg ?_ (by simp <;> omega) _)) (fun hHeld=>?_);clear hK K;(try simp only [ZF,pA,pB,pC]);refine D6 kR ?_ _
    rotate_left 1;refine Ci (o:=_) rfl (fun K hK=>?_) Ey;focus go_simp;refine hK.out _ _ (by refine SS _ ?_;repeat (first|exact hBd|exact Ac _ _|refine Gu ?_|refine Ez ?_ (by simp <;> omega) _|refine Fg ?_ (by simp <;> omega) _)) (fun hHeld=>?_);clear hK K;(try simp only [ZF,pA,pB,pC]);refine rk 7 rfl (fun K hK=>?_);go_simp;refine hK.out _ _ (by refine SS _ ?_;repeat (first|exact hBd|exact Ac _ _|refine Gu ?_|refine Ez ?_ (by simp <;> omega) _|refine Fg ?_ (by simp <;> omega) _)) (fun hHeld=>?_);clear hK K;(try simp only [ZF,pA,pB,pC]);refine rk 9 rfl (fun K hK=>?_);go_simp;refine hK.out _ _ (by refine SS _ ?_;repeat (first|exact hBd|exact Ac _ _|refine Gu ?_|refine Ez ?_ (by simp <;> omega) _|refine Fg ?_ (by simp <;> omega) _)) (fun hHeld=>?_);clear hK K;(try simp only [ZF,pA,pB,pC]);refine D6 kR ?_ _
   rotate_left 2;refine Ci (o:=_) rfl (fun K hK=>?_) Ey;focus go_simp;refine hK.out _ _ (by refine SS _ ?_;repeat (first|exact hBd|exact Ac _ _|refine Gu ?_|refine Ez ?_ (by simp <;> omega) _|refine Fg ?_ (by simp <;> omega) _)) (fun hHeld=>?_);clear hK K;(try simp only [ZF,pA,pB,pC]);refine rk 4 rfl (fun K hK=>?_);go_simp;refine hK.out _ _ (by refine SS _ ?_;repeat (first|exact hBd|exact Ac _ _|refine Gu ?_|refine Ez ?_ (by simp <;> omega) _|refine Fg ?_ (by simp <;> omega) _)) (fun hHeld=>?_);clear hK K;(try simp only [ZF,pA,pB,pC]);refine rk 7 rfl (fun K hK=>?_);go_simp;refine hK.out _ _ (by refine SS _ ?_;repeat (first|exact hBd|exact Ac _ _|refine Gu ?_|refine Ez ?_ (by simp <;> omega) _|refine Fg ?_ (by simp <;> omega) _)) (fun hHeld=>?_);clear hK K;(try simp only [ZF,pA,pB,pC]);refine rk 9 rfl (fun K hK=>?_);go_simp;refine hK.out _ _ (by refine SS _ ?_;repeat (first|exact hBd|exact Ac _ _|refine Gu ?_|refine Ez ?_ (by simp <;> omega) _|refine Fg ?_ (by simp <;> omega) _)) (fun hHeld=>?_);clear hK K;(try simp only [ZF,pA,pB,pC]);refine D6 kR ?_ _
  rotate_left 3;refine Ci (o:=_) rfl (fun K hK=>?_) Ey;focus
   go_simp;refine hK.out _ _ (by refine SS _ ?_;repeat (first|exact hBd|exact Ac _ _|refine Gu ?_|refine Ez ?_ (by simp <;> omega) _|refine Fg ?_ (by simp <;> omega) _)) (fun hHeld=>?_);clear hK K;(try simp only [ZF,pA,pB,pC]);refine rk 0 rfl (fun K hK=>?_);go_simp;refine (Yn _).mono ?_;rintro e w2 ⟨rfl,rfl⟩;go_wp2_with fail;refine hK.out _ _ (by refine SS _ ?_;repeat (first|exact hBd|exact Ac _ _|refine Gu ?_|refine Ez ?_ (by simp <;> omega) _|refine Fg ?_ (by simp <;> omega) _)) (fun hHeld=>?_);clear hK K;(try simp only [ZF,pA,pB,pC]);refine tk 3 (v:=?_) rfl rF hHeld ?_ ?_;rotate_left;·(intro w hSw;(try dsimp only at hSw);go_simp;try with_reducible rfl)
   (try simp only [ZF,pA,pB,pC]);refine rk 4 rfl (fun K hK=>?_);go_simp;refine hK.out _ _ (by refine SS _ ?_;repeat (first|exact hBd|exact Ac _ _|refine Gu ?_|refine Ez ?_ (by simp <;> omega) _|refine Fg ?_ (by simp <;> omega) _)) (fun hHeld=>?_);clear hK K;(try simp only [ZF,pA,pB,pC]);refine rk 7 rfl (fun K hK=>?_);go_simp;refine hK.out _ _ (by refine SS _ ?_;repeat (first|exact hBd|exact Ac _ _|refine Gu ?_|refine Ez ?_ (by simp <;> omega) _|refine Fg ?_ (by simp <;> omega) _)) (fun hHeld=>?_);clear hK K;(try simp only [ZF,pA,pB,pC]);refine rk 9 rfl (fun K hK=>?_);go_simp;refine hK.out _ _ (by refine SS _ ?_;repeat (first|exact hBd|exact Ac _ _|refine Gu ?_|refine Ez ?_ (by simp <;> omega) _|refine Fg ?_ (by simp <;> omega) _)) (fun hHeld=>?_);clear hK K;(try simp only [ZF,pA,pB,pC]);refine D6 kR ?_ _
  all_goals first |exact TAIL _ _ _ _ _ (Qk w1 (.cells #[.string ⟨#[]⟩,.string ⟨([97,100,100]:List UInt8).toArray⟩,.string ⟨([114,101,109,111,118,101]:List UInt8).toArray⟩,.string ⟨([99,111,114,114,101,99,116]:List UInt8).toArray⟩,.string ⟨([118,111,105,100]:List UInt8).toArray⟩] 9) (.cells #[↑kw,↑c.id] 9) (.cells #[.slice (some ⟨w1+1,0,none⟩) 2 2] 22) 2 1 dC kw c.id rfl rfl).1 (Qk w1 (.cells #[.string ⟨#[]⟩,.string ⟨([97,100,100]:List UInt8).toArray⟩,.string ⟨([114,101,109,111,118,101]:List UInt8).toArray⟩,.string ⟨([99,111,114,114,101,99,116]:List UInt8).toArray⟩,.string ⟨([118,111,105,100]:List UInt8).toArray⟩] 9) (.cells #[↑kw,↑c.id] 9) (.cells #[.slice (some ⟨w1+1,0,none⟩) 2 2] 22) 2 1 dC kw c.id rfl rfl).2 |exact TAIL _ _ _ _ _ (Qk w1 (.cells #[.string ⟨#[]⟩,.string ⟨([97,100,100]:List UInt8).toArray⟩,.string ⟨([114,101,109,111,118,101]:List UInt8).toArray⟩,.string ⟨([99,111,114,114,101,99,116]:List UInt8).toArray⟩,.string ⟨([118,111,105,100]:List UInt8).toArray⟩] 9) (.cells #[.slice (some ⟨w1+1+1,0,none⟩) 2 2] 22) (.cells #[↑kw,↑c.id] 9) 1 2 dC kw c.id rfl rfl).1 (Qk w1 (.cells #[.string ⟨#[]⟩,.string ⟨([97,100,100]:List UInt8).toArray⟩,.string ⟨([114,101,109,111,118,101]:List UInt8).toArray⟩,.string ⟨([99,111,114,114,101,99,116]:List UInt8).toArray⟩,.string ⟨([118,111,105,100]:List UInt8).toArray⟩] 9) (.cells #[.slice (some ⟨w1+1+1,0,none⟩) 2 2] 22) (.cells #[↑kw,↑c.id] 9) 1 2 dC kw c.id rfl rfl).2 |exact TAIL _ _ _ _ _ (Qk w1 (.cells #[.slice (some ⟨w1+1+1,0,none⟩) 2 2] 22) (.cells #[.string ⟨#[]⟩,.string ⟨([97,100,100]:List UInt8).toArray⟩,.string ⟨([114,101,109,111,118,101]:List UInt8).toArray⟩,.string ⟨([99,111,114,114,101,99,116]:List UInt8).toArray⟩,.string ⟨([118,111,105,100]:List UInt8).toArray⟩] 9) (.cells #[↑kw,↑c.id] 9) 0 2 dC kw c.id rfl rfl).1 (Qk w1 (.cells #[.slice (some ⟨w1+1+1,0,none⟩) 2 2] 22) (.cells #[.string ⟨#[]⟩,.string ⟨([97,100,100]:List UInt8).toArray⟩,.string ⟨([114,101,109,111,118,101]:List UInt8).toArray⟩,.string ⟨([99,111,114,114,101,99,116]:List UInt8).toArray⟩,.string ⟨([118,111,105,100]:List UInt8).toArray⟩] 9) (.cells #[↑kw,↑c.id] 9) 0 2 dC kw c.id rfl rfl).2
end
end Go.Proofs.YthapckjpmkkkpaaGreatDoor
namespace CH
section
theorem Aad (s:List UInt8):∀ (f i:Nat) (out ts:List Tok),mJ s f i out=.ok ts->∀ t∈ts,t∈out\/∃ i j,i<s.length/\next s i=.ok (t,j)
 |0,i,out,ts,h,t,ht=>by
  cases h
  exact .inl ht
 |f+1,i,out,ts,h,t,ht=>by
  unfold mJ at h
  split at h
  ·rename_i hi
   split at h
   ·cases h
   ·rename_i u j hu
    split at h
    ·cases h
    ·rcases Aad s f _ _ ts h t ht with h1|h1
     ·rcases Dp.1 h1 with h2|h2
      ·exact .inl h2
      ·rw [Bz] at h2
       subst h2
       exact .inr ⟨i,j,hi,hu⟩
     ·exact .inr h1
  ·cases h
   exact .inl ht
theorem Aau {s:List UInt8} {i j:Nat} {t:Tok} (h:next s i=.ok (t,j)) (hk:t.kind=1):dG s i=3/\bQ s [3,4,5] i - i<=24/\t.text=(s.drop i).take (bQ s [3,4,5] i - i):=by
 unfold next at h
 split at h
 ·rename_i e;split at h;·cases h
  ·cases h;exact⟨e,oM,rfl⟩
 all_goals
  exfalso;repeat' split at h
  all_goals first |(cases h;done) |(cases h;simp at hk)
theorem Aa6:∀ n:Fin 256,[3,4,5].contains (cls (UInt8.ofNat n.val))=true->tailB (UInt8.ofNat n.val)=true:=by decide +kernel
theorem Aao:∀ n:Fin 256,cls (UInt8.ofNat n.val)=3->letterB (UInt8.ofNat n.val)=true:=by decide +kernel
theorem Aae:∀ n:Fin 256,iK (UInt8.ofNat n.val)=letterB (UInt8.ofNat n.val):=by decide +kernel
theorem Vd (c:UInt8):iK c=letterB c:=by have:=Aae ⟨c.toNat,F9 c⟩;simpa only [UInt8.ofNat_toNat] using this
theorem kD (s:List UInt8):fJ s=isName s:=by
 have ht:lD=tailB:=by funext c;unfold lD tailB;rw [Vd]
 unfold fJ isName;cases s with
 |nil=>rfl
 |cons c l=>simp only [Vd,ht]
theorem ig {s:List UInt8} (h:ident s=true):isName s=true:=by
 unfold ident at h;rw [Am] at h;obtain⟨_,h⟩:=h;split at h
 ·rename_i t hl;rw [Am,Dl,Dl] at h;obtain⟨hk,ht⟩:=h;rcases Aad s _ _ [] _ hl t sM with h1|⟨i,j,hi,hn⟩;·cases h1
  ·obtain⟨h3,h24,hx⟩:=Aau hn hk;rw [ht] at hx;have hlen:=congrArg List.length hx;rw [Dy,Ei] at hlen;have hi0:i=0:=oM;subst hi0;have hm:=pV s [3,4,5] 0;rw [I7] at hx hm;rw [<- hx] at hm;cases hs:s with
   |nil=>rw [hs] at hi;simp at hi
   |cons c l =>
    rw [hs] at hm h3 hlen h24;have hc:letterB c=true:=by have:=Aao ⟨c.toNat,F9 c⟩;simp only [UInt8.ofNat_toNat] at this;exact this h3
    have hall:l.all tailB=true:=Dt.2 fun x hx=>by have:=Aa6 ⟨x.toNat,F9 x⟩;simp only [UInt8.ofNat_toNat] at this;exact this (hm x (Iy _ hx))
    show (letterB c&&l.all tailB&&decide ((c::l).length<=24))=true;rw [hc,hall];simp only [a_Bool_true_and,Bq];omega
 ·cases h
end
end CH
namespace Go.Proofs.YthapckjpmkkkpaaGreatDoor
section
open Go.Lib Go.Proofs.Tryz Go.RowKit Go.Shelf Go.Sort CH
section
open CH
variable {F:Fence} {n:Nat} {P:Program}
theorem But {α:Type} {g:Operand} {ps:Array Tmp} {assign body:Code} {Q:Exit->Act->ZB->Prop} {a:Act} {w:ZB}
  (hro:F.round=none) (h1:1<=n) {gf:Nat} {lb:Array Value} (hg:a.eval g=.func (.func gf) #[] lb) (hFg:F.fn gf) (eg:∀ args w,(callFunc gf args).run P w=.ok (.enter gf args) w)
  {encs:α->Array Value} {S Sp:List α->Prop} {N:Nat} {w0:ZB} (hseq:SeqStopsK F (n - 1) P gf lb encs KeepsWalks S Sp N w0)
  (hb0:Below w0.heap.size w0 w) (hps:∀ x,(encs x).size=ps.size)
  (I:List α->ZB->Prop) (hI:OwnFrom w.heap.size I) (h0:I [] w) (a₁:α->Nat->Act) (asg:α->ZB->ZB) (Bx:α->Nat->ZB->Prop)
  (hassign:∀ (l:Nat) (x:α) (W:ZB) (K:Act->ZB->Prop),K (a₁ x W.heap.size) (asg x W) ->
   assign.wpIn (F.inRound l) (n - 1 - 1) P (Exit.then K (fun _ _ _=>False)) { tmps:=(ps.zip (encs x)).foldl (fun t (p,v)=>t.setIfInBounds p v) a.tmps,defers:=[] } W)
  (FY:∀ x W,Below W.heap.size W (asg x W)) (hBx:∀ x W,Bx x W.heap.size (asg x W))
  (hBp:∀ x b V l (o o':Obj),Bx x b V->V.heap[l]?=some o->o.isCells=false->Bx x b (V.putObj l o'))
  (hbody:∀ (l:Nat) (pre:List α) (x:α) (b:Nat) (W:ZB),I pre W->Bx x b W->pre.length<N->body.wpIn (F.inRound l) (n - 1 - 1) P (ownPostK KeepsWalks I (fun _ _ _=>False) (pre++[x]) W) (a₁ x b) W)
  (hdone:∀ (D:Nat) (xs:List α) (W:ZB),w.heap.size<=D->S xs->I xs W->W.heap[D]?=some (.deferred (some []))->Q .normal { a with defers:={ target:=.collected D,args:=#[] }::a.defers } W) :
  (Code.rangeFunc g ps assign body).wpIn F n P Q a w:=by
 refine wpIn_rangeFunc ?_
 intro fn hfn
 rw [hro]
 obtain⟨rec,hrec⟩:∃ rec:LoopState->Option Code->Loop,rec=fun st pe=>{ state:=st,pending:=pe,fn,tmps:=a.tmps,params:=ps,assign,body,defers:=w.heap.size }:=⟨_,rfl⟩
 obtain⟨V,hV⟩:∃ V,(w.alloc (.deferred (some []))).alloc (.loop (rec .ready none))=V:=⟨_,rfl⟩
 have bV:Below w.heap.size w V:=by rw [<- hV];exact ((Ac _ w).alloc nR _).alloc sM _
 have zV:V.heap.size=w.heap.size+1+1:=by rw [<- hV];simp
 have uj:V.heap[w.heap.size+1]?=some (.loop (rec .ready none)):=by
  have:=Ai (w.alloc (.deferred (some []))) (.loop (rec .ready none))
  rw [Cc,hV] at this
  exact this
 have rC:V.heap[w.heap.size]?=some (.deferred (some [])):=by
  rw [<- hV];exact (Jz _ _ _ sM).trans (Ai w _)
 have IV:I [] V:=by rw [<- hV];exact hI.alloc _ (hI.alloc _ h0)
 refine⟨w.heap.size+1,[{ target:=.collected w.heap.size,args:=#[] }],V,{ target:=.fn (.func gf) lb,args:=#[.func (.yield (w.heap.size+1)) #[] #[]] },V,gf,
  #[.func (.yield (w.heap.size+1)) #[] #[]]++lb,V,?_,?_,?_,?_,fun _=>h1,?_⟩
 ·rw [<- hV,hrec];exact run_enterLoop_outer _ _ _ _ _
 ·simp only [resolve,hg]
  simp [go_sem]
 ·intro f' hf';simp [Target.leads] at hf';subst hf';exact hFg
 ·simp [invoke,go_sem,eg]
 have far:∀ {A:ZB} {row:Option Nat},(∀ r,row=some r->V.heap.size<=r/\∃ o:Obj,A.heap[r]?=some o/\o.isWalk=true)->∀ r,row=some r->w.heap.size<=r/\∃ o:Obj,A.heap[r]?=some o/\o.isCells=false :=
  fun hr r e=>by obtain⟨h1,o,h2,h3⟩:=hr r e;exact⟨oM,o,h2,Obj.not_cells_of_walk h3⟩
 refine (hseq (w.heap.size+1)
  (fun pre A=>I pre A/\A.heap[w.heap.size+1]?=some (.loop (rec .ready none))/\A.heap[w.heap.size]?=some (.deferred (some [])))
  (fun _ _=>False)
  V (hb0.trans (bV.mono hb0.size))
  (fun s A B row hs hg' hr=>⟨hI s A B row hs.1 hg' (far hr),(grownBy_keeps hg' (fun r e=>(hr r e).2) hs.2.1 rfl).trans hs.2.1,(grownBy_keeps hg' (fun r e=>(hr r e).2) hs.2.2 rfl).trans hs.2.2⟩)
  (fun _ _ _ _ hs _ _=>hs)
  ?_ ⟨IV,uj,rC⟩).mono ?_
 ·rintro pre x A0 ⟨hi0,hl0,hk0⟩ hlen
  have hlt0:w.heap.size+1<A0.heap.size:=(aZ hl0)
  have hy:=run_yield (P:=P) (args:=encs x) hl0 (by rw [hrec];exact hps x)
  rw [hrec] at hy
  obtain⟨A,hA⟩:∃ A,asg x A0=A:=⟨_,rfl⟩
  have bA:Below A0.heap.size A0 A:=by rw [<- hA];exact FY x A0
  have xA:Bx x A0.heap.size A:=by rw [<- hA];exact hBx x A0
  have hi:I pre A:=hI pre A0 A none hi0 (V0 bA) (fun r e=>by cases e)
  have hl:A.heap[w.heap.size+1]?=some (.loop (rec .ready none)):=(bA.block _ hlt0).trans hl0
  have hk:A.heap[w.heap.size]?=some (.deferred (some [])):=(bA.block _ oM).trans hk0
  have hlt:w.heap.size+1<A.heap.size:=(aZ hl)
  refine⟨fn,_,assign,body,hy,roundIn_of_wpIn hfn (hassign _ x A0 _ ?_)⟩
  rw [hA]
  refine⟨_,run_beginRound hl (by rw [hrec]),?_⟩
  obtain⟨busy,jE⟩:∃ b:Obj,b=.loop { rec .ready none with state:=.busy }:=⟨_,rfl⟩
  rw [<- jE]
  have l2:(A.putObj (w.heap.size+1) busy).heap[w.heap.size+1]?=some busy:=World.putObj_heap_same hlt
  have k2:(A.putObj (w.heap.size+1) busy).heap[w.heap.size]?=some (.deferred (some [])):=(World.putObj_heap_other oM).trans hk
  have b2:KeepsWalks A0 (A.putObj (w.heap.size+1) busy):=(Qf bA).trans (KeepsWalks.putObj _ hl rfl)
  have i2:I pre (A.putObj (w.heap.size+1) busy):=hI.putObj _ hi oM hl rfl
  have x2:Bx x A0.heap.size (A.putObj (w.heap.size+1) busy):=hBp _ _ _ _ _ _ xA hl rfl
  have ends:∀ (C:ZB),KeepsOthers (A.putObj (w.heap.size+1) busy) C ->
    (Instr.endRound (w.heap.size+1) none).run P C=.ok (.bool true) (C.putObj (w.heap.size+1) (.loop (rec .ready none))) /\
    C.heap[w.heap.size+1]?=some busy /\
    (C.putObj (w.heap.size+1) (.loop (rec .ready none))).heap[w.heap.size+1]?=some (.loop (rec .ready none)) /\
    (C.putObj (w.heap.size+1) (.loop (rec .ready none))).heap[w.heap.size]?=some (.deferred (some [])):=fun C hC=>by
   have l3:=hC.same _ _ l2 (by rw [jE];rfl)
   have l3':=l3
   rw [jE] at l3'
   have:=run_endRound (P:=P) none l3'
   rw [hrec] at this ⊢
   exact⟨this,l3,World.putObj_heap_same (aZ l3),(World.putObj_heap_other oM).trans (hC.same _ _ k2 rfl)⟩
  refine wpIn_mono (hbody _ pre x _ _ i2 x2 hlen) ?_
  rintro e a3 C hC
  cases e with
  |normal =>
   obtain⟨hk3,hkp3,hi3⟩:=hC
   obtain⟨hr,hl3,hl4,hk4⟩:=ends C hk3
   exact⟨_,_,hr,.inl ⟨rfl,⟨hI.putObj _ hi3 oM hl3 (by rw [jE];rfl),hl4,hk4⟩,(b2.trans hkp3).trans (KeepsWalks.putObj _ hl3 (by rw [jE];rfl))⟩⟩
  |ret=>exact hC.2.elim
  |exit id=>exact hC.2.elim
  |goto t=>exact hC.2.elim
  |panic ch=>exact hC.elim
  |outgrown=>exact hC.elim
 ·rintro e B ⟨⟨v,rfl⟩,(⟨xs,hS,hi,hl,hk⟩|⟨pre,hSp,hf⟩)⟩
  ·exact⟨none,_,by have:=run_endLoop (P:=P) hl (by rw [hrec];simp);rw [hrec] at this;exact this,hdone _ xs _ nR hS (hI.putObj _ hi oM hl rfl) ((World.putObj_heap_other oM).trans hk)⟩
  ·exact hf.elim
end
end
end Go.Proofs.YthapckjpmkkkpaaGreatDoor
