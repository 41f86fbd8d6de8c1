/-
  ChainMakes: the proof, part 23 of 34.
-/
import Derived.Test.YtdgmgjeoikcgbaaGreatDoorP19
set_option linter.unusedSimpArgs false
set_option linter.unusedVariables false
set_option maxHeartbeats 40000000
set_option maxRecDepth 100000
open Go renaming World -> ZB, Value -> ZC, Calls -> ZE
open Go.RowKit renaming intOf -> ZG
open Go.Lib renaming itoa -> ZK, byteCells -> ZL
namespace Go.Proofs.YtdgmgjeoikcgbaaGreatDoor
section
open Go.Lib Go.Proofs.Tryz Go.RowKit Go.Shelf Go.Sort CH
attribute [local irreducible] wpQuiet
def wV (x:Nat):Nat:=CH.mix3 (CH.mix2 ((x*2862933555777941757) % 18446744073709551616))
theorem Due (s n:Nat):wV (s ^^^ n)=CH.mix s n:=rfl
theorem Ggx (x:Nat) (w:ZB) (hx:x<18446744073709551616) : ZE prog 122 #[.int .u64 x] w (Ret w (.int .u64 (wV x))):=by
 go_enter func122,ntmps122;go_wp2;go_ret;have hm:=Dot x 0 hx dC;have e:=bits_xor_u64_nat x 0 hx dC;rw [Nat.xor_zero] at e;rw [e] at hm;refine⟨?_,Ac _ _⟩;have h0:wV x=CH.mix x 0:=by have:=Due x 0;rwa [Nat.xor_zero] at this
 rw [h0,<- hm];rfl
def bK:Nat->List UInt8->Nat
 |0,_=>0
 |k+1,l=>bK k l*256+(l.getD k 0).toNat
theorem Lsp (l:List UInt8):bK 8 l=be8 l:=by simp [bK,be8]
theorem wP (k:Nat) (l:List UInt8) (h:k<=7):bK k l<72057594037927936:=by
 have:bK k l<256 ^ k:=by
  clear h;induction k with
  |zero=>simp [bK]
  |succ k ih=>have:=u8_lt (l.getD k 0);rw [bK,Iu];omega
 exact Ai this (Af (Jf dC h) dC)
theorem Mru (k c:Nat) (l:List UInt8) (h:k<=7) (hc:(l.getD k 0).toNat=c):IntKind.u64.wrap (IntKind.u64.wrap ((bK k l:Nat)*256:Int)+IntKind.u64.wrap (c:Int))=((bK (k+1) l:Nat):Int):=by have h1:=wP k l h;have h2:=u8_lt (l.getD k 0);simp only [Ih,bK];omega
theorem Mrv (k:Nat) (l:List UInt8) (h:k<=7) (hc:(l.getD k 0).toNat=0):IntKind.u64.wrap ((bK k l:Nat)*256:Int)=((bK (k+1) l:Nat):Int):=by have h1:=wP k l h;simp only [Ih,bK];omega
theorem Hwl (q:Nat) (h:q<16):((ByteArray.mk #[48,49,50,51,52,53,54,55,56,57,97,98,99,100,101,102]).extract q (q+1))=⟨#[CH.hexDigit q]⟩:=by rcases q with _|_|_|_|_|_|_|_|_|_|_|_|_|_|_|_|q;all_goals first|rfl|omega
theorem Sq (l:List UInt8) (w:ZB) (hlen:l.length<=140737488355328) : ZE prog 56 #[↑l] w (Ret w (.string ⟨(CH.sum l).toArray⟩)):=by
 have hx:bits BinOp.xor IntKind.u64 2611923443488327891 (l.length:Int)=((2611923443488327891 ^^^ l.length:Nat):Int):=by exact bits_xor_u64_nat 2611923443488327891 _ dC oM
 have hs:2611923443488327891 ^^^ l.length<18446744073709551616:=lN dC oM;have HF:Hid (gy 16 (fP (l.length / 8+1) (2611923443488327891 ^^^ l.length) l)=CH.sum l):=Aa rfl;generalize 2611923443488327891 ^^^ l.length=s at hx hs HF;go_enter func56,ntmps56;go_wp2;clear hx;go_loopw [3,4] (fun st i wr=>∃ k a:Nat,Hid (a=8*k)/\i=↑a/\a<=l.length+8/\st=.int .u64 (fP k s l:Nat)/\Below w w wr) (fun _ i _=>l.length+8 - (ZG i).toNat);case atStart=>exact⟨0,0,Aa rfl,rfl,oM,rfl,Ac _ _⟩
 case round =>
  obtain⟨k,a,hak,rfl,hk,rfl,hb⟩:=hrel;by_cases hlt:a<=l.length
  ·have ha:=kW k s l hs;have hb8:=uY (l.drop a);have hn:=jW k s l;rw [<- hak.out] at hn;have hxl:=lN ha hb8;rw [<- Due] at hn;rw [<- Lsp] at hn hxl hb8;replace hn:=Aa hn;have hy:=ha;clear ha;generalize fP k s l=y at *;go_wp2;go_loopw [5,6] (fun bv jv wq=>∃ j m:Nat,j<=8/\(a+j<=m/\m<=a+j)/\jv=↑m/\bv=.int .u64 (bK j (l.drop a):Nat)/\wq=wr) (fun _ jv _=>a+8 - (ZG jv).toNat);case atStart=>exact⟨0,a,oM,oM,rfl,rfl,rfl⟩
   case round =>
    obtain⟨j,m,hj,⟨hm,hm'⟩,rfl,rfl,rfl⟩:=hrel;by_cases hj8:j<8
    ·have hst:=Mru j (l.getD m 0).toNat (l.drop a) oM (by rw [show m=a+j from by omega];simp);have hso:=Mrv j (l.drop a) oM;by_cases hin:m<l.length
     ·obtain⟨c,hc⟩:∃ c,l[m]?=some c:=⟨_,Ad hin⟩
      have hgk:=I6 l m hin c hc;have e:l.getD m 0=c:=by simp [hc]
      rw [e] at hst;clear hc e hso hb8 hxl;exact FD131
     ·have hst:=hso (by rw [List.getD_eq_getElem?_getD,Ie,Gm oM];rfl);clear hso hb8 hxl;exact FD131
    ·obtain rfl:j=8:=oM;have hma:a+8<=m:=oM;clear hj8 hj;have hxx:=bits_xor_u64_nat y (bK 8 (l.drop a)) hy hb8;generalize bK 8 (l.drop a)=z at *;generalize y ^^^ z=x at *;go_wp2_with fail;refine (Ggx x wr hxl).mono ?_;rintro e w1 ⟨rfl,hb1⟩;have hb2:=hb.trans (hb1.mono hb.size);go_wp2;go_roundw;case rel=>exact⟨k+1,a+8,Aa (by have:=hak.out;omega),by go_num,oM,by rw [hn.out],hb2⟩
     case measure=>simp [ZG];omega
  ·have e:l.length / 8+1=k:=by have:=hak.out;omega
   rw [e] at HF;have ha:=kW k s l hs;generalize fP k s l=n at *;clear e hs;go_wp2;clear hlt hk hak;go_loopw [3,7,8] (fun st tv iv wq=>∃ j x:Nat,j<=16/\iv=↑j/\st=.int .u64 x/\x=n / 16 ^ j/\tv=.string ⟨(gy j n).toArray⟩/\wq=wr) (fun _ _ iv _=>16 - (ZG iv).toNat);case atStart=>exact⟨0,n,oM,rfl,rfl,sM,rfl,rfl⟩
   case round =>
    obtain⟨j,x,hj,rfl,rfl,hx,rfl,rfl⟩:=hrel;by_cases hlt:j<16
    ·have hk:=mZ j n;rw [<- hx] at hk;have hd:x / 16=n / 16 ^ (j+1):=by rw [hx,Nat.div_div_eq_div_mul,Iu]
     have hm:x<18446744073709551616:=by rw [hx];exact Ko (Nat.div_le_self _ _) ha
     have hdg:=Hwl (x % 16) (Jo _ dC);have hll:=jB j n;replace hk:=Aa hk;replace hd:=Aa hd;generalize gy j n=t at *;have hx16:x % 16<16:=Jo _ dC;clear hx;go_wp2_with fail;go_roundw;case rel=>exact⟨j+1,x / 16,oM,by go_num,by go_num,hd.out,by rw [hk.out,ByteArray.mk_append_mk];rfl,by trivial⟩
     case measure=>simp [ZG];omega
    ·obtain rfl:j=16:=oM;rw [HF.out];clear HF hx;generalize CH.sum l=R at *;exact FD123
theorem Ss (l:List UInt8) (n:Nat) (w:ZB) (hn:n<=1000) (hl:l.length<=1000000) : ZE prog 59 #[↑l,↑n] w (Ret w (.string ⟨(CH.chain n l).toArray⟩)):=by
 go_enter func59,ntmps59;go_wp2_with fail;go_loopw [0,5] (fun s i wr=>∃ (k:Nat) (t:List UInt8),k<=n/\i=↑k/\s=↑t/\t.length<=1000000/\Hid (t=CH.chain k l)/\Below w w wr) (fun _ i _=>n - (ZG i).toNat);case atStart=>exact⟨0,l,Bg _,rfl,rfl,hl,rfl,Ac _ _⟩
 case round =>
  obtain⟨k,t,hk,rfl,rfl,ht,hH,hb⟩:=hrel;by_cases hlt:k<n;·go_wp2_with fail;refine (Sq t _ oM).mono ?_;exact FD72
  ·have e:k=n:=oM;have HF:Hid (t=CH.chain n l):=by rw [<- e];exact hH
   clear e hH;go_wp2;go_ret;exact⟨by rw [<- HF.out];rfl,hb⟩
end
section
open Go.Lib Go.Proofs.Tryz Go.RowKit Go.Shelf Go.Sort CH
attribute [local irreducible] wpQuiet
theorem Xz:(prog.info? 5).map (fun i=>(i.zero,i.size,i.bytes))=some (some (.int .u8 0),1,1):=kR
def Yb (base:Nat) (w:ZB) (v:ZC) (l:List UInt8):Prop:=w.ownsRow base 5 1 v l.length (ZL l)
theorem Uu {w w0:ZB} {ops:Array Oper} {rest:List Oper} {o:Oper} {a:Act} {Q:Exit->Act->ZB->Prop} (hgd:o.guard=none) (s x:Operand) (ho:o.op=.call { callee:=.builtin .append,args:=#[s,x],argTypes:=#[128,9] }) (base:Nat) (v:ZC) (l m:List UInt8) (hs:a.eval s=v) (hown:Yb base w v l) (hx:a.eval x=↑m) (hb:Below base w0 w) (hbase:base<=w.heap.size) (hlen:l.length+m.length<=140737488355328) (h:∀ v' w',Yb base w' v' (l++m)->Below base w0 w'->base<=w'.heap.size->wpList prog ops Q rest (a.put o.dst v') w') : wpList prog ops Q (o::rest) a w:=by
 obtain⟨i,hi,hz0,hz1,hz2⟩:=I7 Xz;refine Lib.wpList_append_own_string w hgd s x 128 9 ho base 5 i underlying128 underlying9 hi hz0 hz1 hz2 v l.length _ hs hown ⟨m.toArray⟩ hx (by unfold maxLen;simp [ByteArray.size];omega) (by simp [ByteArray.size];omega) hbase ?_;intro v' w' h1 h2 _;refine h v' w' ?_ (hb.grown h2 hbase (fun j hj=>(Dj hown j hj).1)) (Af hbase h2.size);unfold Yb;have e:ZL (l++m)=ZL l++Lib.strCells ⟨m.toArray⟩:=by simp [ZL,Lib.strCells]
 rw [e];simpa [ByteArray.size] using h1
theorem Hxo {w w0:ZB} {ops:Array Oper} {rest:List Oper} {o:Oper} {a:Act} {Q:Exit->Act->ZB->Prop} (hgd:o.guard=none) (s x:Operand) (ho:o.op=.call { callee:=.builtin .append,args:=#[s,x],argTypes:=#[128,128] }) (base:Nat) (v:ZC) (l:List UInt8) (c:UInt8) (g cp:Nat) (hs:a.eval s=v) (hown:Yb base w v l) (hx:a.eval x=.slice (some ⟨g,0,none⟩) 1 cp) (hcell:w.cell? ⟨g,0,none⟩=some (.int .u8 (c.toNat:Int))) (hb:Below base w0 w) (hbase:base<=w.heap.size) (hlen:l.length<=1099511627776) (h:∀ v' w',Yb base w' v' (l++[c])->Below base w0 w'->base<=w'.heap.size->wpList prog ops Q rest (a.put o.dst v') w') : wpList prog ops Q (o::rest) a w:=by
 obtain⟨i,hi,hz0,hz1,hz2⟩:=I7 Xz;refine wpList_append_own_at w hgd s x 128 ho base 5 i _ 1 1 underlying128 hi hz0 hz1 hz2 rfl dC v l.length _ hs hown ⟨g,0,none⟩ 1 cp [.int .u8 (c.toNat:Int)] hx rfl ?_ ?_ ?_ ?_ hbase ?_;·exact FD84
 ·intro u hu;simp at hu;subst hu;rfl
 ·exact FD143
 ·omega
 ·intro v' w' h1 h2 _ _;refine h v' w' ?_ (hb.grown h2 hbase (fun j hj=>(Dj hown j hj).1)) (Af hbase h2.size);unfold Yb;have e:ZL (l++[c])=ZL l++[.int .u8 (c.toNat:Int)]:=by simp [ZL]
  rw [e];simpa using h1
theorem Yb.text {base:Nat} {w:ZB} {v:ZC} {l:List UInt8} (h:Yb base w v l) (hl:l≠[]):∃ g cap,v=.slice (some ⟨g,0,none⟩) l.length cap/\(convert 128 9 (.slice (some ⟨g,0,none⟩) l.length cap)).run prog w=.ok ↑l w:=by
 have h0:=h;obtain⟨hlen,⟨rfl,e⟩|⟨g,cap,cur,rfl,rest⟩⟩:=h;·exact absurd (Ce.1 e) hl
 ·refine⟨g,cap,rfl,run_convert_bytes_back w _ _ 5 ⟨g,0,none⟩ cap l underlying128 underlying5 underlying9 fun j hj=>?_⟩;rw [show (⟨g,0,none⟩:Addr).add j=⟨g,j,none⟩ from by cases j <;> simp [Addr.add],Ig h0 j (by simpa using hj)];simp [ZL,hj]
theorem Mps (f:Int->List UInt8) {ls:List (List UInt8)} (h:ls≠[]):CH.pack f ls≠[]:=by
 cases ls with
 |nil=>exact absurd rfl h
 |cons x r=>intro e;have:=congrArg List.length e;simp [CH.pack] at this
theorem Yv (v:ZC) (ls:List (List UInt8)) (w:ZB) (hv:Strs w w v ls) (hn0:ls≠[]) (hn:ls.length<=1000) (hl:∀ l∈ls,l.length<=1000000) : ZE prog 141 #[v] w (Ret w (.string ⟨(CH.pack ZK ls).toArray⟩)):=by
 have hpl:=P0 ls 1000000 hl dC;have hpm:ls.length*(1000000+22)<=1000*1000022:=Dh _ hn;have hpn:=Mps ZK hn0;obtain⟨a,cap,rfl,hlc,hcap,hne⟩:=hv;obtain⟨b,off,rfl,hbl,hcells⟩:=hne hn0;have HL:=Aa hl;have HC:=Aa hcells;obtain⟨i0,hi,hz0,hz1,hz2⟩:=I7 Xz;clear hne hcells hl hn0;go_enter func141,ntmps141;go_wp2_with fail;go_loopw [3,4] (fun nv iv wr=>∃ k m:Nat,k<=ls.length/\iv=↑k/\nv=↑m/\m<=k*1000021/\w=wr) (fun _ iv _=>ls.length - (ZG iv).toNat);case atStart=>exact⟨0,0,Bg _,rfl,rfl,oM,rfl⟩
 case round =>
  obtain⟨k,m,hk,rfl,rfl,hm,rfl⟩:=hrel;by_cases hlt:k<ls.length
  ·obtain⟨l,hl'⟩:∃ l,ls[k]?=some l:=⟨_,Ad hlt⟩
   have hcell:=HC.out k l hl';have hll:=HL.out l (Aq hl');clear hl';go_wp2;go_roundw;case rel=>exact⟨k+1,m+l.length+21,oM,by go_num,by go_num,oM,by trivial⟩
   case measure=>simp [ZG];omega
  ·have e:k=ls.length:=oM;clear hlt;go_wp2_with (at_make;refine wpList_make_own _ rfl _ _ 128 rfl w 5 i0 _ 1 underlying128 hi hz0 hz1 .i64 .i64 _ m rfl rfl rfl ?b2 ?b3 nR ?_)
   case b2=>rw [hz2];omega
   case b3=>unfold maxLen;omega
   intro w1 hown hg1;have hO1:Yb w w1 (.slice (some ⟨w,0,none⟩) 0 m) []:=hown;have hb1:Below w w w1:=(Ac _ w).grown hg1 nR (fun k e=>by cases e);have hs1:=hg1.size;clear hown hg1 hi hz0 hz1 hz2 e hm hk;go_wp2_with fail;go_loopw [5,6] (fun ov iv wq=>∃ k:Nat,k<=ls.length/\iv=↑k/\Yb w wq ov (CH.pack ZK (ls.take k))/\Below w w wq/\w.heap.size<=wq.heap.size) (fun _ iv _=>ls.length - (ZG iv).toNat);case atStart=>exact⟨0,Bg _,rfl,by simpa [CH.pack] using hO1,hb1,hs1⟩
   case round =>
    obtain⟨k,hk,rfl,hO,hb,hs⟩:=hrel;by_cases hlt:k<ls.length
    ·obtain⟨l,hl'⟩:∃ l,ls[k]?=some l:=⟨_,Ad hlt⟩
     have hc0:=HC.out k l hl';have hll:=HL.out l (Aq hl');have hcell:∀ W,Below w w W->W.cell? ⟨b,off+k,none⟩=some ↑l:=fun W hW=>(hW.cell (p:=⟨b,off+k,none⟩) hbl).trans hc0;have hcq:=hcell _ hb;have hts:=aI ls k l hl';have hle:=lT ZK ls (k+1);rw [hts,kS] at hle;have HP:Hid (CH.pack ZK (ls.take (k+1))=CH.pack ZK (ls.take k)++ZK l.length++[58]++l):=Aa (by rw [hts,kS];simp);simp only [Au,Dx] at hle;have HCE:=Aa hcell;clear hts hl' hc0 hcell;generalize CH.pack ZK (ls.take k)=Pk at HP hle hO;go_wp2_with fail;refine (C0 _ _ oM oM).mono ?_;rintro e w2 ⟨rfl,hb2⟩;have hO2:Yb w w2 _ Pk:=Ff hO hb2;have hbB:=hb.trans (hb2.mono hs);have hs2:=Af hs hb2.size;clear hO hb hb2 hs hcq;go_wp2_with (at_builtin;refine Uu rfl _ _ rfl w _ Pk (ZK l.length) rfl hO2 rfl hbB hs2 oM ?_)
     intro v3 w3 hO3 hb3 hs3;have hl2:(Pk++ZK l.length).length=Pk.length+(ZK l.length).length:=Au;clear hO2 hbB hs2;generalize Pk++ZK l.length=P2 at *;have hO4:=H8 hO3 (.cells #[.int .u8 58] 5);have hb4:=hb3.alloc hs3 (.cells #[.int .u8 58] 5);go_wp2_with (at_builtin;refine Hxo rfl _ _ rfl w _ P2 58 w3.heap.size 1 rfl hO4 rfl (by rw [Cj _ _ _ _ rfl];rfl) hb4 (by simp;omega) oM ?_)
     intro v5 w5 hO5 hb5 hs5;have hl3:(P2++[58]).length=P2.length+1:=Au;clear hO3 hO4 hb3 hb4 hs3;generalize P2++[58]=P3 at *;have hcq:=HCE.out _ hb5;go_wp2_with (at_builtin;refine Uu rfl _ _ rfl w _ P3 l rfl hO5 rfl hb5 hs5 oM ?_)
     intro v6 w6 hO6 hb6 hs6;rw [<- HP.out] at hO6;clear hO5 hb5 hs5 hcq;go_wp2;go_roundw;case rel=>exact⟨k+1,oM,by go_num,hO6,hb6,hs6⟩
     case measure=>simp [ZG];omega
    ·have e:ls.take k=ls:=Cb oM;rw [e] at hO;obtain⟨g,cp,rfl,hcv⟩:=hO.text hpn;clear e hO;generalize CH.pack ZK ls=P at *;exact FD123
theorem T6 (v:ZC) (ls:List (List UInt8)) (w:ZB) (hv:Strs w w v ls) (hn0:ls≠[]) (hn:ls.length<=1000) (hl:∀ l∈ls,l.length<=1000000) : ZE prog 79 #[v] w (Ret w (.string ⟨(CH.dl ls).toArray⟩)):=by have hpl:=P0 ls 1000000 hl dC;have hpm:ls.length*(1000000+22)<=1000*1000022:=Dh _ hn;have HC:=Aa (Yv v ls w hv hn0 hn hl);have HF:Hid (CH.sum (CH.pack ZK ls)=CH.dl ls):=Aa rfl;clear hv hn0 hl;generalize CH.pack ZK ls=P at *;go_enter func79,ntmps79;go_wp2_with fail;refine HC.out.mono ?_;rintro e w1 ⟨rfl,hb⟩;go_wp2_with fail;refine (Sq P w1 oM).mono ?_;rintro e w2 ⟨rfl,hb2⟩;go_wp2;go_ret;exact⟨by rw [<- HF.out];rfl,hb.trans (hb2.mono hb.size)⟩
theorem Po (cs:List (List UInt8)) (w:ZB) (h0:cs≠[]) (h1:cs.length<=100) (h2:∀ l∈cs,l.length<=1000000) : ZE prog 79 #[.slice (some ⟨w,0,none⟩) cs.length cs.length] (w.alloc (.cells (cs.map fun l=>Value.string ⟨l.toArray⟩).toArray 9)) (Ret w (.string ⟨(CH.dl cs).toArray⟩)):=by refine (T6 _ cs _ (by rw [Dn];exact Rs w cs 9 oM) h0 oM h2).mono ?_;rintro e w' ⟨rfl,hb1⟩;exact FD130
theorem Ub (s:List UInt8) (w:ZB) (hs:s.length<=1000000) : ZE prog 140 #[↑s] w (Ret w (.string ⟨(CH.dl [iT,s]).toArray⟩)):=by go_enter func140,ntmps140;go_wp2_with fail;refine (Po [iT,s] w sM sM (by intro l hl;simp at hl;rcases hl with rfl|rfl;decide;exact hs)).mono ?_;rintro e w' ⟨rfl,hb1⟩;exact FD41
theorem Ty (a b:List UInt8) (w:ZB) (ha:a.length<=1000000) (hb:b.length<=1000000) : ZE prog 201 #[↑a,↑b] w (Ret w (.string ⟨(CH.node a b).toArray⟩)):=by go_enter func201,ntmps201;go_wp2_with fail;refine (Po [qE,a,b] w sM sM (by intro l hl;simp at hl;rcases hl with rfl|rfl|rfl;decide;exact ha;exact hb)).mono ?_;rintro e w' ⟨rfl,hb1⟩;exact FD41
theorem Pw (n:Nat) (w:ZB) (hn:n<=2305843009213693952):ZE prog 188 #[↑n] w fun e w'=>e=.returned (.int .i64 (CH.half n))/\w=w':=by go_enter func188,ntmps188;exact FD26
theorem Ua (f:Nat):∀ (v:ZC) (ls:List (List UInt8)) (w:ZB),ls.length<f->ls≠[]->Strs w w v ls->ls.length<=1000000->(∀ l∈ls,l.length<=1000000) -> ZE prog 189 #[v] w (Ret w (.string ⟨(CH.root ls).toArray⟩)):=by
 induction f with
 |zero=>intro v ls w h;omega
 |succ f ih =>
  intro v ls w hf h0 hv hn hl;have IH:=Aa ih;clear ih;have hv0:=hv;obtain⟨a,cap,rfl,hlc,hcap,hne⟩:=hv;obtain⟨b,off,rfl,hb,hc⟩:=hne h0;by_cases h1:ls.length=1;·obtain⟨x,rfl⟩:=List.length_eq_one_iff.1 h1;have hcx:w.cell? ⟨b,off,none⟩=some ↑x:=hc 0 x rfl;clear hc;have hx:=hl x sM;go_enter func189,ntmps189;go_wp2_with fail;refine (Ub x w hx).mono ?_;rintro e w' ⟨rfl,hb1⟩;exact FD41
  ·have h2:2<=ls.length:=by cases ls with|nil=>exact absurd rfl h0|cons x r=>simp at h1 ⊢;cases r with|nil=>simp at h1|cons=>simp
   have e0:((ls.length:Int)==0)=false:=by simp;omega
   have e1:((ls.length:Int)==1)=false:=by simp;omega
   have hfin:=jL ls h2;have hk1:=iy ls.length;have hk2:=iH ls.length h2;have HF:=Aa hfin;clear hfin hne hc h0 h1;go_enter func189,ntmps189;go_wp2_with fail;refine (Pw ls.length w oM).mono ?_;rintro e w' ⟨rfl,rfl⟩;generalize CH.half ls.length=k at HF hk1 hk2;have hkc:¬ (cap=k):=oM;go_wp2_with fail;have hbd:Below w w w.drew:=(Ac _ _).drew;have hSt:Strs w.drew w.drew _ _:=(hv0.take k oM).below hbd nR;have hSd:Strs w.drew w.drew _ _:=(hv0.drop k oM).below hbd nR;have hnt:ls.take k≠[]:=fun e=>by have:=congrArg List.length e;rw [Dz,Bj] at this;omega
   have hnd:ls.drop k≠[]:=fun e=>by have:=congrArg List.length e;rw [Fa,Bj] at this;omega
   have HNT:=Aa hnt;have HND:=Aa hnd;have HSt:=Aa hSt;have HSd:=Aa hSd;have HL:=Aa hl;clear hSt hSd hv0 hl hnt hnd;go_region_with (first |(go_at_call 201;refine (Ty _ _ _ (by rw [eF];decide) (by rw [eF];decide)).mono ?_;rintro e w3 ⟨rfl,hb3⟩) |(go_at_call_of 189 (ls.length - k);refine (IH.out _ (ls.drop k) _ (by simp;omega) HND.out ?_ (by simp;omega) (fun l hl=>HL.out l (Jg hl))).mono ?_;exact (HSd.out.below hb1 nR).mono hb1.size;rintro e w2 ⟨rfl,hb2⟩) |(go_at_call 189;refine (IH.out _ (ls.take k) _ (by simp;omega) HNT.out ?_ (by simp;omega) (fun l hl=>HL.out l (He hl))).mono ?_;exact HSt.out;rintro e w1 ⟨rfl,hb1⟩))
   all_goals go_wp2
   all_goals go_ret
   all_goals exact⟨by rw [HF.out];rfl,((hbd.trans hb1).trans (hb2.mono hb1.size)).trans (hb3.mono (Af hb1.size hb2.size))⟩
end
section
open Go.Lib Go.Proofs.Tryz Go.RowKit Go.Shelf Go.Sort CH
theorem Kn {l:List UInt8} (h:ay l=true):l.length=16:=by unfold ay at h;rw [Aw,D7] at h;exact h.1
theorem Are (f:Nat):∀ (v:ZC) (ls:List (List UInt8)) (i:Nat) (w:ZB),f<=1000->ls.length<=f->i<ls.length->Strs w w v ls->ls.length<=1000->(∀ l∈ls,l.length<=1000000) -> ZE prog 125 #[v,↑i] w (Can w (eP f ls i).reverse):=by
 induction f with
 |zero=>intro v ls i w h0 h h2;omega
 |succ f ih =>
  intro v ls i w hf0 hf hi hv hn hl;have IH:=Aa ih;clear ih;have hv0:=hv;obtain⟨a,cap,rfl,hlc,hcap,hne⟩:=hv;obtain⟨b,off,rfl,hb,_⟩:=hne (by rintro rfl;simp at hi);clear hne;by_cases h1:ls.length=1;·have hp:=kQ (f+1) ls i oM;rw [hp,h1];go_enter func125,ntmps125;go_wp2;go_ret;exact⟨_,rfl,Ax.nil _ _,Ac _ _⟩
  ·have h2:2<=ls.length:=oM;have e1:((ls.length:Int)==1)=false:=by simp;omega
   have hk1:=iy ls.length;have hk2:=iH ls.length h2;have hll:(ls.take (CH.half ls.length)).length=CH.half ls.length:=by simp;omega
   have hld:(ls.drop (CH.half ls.length)).length=ls.length - CH.half ls.length:=sM;have HSt:=Aa fun (W:ZB) (hb:Below w w W)=>((hv0.take (CH.half ls.length) oM).below hb nR).mono hb.size;have HSd:=Aa fun (W:ZB) (hb:Below w w W)=>((hv0.drop (CH.half ls.length) oM).below hb nR).mono hb.size;have HLt:=Aa fun l (h:l∈ls.take (CH.half ls.length))=>hl l (He h);have HLd:=Aa fun l (h:l∈ls.drop (CH.half ls.length))=>hl l (Jg h);have HH:=Aa (Pw ls.length w oM);have hbd:Below w w w.drew:=(Ac _ _).drew;by_cases hlt:i<CH.half ls.length;·have HF:=Aa (jR f ls i h2 hlt);generalize CH.half ls.length=k at *;generalize ls.take k=lt at *;generalize ls.drop k=ld at *;have hkc:¬ (cap=k):=oM;have z0:(0:Int)<=(k:Int):=oM;have z1:(k:Int)<=(cap:Int):=oM;have z2:(k:Int)<=(ls.length:Int):=oM;have z3:(ls.length:Int)<=(cap:Int):=oM;have RT:=Aa fun (W:ZB) (hb:Below w w W)=>Ua _ _ ld W (Ez _) (by rintro rfl;simp at hld;omega) (HSd.out W hb) oM HLd.out;have PT:=Aa (IH.out _ lt i _ oM oM oM (HSt.out _ hbd) oM HLt.out);have hrl:=eF ld;have hpl:=(lV f lt i).1;rw [HF.out,List.reverse_cons];clear IH HSt HSd HLt HLd HF hv0 hl hll hld;generalize CH.root ld=rd at *;generalize hpp:(eP f lt i).reverse=pp at *;exact FD17
   ·have HF:=Aa (jy f ls i h2 hlt);have hik:(i:Int) - (CH.half ls.length:Nat)=((i - CH.half ls.length:Nat):Int):=oM;have hwk:IntKind.i64.wrap ((i - CH.half ls.length:Nat):Int)=((i - CH.half ls.length:Nat):Int):=by rw [IntKind.wrap_i64];omega
    generalize CH.half ls.length=k at *;generalize ls.take k=lt at *;generalize ls.drop k=ld at *;have hkc:¬ (cap=k):=oM;have z0:(0:Int)<=(k:Int):=oM;have z1:(k:Int)<=(cap:Int):=oM;have z2:(k:Int)<=(ls.length:Int):=oM;have z3:(ls.length:Int)<=(cap:Int):=oM;have RT:=Aa fun (W:ZB) (hb:Below w w W)=>Ua _ _ lt W (Ez _) (by rintro rfl;simp at hll;omega) (HSt.out W hb) oM HLt.out;have PT:=Aa (IH.out _ ld (i - k) _ oM oM oM (HSd.out _ hbd) oM HLd.out);have hpl:=(lV f ld (i - k)).1;rw [HF.out,List.reverse_cons];clear IH HSt HSd HLt HLd HF hv0 hl hll hld;generalize CH.root lt=rd at *;generalize hpp:(eP f ld (i - k)).reverse=pp at *;exact FD17
theorem Cnw (v:ZC) (ls:List (List UInt8)) (i:Nat) (w:ZB) (hi:i<ls.length) (hv:Strs w w v ls) (hn:ls.length<=1000) (hl:∀ l∈ls,l.length<=1000000) : ZE prog 61 #[v,↑i] w fun e w'=>∃ u,e=.returned (.tuple #[u,.int .i64 0])/\Ax w w' u (CH.path ls i)/\Below w w w':=by
 have P:=Aa (Are ls.length v ls i w hn nR hi hv hn hl);have HF:Hid ((eP ls.length ls i).reverse=CH.path ls i):=Aa rfl;obtain⟨a,cap,rfl,_,_,_⟩:=hv;have d1:decide ((i:Int)<0)=false:=sM;have d2:decide (ls.length<=i)=false:=by simp;omega
 rw [HF.out] at P;clear HF hl;generalize CH.path ls i=pt at *;generalize ls.length=n at *;go_enter func61,ntmps61;go_wp2_with fail;refine P.out.mono ?_;rintro e w1 ⟨v1,rfl,hO1,hb1⟩;go_wp2;go_ret2;exact⟨_,rfl,hO1,hb1⟩
theorem Sz (v:ZC) (ls:List (List UInt8)) (w:ZB) (hv:Strs w w v ls) (hl:∀ l∈ls,ay l=true) : ZE prog 138 #[v] w (Ret w (.bool true)):=by
 obtain⟨a,cap,rfl,hlc,hcap,hne⟩:=hv;have HL:=Aa hl;clear hl;go_enter func138,ntmps138;go_wp2_with fail;go_loopw [3] (fun iv wr=>∃ k:Nat,k<=ls.length/\iv=↑k/\Below w w wr) (fun iv _=>ls.length - (ZG iv).toNat);case atStart=>exact⟨0,Bg _,rfl,Ac _ _⟩
 case round =>
  obtain⟨k,hk,rfl,hb⟩:=hrel;by_cases hlt:k<ls.length
  ·obtain⟨b,off,rfl,hbl,hcells⟩:=hne (by intro h;simp [h] at hlt);obtain⟨l,hl'⟩:∃ l,ls[k]?=some l:=⟨_,Ad hlt⟩
   have hcell:wr.cell? ⟨b,off+k,none⟩=some ↑l:=(hb.cell (p:=⟨b,off+k,none⟩) hbl).trans (hcells k l hl');have hd:=HL.out l (Aq hl');have D:=Mz l wr (by have:=Kn hd;omega);rw [hd] at D;replace D:=Aa D;clear hcells hl' hd;go_wp2_with fail;refine D.out.mono ?_;rintro e w1 ⟨rfl,hb1⟩;have hb2:=hb.trans (hb1.mono hb.size);go_wp2;go_roundw;case rel=>exact⟨k+1,oM,by go_num,hb2⟩
   case measure=>simp [ZG];omega
  ·exact FD123
def upR:Nat->Nat->List UInt8->List (List UInt8)->List UInt8
 |0,_,d,_=>d
 |h+1,i,d,p=>if i<2 ^ h then CH.node (upR h i d p.dropLast) (p.getLastD []) else CH.node (p.getLastD []) (upR h (i - 2 ^ h) d p.dropLast)
theorem Hlv (h:Nat):∀ (i:Nat) (d:List UInt8) (p:List (List UInt8)),d.length=16->(upR h i d p).length=16:=by
 cases h with
 |zero=>intro i d p hd;exact hd
 |succ h=>intro i d p hd;unfold upR;split <;> exact jA _ _
theorem Ask (h:Nat):∀ (i:Nat) (w:ZB),h<=8->i<2 ^ h->ZE prog 137 #[.int .i64 ((2 ^ h:Nat):Int),↑i] w fun e w'=>e=.returned ↑h/\w=w':=by
 induction h with
 |zero =>intro i w _ _;go_enter func137,ntmps137;exact FD40
 |succ h ih =>
  intro i w hh hi;have hp:=Dd h oM;have hp2:=Dd (h+1) hh;have hs:2 ^ (h+1)<=2*2 ^ h/\2*2 ^ h<=2 ^ (h+1):=by rw [Nat.pow_succ'];omega
  have HH:=Aa (Pw (2 ^ (h+1)) w oM);rw [mM] at HH;have e1:(((2 ^ (h+1):Nat):Int)==1)=false:=by simp;omega
  by_cases hlt:i<2 ^ h;·have IH:=Aa (ih i w oM hlt);clear ih;generalize 2 ^ (h+1)=n at *;generalize 2 ^ h=k at *;exact FD76
  ·have IH:=Aa (ih (i - 2 ^ h) w oM oM);clear ih;generalize 2 ^ (h+1)=n at *;generalize 2 ^ h=k at *;have e2:(n:Int) - (k:Int)=(k:Int):=oM;have e3:(i:Int) - (k:Int)=((i - k:Nat):Int):=oM;exact FD76
theorem L64 (h:Nat):∀ (f i:Nat) (leaf:List UInt8) (p:List (List UInt8)) (b:Bool),2 ^ h<=f->p.length=h->(∀ l∈p,l.length=16) -> upF leaf f (2 ^ h) i (p,b)=(upR h i (CH.dl [iT,leaf]) p,([],b)):=by
 induction h with
 |zero =>
  intro f i leaf p b hf hp _;obtain rfl:=Ce.1 hp;obtain⟨f,rfl⟩:∃ g,f=g+1:=⟨f - 1,oM⟩
  rfl
 |succ h ih =>
  intro f i leaf p b hf hp hl;have hpos:1<=2 ^ h:=Nat.one_le_two_pow;have hs:2 ^ (h+1)=2 ^ h+2 ^ h:=by rw [Iu];omega
  obtain⟨f,rfl⟩:∃ g,f=g+1:=⟨f - 1,oM⟩
  obtain⟨q,d,rfl⟩:∃ q d,p=q++[d]:=⟨p.dropLast,p.getLast (by rintro rfl;simp at hp),(List.dropLast_concat_getLast _).symm⟩
  have hd:=hl d sM;have hq:q.length=h:=by simpa using hp
  have hql:∀ l∈q,l.length=16:=fun l hm=>hl l (by simp [hm]);have e2:2 ^ (h+1) - 2 ^ h=2 ^ h:=oM;rw [upF,Ah oM,lI _ _ _ hd,mM,upR,List.dropLast_concat,e2];have eg:(q++[d]).getLastD []=d:=sM;rw [eg];dsimp only;rw [ih f i leaf q b oM hq hql,ih f (i - 2 ^ h) leaf q b oM hq hql];split <;> rfl
theorem I28 (h:Nat):∀ (v:ZC) (p:List (List UInt8)) (i:Nat) (d:List UInt8) (w:ZB),h<=8->i<2 ^ h->d.length=16->Strs w w v p->p.length=h->(∀ l∈p,l.length=16) -> ZE prog 139 #[.int .i64 ((2 ^ h:Nat):Int),↑i,↑d,v] w (Ret w (.string ⟨(upR h i d p).toArray⟩)):=by
 induction h with
 |zero =>intro v p i d w _ _ hd hv hp _;obtain⟨a,cap,rfl,_⟩:=hv;go_enter func139,ntmps139;exact FD34
 |succ h ih =>
  intro v p i d w hh hi hd hv hpl hl;have hp:=Dd h oM;have hp2:=Dd (h+1) hh;have hs:2 ^ (h+1)<=2*2 ^ h/\2*2 ^ h<=2 ^ (h+1):=by rw [Nat.pow_succ'];omega
  have HH:=Aa (Pw (2 ^ (h+1)) w oM);rw [mM] at HH;have e1:(((2 ^ (h+1):Nat):Int)==1)=false:=by simp;omega
  have hv0:=hv;obtain⟨a,cap,rfl,hlc,hcap,hne⟩:=hv;obtain⟨b,off,rfl,hb,hc⟩:=hne (by rintro rfl;simp at hpl);have hgl:p[h]?=some (p.getLastD []):=by rw [List.getLastD_eq_getLast?,List.getLast?_eq_getElem?,hpl];have:p[h]?=some p[h]:=Ad oM;simp [this]
  have hcell:=hc h _ hgl;have JK:=hl _ (Aq hgl);have hdl:p.take h=p.dropLast:=by rw [List.dropLast_eq_take,hpl];rfl
  have HS:=Aa (hv0.take h oM);rw [hdl] at HS;have hdm:∀ l∈p.dropLast,l.length=16:=fun l hm=>hl l ((List.dropLast_sublist p).subset hm);have hln:p.dropLast.length=h:=by simp;omega
  have hul:=Hlv h;unfold upR;clear hne hc hgl hdl;rw [hpl] at hlc hv0 ⊢;generalize p.getLastD []=la at *;generalize p.dropLast=q at *;by_cases hlt:i<2 ^ h;·have IH:=Aa (ih _ q i d w oM hlt hd HS.out hln hdm);have hu:=hul i d q hd;rw [Ar hlt];clear ih HS hv0;generalize 2 ^ (h+1)=n at *;generalize 2 ^ h=k at *;generalize upR h i d q=u at *;go_enter func139,ntmps139;go_wp2_with fail;refine HH.out.mono ?_;rintro e w' ⟨rfl,rfl⟩;go_wp2_with fail;refine IH.out.mono ?_;rintro e w1 ⟨rfl,hb1⟩;go_wp2_with fail;refine (Ty u la w1 oM oM).mono ?_;rintro e w2 ⟨rfl,hb2⟩;exact FD93
  ·have IH:=Aa (ih _ q (i - 2 ^ h) d w oM oM hd HS.out hln hdm);have hu:=hul (i - 2 ^ h) d q hd;rw [Ah hlt];clear ih HS hv0;generalize 2 ^ (h+1)=n at *;generalize 2 ^ h=k at *;generalize upR h (i - k) d q=u at *;have e2:(n:Int) - (k:Int)=(k:Int):=oM;have e3:(i:Int) - (k:Int)=((i - k:Nat):Int):=oM;go_enter func139,ntmps139;go_wp2_with fail;refine HH.out.mono ?_;rintro e w' ⟨rfl,rfl⟩;go_wp2_with fail;refine IH.out.mono ?_;rintro e w1 ⟨rfl,hb1⟩;go_wp2_with fail;refine (Ty la u w1 oM oM).mono ?_;rintro e w2 ⟨rfl,hb2⟩;exact FD93
theorem Yf (root leaf:List UInt8) (h i:Nat) (p:List (List UInt8)) (hp:p.length=h) (hl:∀ l∈p,ay l=true):dD root (2 ^ h) i leaf p=(upR h i (CH.dl [iT,leaf]) p==root):=by have h1:p.all ay=true:=Dk.2 hl;unfold dD;rw [L64 h _ i leaf p false nR hp (fun l hm=>Kn (hl l hm)),h1];simp
theorem Wq (root leaf:List UInt8) (h i:Nat) (v:ZC) (p:List (List UInt8)) (w:ZB) (hh:h<=8) (hi:i<2 ^ h) (hlf:leaf.length<=1000000) (hv:Strs w w v p) (hp:p.length=h) (hl:∀ l∈p,ay l=true) : ZE prog 78 #[↑root,.int .i64 ((2 ^ h:Nat):Int),↑i,↑leaf,v] w (Ret w (.bool (dD root (2 ^ h) i leaf p))):=by rw [Yf root leaf h i p hp hl];have hp2:=Dd h hh;have LN:=Aa (Ask h i w hh hi);have DG:=Aa (Sz v p w hv hl);have LF:=Aa fun (W:ZB)=>Ub leaf W hlf;have UP:=Aa fun (W:ZB) (hb:Below w w W)=>I28 h v p i (CH.dl [iT,leaf]) W hh hi (gY _) ((hv.below hb nR).mono hb.size) hp (fun l hm=>Kn (hl l hm));obtain⟨a,cap,rfl,hlc,_⟩:=hv;rw [hp] at *;have q1:decide ((1000000:Int)<((2 ^ h:Nat):Int))=false:=Ak oM;have q2:decide ((i:Int)<0)=false:=sM;have q3:decide (2 ^ h<=i)=false:=Ak oM;have q4:((h:Int) != (h:Int))=false:=sM;clear hl;generalize 2 ^ h=n at *;generalize upR h i (CH.dl [iT,leaf]) p=u at *;generalize CH.dl [iT,leaf]=d at *;have eb:((⟨u.toArray⟩:ByteArray)==⟨root.toArray⟩)=(u==root):=Cy _ _;go_enter func78,ntmps78;go_wp2_with fail;refine LN.out.mono ?_;rintro e w' ⟨rfl,rfl⟩;go_wp2_with fail;refine DG.out.mono ?_;rintro e w1 ⟨rfl,hb1⟩;go_wp2_with fail;refine (LF.out w1).mono ?_;rintro e w2 ⟨rfl,hb2⟩;have hB2:=hb1.trans (hb2.mono hb1.size);go_wp2_with fail;refine (UP.out w2 hB2).mono ?_;rintro e w3 ⟨rfl,hb3⟩;have hB3:=hB2.trans (hb3.mono hB2.size);go_wp2;go_ret;exact⟨rfl,hB3⟩
abbrev vJ (n:Nat):ZC:=.int .i64 (n:Int)
def qR (base:Nat) (w:ZB) (v:ZC) (l:List Nat):Prop:=w.ownsRow base 3 1 v l.length (l.map vJ)
theorem Uw {w w0:ZB} {ops:Array Oper} {rest:List Oper} {o:Oper} {a:Act} {Q:Exit->Act->ZB->Prop} (hgd:o.guard=none) (s x:Operand) (ho:o.op=.call { callee:=.builtin .append,args:=#[s,x],argTypes:=#[95,95] }) (base:Nat) (v:ZC) (l m:List Nat) (g:Nat) (hs:a.eval s=v) (hown:qR base w v l) (hx:a.eval x=.slice (some ⟨g,0,none⟩) m.length m.length) (hcell:w.heap[g]?=some (.cells (m.map vJ).toArray 3 (0,0))) (hb:Below base w0 w) (hbase:base<=w.heap.size) (hlen:l.length<=1000) (hm:m.length<=1000) (h:∀ v' w',qR base w' v' (l++m)->Below base w0 w'->base<=w'.heap.size->wpList prog ops Q rest (a.put o.dst v') w') : wpList prog ops Q (o::rest) a w:=by
 obtain⟨i,hi,hz0,hz1,hz2⟩:=I7 Ipc;refine wpList_append_own_at w hgd s x 95 ho base 3 i _ 1 8 underlying95 hi hz0 hz1 hz2 rfl dC v l.length _ hs hown ⟨g,0,none⟩ m.length m.length (m.map vJ) hx sM ?_ ?_ ?_ ?_ hbase ?_;·intro j u hj;rw [show (⟨g,0,none⟩:Addr).add j=⟨g,j,none⟩ from by cases j <;> simp [Addr.add],Ab hcell j];simpa using hj
 ·intro u hu;obtain⟨n,_,rfl⟩:=Ej.1 hu;rfl
 ·exact FD143
 ·omega
 ·intro v' w' h1 h2 _ _;refine h v' w' ?_ (hb.grown h2 hbase (fun j hj=>(Dj hown j hj).1)) (Af hbase h2.size);unfold qR;simpa using h1
theorem qR.at {base:Nat} {w:ZB} {v:ZC} {l:List Nat} (h:qR base w v l) (h0:l≠[]):∃ g cap,v=.slice (some ⟨g,0,none⟩) l.length cap/\(base<=g/\g<w.heap.size/\l.length<=cap)/\∀ k d,l[k]?=some d->w.cell? ⟨g,k,none⟩=some (vJ d):=by
 have h9:=h;obtain⟨hlen,⟨rfl,e⟩|⟨g,cap,cur,rfl,hb,hg,rest⟩⟩:=h;·exact absurd (Ce.1 e) h0
 ·refine⟨g,cap,rfl,⟨hb,(aZ hg),rest.1⟩,fun k d hk=>?_⟩;have hkl:k<l.length:=(lS hk)
  rw [Ig h9 k oM];simp [hk]
theorem Qo (m:List UInt8) (w:ZB) (hm:m.length<=140737488355328) : ZE prog 58 #[↑m] w fun e w'=>∃ v,e=.returned v/\qR w w' v (CH.digits m)/\Below w w w':=by
 have SM:=Aa (Sq m w hm);have HX:=Aa fun (k:Nat) (hk:k<16)=>(show ∃ c d,(CH.sum m)[k]?=some c/\CH.isHex c=true/\CH.hexVal c=d/\d<=15/\(iL m)[k]?=some d from by
  have hl:=dK m;have hs:=iY m;refine⟨_,_,Ad oM,?_,rfl,?_,?_⟩;·unfold ay at hs;rw [Aw] at hs;exact Dk.1 hs.2 _ (J4 _)
  ·exact qM m _ (Ej.2 ⟨_,J4 _,rfl⟩)
  ·unfold iL;rw [Fv,Ad oM];rfl)
 have hl:=dK m;have HD:=Aa (ji m);have h16:=Aa (dO m);have LK:=Aa fun k d (h:(iL m)[k]?=some d)=>pq m k d h;have LE:=Aa (pV m);have L0:CH.lack m 0=0:=rfl;generalize CH.sum m=S at *;generalize iL m=D at *;generalize CH.lack m=lk at *;go_enter func58,ntmps58;go_wp2_with fail;refine SM.out.mono ?_;rintro e w1 ⟨rfl,hb1⟩;clear SM;have hs1:=hb1.size;go_wp2_with fail;go_loopw [4,5,6] (fun ov rv iv wr=>∃ k r:Nat,k<=16/\iv=↑k/\rv=↑r/\r<=240/\Hid (r=lk k)/\qR w wr ov (D.take k)/\Below w w wr/\w.heap.size<=wr.heap.size) (fun _ _ iv _=>16 - (ZG iv).toNat);case atStart=>exact⟨0,0,oM,rfl,rfl,oM,Aa L0.symm,Jj _ _ _ _,hb1,hs1⟩
 case round =>
  obtain⟨k,r,hk,rfl,rfl,hr,hR,hO,hb,hs⟩:=hrel;by_cases hlt:k<16
  ·obtain⟨c,d,hc,hx,hv,hd,hD⟩:=HX.out k hlt;have hgk:=I6 S k oM c hc;have hr2:=Aa (LK.out k d hD);have hle:=LE.out (k+1);rw [hr2.out,<- hR.out] at hle;have hts:=Aa (aI D k d hD);have hol:(D.take k).length<=1000:=by rw [Dz];omega
   have DG:=Aa (T8 c wr);clear hc hD;go_wp2_with fail;refine DG.out.mono ?_;rintro e w2 ⟨hb2,z,rfl,_,hz⟩;have hz:=hz hx;rw [hv] at hz;subst hz;have hO2:qR w w2 _ (D.take k):=Ff hO hb2;have hO3:=H8 hO2 (.cells #[.int .i64 (d:Int)] 3);have hb3:=(hb.trans (hb2.mono hs)).alloc (Af hs hb2.size) (.cells #[.int .i64 (d:Int)] 3);have hs2:=Af hs hb2.size;have hg3:=Ap w2 (.cells #[.int .i64 (d:Int)] 3);generalize D.take k=pre at *;clear DG hb hb2 hO hO2 hx hgk hv;go_wp2_with (at_builtin;refine Uw rfl _ _ rfl w _ pre [d] w2.heap.size rfl hO3 rfl hg3 hb3 (by simp;omega) hol sM ?_)
   intro v4 w4 hO4 hb4 hs4;rw [<- hts.out] at hO4;clear hO3 hb3 hg3;go_wp2;go_roundw;case rel=>exact⟨k+1,r+15 - d,oM,by go_num,by go_num,oM,Aa (by have:=hR.out;have:=hr2.out;omega),hO4,hb4,hs4⟩
   case measure=>simp [ZG];omega
  ·obtain rfl:k=16:=oM;have e:D.take 16=D:=Cb (by have:=h16.out;omega);rw [e] at hO;have hO3:=H8 hO (.cells #[.int .i64 ((r / 16:Nat):Int),.int .i64 ((r % 16:Nat):Int)] 3);have hb3:=hb.alloc hs (.cells #[.int .i64 ((r / 16:Nat):Int),.int .i64 ((r % 16:Nat):Int)] 3);have hg3:=Ap wr (.cells #[.int .i64 ((r / 16:Nat):Int),.int .i64 ((r % 16:Nat):Int)] 3);have q1:Int.tdiv (r:Int) 16=((r / 16:Nat):Int):=by rw [Int.tdiv_eq_ediv_of_nonneg oM];omega
   have q2:Int.tmod (r:Int) 16=((r % 16:Nat):Int):=by rw [Int.tmod_eq_emod_of_nonneg oM];omega
   have JZ:=h16.out;have HF:Hid (D++[r / 16,r % 16]=CH.digits m):=Aa (by rw [HD.out,hR.out]);clear e HX LK LE hR hO hb HD;go_wp2_with (at_builtin;refine Uw rfl _ _ rfl w _ D [r / 16,r % 16] wr.heap.size rfl hO3 rfl hg3 hb3 (by simp;omega) oM sM ?_)
   intro v4 w4 hO4 hb4 hs4;rw [HF.out] at hO4;go_wp2;go_ret;exact⟨_,rfl,hO4,hb4⟩
theorem Tx (secret:List UInt8) (i k:Nat) (w:ZB) (hs:secret.length<=1000000) (hi:i<=1000000) (hk:k<=1000000) : ZE prog 60 #[↑secret,↑i,↑k] w (Ret w (.string ⟨(CH.start secret i k).toArray⟩)):=by have hl1:=Lib.itoa_length_le (i:Int) oM oM;have hl2:=Lib.itoa_length_le (k:Int) oM oM;go_enter func60,ntmps60;go_wp2_with fail;refine (C0 _ _ oM oM).mono ?_;rintro e w1 ⟨rfl,hb1⟩;go_wp2_with fail;refine (C0 _ _ oM oM).mono ?_;rintro e w2 ⟨rfl,hb2⟩;have hb2':=hb1.trans (hb2.mono hb1.size);go_wp2_with fail;refine (Po [secret,ZK i,ZK k] w2 sM sM (by intro l hl;simp at hl;rcases hl with rfl|rfl|rfl <;> omega)).mono ?_;rintro e w3 ⟨rfl,hb3⟩;go_wp2;go_ret;exact⟨rfl,hb2'.trans (hb3.mono hb2'.size)⟩
theorem Ng (n:Nat) (w:ZB) (hn:n<=8):ZE prog 57 #[↑n] w fun e w'=>e=.returned (.int .i64 ((2 ^ n:Nat):Int))/\w=w':=by
 go_enter func57,ntmps57;go_wp2;go_loopw [3,4] (fun xv iv wr=>∃ k x:Nat,k<=n/\iv=↑k/\xv=↑x/\x<=256/\Hid (x=2 ^ k)/\w=wr) (fun _ iv _=>n - (ZG iv).toNat);case atStart=>exact⟨0,1,oM,rfl,rfl,oM,Aa rfl,rfl⟩
 case round =>
  obtain⟨k,x,hk,rfl,rfl,hx,hX,rfl⟩:=hrel;by_cases hlt:k<n
  ·have h2:=Dd (k+1) oM;have h3:2*x=2 ^ (k+1):=by rw [hX.out,Nat.pow_succ']
   have h4:2*x<=256:=oM;replace h3:=Aa h3;clear h2;go_wp2;go_roundw;case rel=>exact⟨k+1,2*x,oM,by go_num,by go_num,h4,h3,by trivial⟩
   case measure=>simp [ZG];omega
  ·obtain rfl:k=n:=oM;go_wp2;go_ret;exact⟨Pu (by rw [hX.out]),rfl⟩
theorem Ast (secret:List UInt8) (i:Nat) (w:ZB) (hs:secret.length<=1000000) (hi:i<=1000000) : ZE prog 126 #[↑secret,↑i] w (Ret w (.string ⟨(gK secret i).toArray⟩)):=by
 go_enter func126,ntmps126;go_wp2_with fail;go_loopw [5,6] (fun ov kv wr=>∃ (k:Nat) (out:List (List UInt8)),k<=18/\kv=↑k/\Ax w wr ov out/\out.length<=18/\Hid (out=(List.range k).map fun j=>CH.chain 15 (CH.start secret i j))/\Below w w wr) (fun _ kv _=>18 - (ZG kv).toNat);case atStart=>exact⟨0,[],oM,rfl,Ax.nil _ _,sM,rfl,Ac _ _⟩
 case round =>
  obtain⟨k,out,hk,rfl,hO,hol,hH,hb⟩:=hrel;have hsz:=hb.size;by_cases hlt:k<18
  ·go_wp2_with fail;refine (Tx secret i k wr hs hi oM).mono ?_;rintro e w1 ⟨rfl,hb1⟩;go_wp2_with fail;refine (Ss (CH.start secret i k) 15 w1 dC (by rw [dZ];decide)).mono ?_;rintro e w2 ⟨rfl,hb2⟩;have hO2:=((hO.below hb1).below hb2).alloc (.cells #[.string ⟨(CH.chain 15 (CH.start secret i k)).toArray⟩] 9);have hs1:=hb1.size;have hs2:=hb2.size;have hb2':Below w w w2:=(hb.trans (hb1.mono hsz)).trans (hb2.mono oM);have HN:Hid (out++[CH.chain 15 (CH.start secret i k)]=(List.range (k+1)).map fun j=>CH.chain 15 (CH.start secret i j)):=by rw [List.range_succ,F8,<- hH.out];exact rfl
   have hln:(out++[CH.chain 15 (CH.start secret i k)]).length<=18:=by rw [HN.out];simp;omega
   clear hH hO hb hb1 hb2;generalize CH.chain 15 (CH.start secret i k)=c at *;go_wp2_with (at_builtin;refine Cs rfl _ _ rfl w _ out rfl hO2 w2 1 c rfl ?c1 ?c2 ?c3 ?_)
   case c1=>rw [Cj _ _ _ _ rfl];rfl
   case c2=>omega
   case c3=>simp;omega
   intro v' w3 hO3 hg3 _;exact FD63
  ·obtain rfl:k=18:=oM;have hin:∀ l∈out,l.length<=1000000:=fun l hl=>by rw [hH.out] at hl;obtain⟨j,_,rfl⟩:=Ej.1 hl;rw [lW _ _ (dZ _ _ _)];decide
   have hne:out≠[]:=by rw [hH.out];simp
   have LS:=Aa (T6 _ out wr hO.strs hne oM hin);have HF:Hid (CH.dl out=gK secret i):=Aa (by rw [hH.out];rfl);rw [HF.out] at LS;clear hin hne HF hH hO;go_wp2_with fail;refine LS.out.mono ?_;rintro e w1 ⟨rfl,hb1⟩;go_wp2;go_ret;exact⟨rfl,hb.trans (hb1.mono hsz)⟩
theorem Yu (secret:List UInt8) (h:Nat) (w:ZB) (hs:secret.length<=1000000) (hh:h<=8) : ZE prog 62 #[↑secret,↑h] w (Can w (CH.keys secret h)):=by
 have hn1:=Dd h hh;have PW:=Aa fun (W:ZB)=>Ng h W hh;have HK:Hid (CH.keys secret h=(List.range (2 ^ h)).map (gK secret)):=rfl;generalize 2 ^ h=n at *;go_enter func62,ntmps62;go_wp2_with fail;go_loopw [5,6] (fun ov kv wr=>∃ (k:Nat) (out:List (List UInt8)),k<=n/\kv=↑k/\Ax w wr ov out/\out.length<=256/\Hid (out=(List.range k).map (gK secret))/\Below w w wr) (fun _ kv _=>n - (ZG kv).toNat);case atStart=>exact⟨0,[],oM,rfl,Ax.nil _ _,sM,rfl,Ac _ _⟩
 case round =>
  obtain⟨k,out,hk,rfl,hO,hol,hH,hb⟩:=hrel;have hsz:=hb.size;go_wp2_with fail;refine (PW.out wr).mono ?_;rintro e w' ⟨rfl,rfl⟩;by_cases hlt:k<n
  ·go_wp2_with fail;refine (Ast secret k wr hs oM).mono ?_;rintro e w1 ⟨rfl,hb1⟩;have hO2:=(hO.below hb1).alloc (.cells #[.string ⟨(gK secret k).toArray⟩] 9);have hs1:=hb1.size;have hb2':Below w w w1:=hb.trans (hb1.mono hsz);have HN:Hid (out++[gK secret k]=(List.range (k+1)).map (gK secret)):=by rw [List.range_succ,F8,<- hH.out];exact rfl
   have hln:(out++[gK secret k]).length<=256:=by rw [HN.out];simp;omega
   clear hH hO hb hb1;generalize gK secret k=c at *;go_wp2_with (at_builtin;refine Cs rfl _ _ rfl w _ out rfl hO2 w1 1 c rfl ?c1 ?c2 ?c3 ?_)
   case c1=>rw [Cj _ _ _ _ rfl];rfl
   case c2=>omega
   case c3=>simp;omega
   intro v' w3 hO3 hg3 _;exact FD63
  ·obtain rfl:k=n:=oM;go_wp2;go_ret;exact⟨_,rfl,by rw [HK.out,<- hH.out];exact hO,hb⟩
end
end Go.Proofs.YtdgmgjeoikcgbaaGreatDoor
