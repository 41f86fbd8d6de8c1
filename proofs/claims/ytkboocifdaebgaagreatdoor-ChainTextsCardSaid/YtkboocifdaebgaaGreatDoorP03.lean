/- ChainTexts, part 4 of 31. -/
import Derived.Test.YtkboocifdaebgaaGreatDoorP02
import Derived.RangeFuncRecord
set_option linter.all false
set_option maxHeartbeats 40000000
set_option maxRecDepth 100000
open Go renaming undef -> ZA, World -> ZB, Value -> ZC, Calls -> ZE, TypeId -> ZJ
open Go.RowKit renaming intOf -> ZG
open Decidable renaming decide -> ZH
namespace Go.Proofs.Y
section
open Go.Lib Go.Proofs.Tryz Go.RowKit Go.Shelf Go.Sort CH
variable {P:Program} {w:ZB}
set_option maxRecDepth 1000000 in
theorem Api (r:Int) (w:ZB) (h0:128<=r) (h1:r<=1114111) : ZE prog 289 #[.string ⟨#[34,10]⟩,.int .i32 r] w (Ret w (.int .i64 (-1))):=by
 by_cases he:r=65533
 ·subst he;go_in;go_wp2_with fail;go_loopg [5,6] 2 (fun g _ _ wx=>∃ i:Nat,i+g=2/\wx=w.iter ⟨#[34,10]⟩ i);case atStart=>exact⟨0,rfl,rfl⟩
  case round =>
   obtain⟨i,hig,rfl⟩:=hrel;rcases gk with _|_|_|g;·obtain rfl:i=2:=oM;have hnx:=fun ty=>run_next_end (P:=prog) w ⟨#[34,10]⟩ 2 ty dC;go_wp2;go_ret;exact⟨rfl,(Ac _ _).alloc nR _⟩
   ·obtain rfl:i=1:=oM;have hnx:=fun ty=>run_next_ascii (P:=prog) w ⟨#[34,10]⟩ 1 ty dC dC;go_wp2;go_roundg 0;case measure=>omega
    case rel=>exact⟨2,oM,rfl⟩
   ·obtain rfl:i=0:=oM;have hnx:=fun ty=>run_next_ascii (P:=prog) w ⟨#[34,10]⟩ 0 ty dC dC;go_wp2;go_roundg 1;case measure=>omega
    case rel=>exact⟨1,oM,rfl⟩
   ·omega
 ·have V:=Tryz.utf8_ValidRune r w;obtain⟨v,hv⟩:=naa (Lib.validRune r);rw [hv] at V;have hb1:(r==65533)=false:=by simpa using he
  have hb2:=naj (r<128);cases v with
  |false =>clear hv;go_in;go_wp2_with fail;refine CmZ V fun w' hw=>?_;rw [hw];clear V hw;go_wp2;go_ret;exact⟨rfl,Ac _ _⟩
  |true =>
   clear hv;go_in;go_wp2_with fail;refine CmZ V fun w' hw=>?_;rw [hw];clear V hw;by_cases hlt:r<2048
   ·have hen:Utf8.encode r=⟨#[UInt8.ofNat (192+r.toNat / 64),UInt8.ofNat (128+r.toNat % 64)]⟩:=by
     have hval:Utf8.valid r=true:=by simp [Utf8.valid];omega
     unfold Utf8.encode;simp only [hval,Qy];rw [Ai oM,Ah oM]
    generalize UInt8.ofNat (192+r.toNat / 64)=b1 at hen;obtain⟨b2,hb2'⟩:=naa (UInt8.ofNat (128+r.toNat % 64));have hb3:128<=b2.toNat:=by rw [<- hb2'];simp [UInt8.toNat_ofNat'];omega
    rw [hb2'] at hen;clear hb2';have hne:((10:Int) != (b2.toNat:Int))=true:=naf;go_wp2_with fail;go_step3;go_wp2_with fail;go_loopg [9] 0 (fun g v wx=>wx=w/\v=.int .i64 1);case atStart=>exact⟨rfl,rfl⟩
    case round =>
     obtain⟨rfl,rfl⟩:=hrel;go_wp2_with fail;go_step3;go_wp2_with fail;have hx1:∀ h,(⟨#[34,10]⟩:ByteArray)[1]'h=10:=fun _=>rfl;have hx2:∀ h,(⟨#[b1,b2]⟩:ByteArray)[1]'h=b2:=fun _=>rfl;refine Bh kR kR ?_;repeat (quiet_step (fail))
     refine D8 ?_;intro wq hbq;replace hbq:=Ay hbq;go_wp2_with fail;have hw2:IntKind.i64.wrap 2=2:=dC;have JV:=hbq;clear hbq;generalize wq=wq1 at *;have IB:∀ (W:ZB),ZE prog 151 #[.string ⟨#[]⟩,.int .u8 (b2.toNat:Int)] W (fun e w'=>e=.returned (.int .i64 (-1))/\Below W W w'):=fun W=>(Tryz.strings_IndexByte ⟨#[]⟩ (b2.toNat:Int) W).mono fun e w' ⟨h1,h2⟩=>⟨h1,h2 ▸ Ac _ _⟩
     refine Bh kR kR ?_;repeat (quiet_step (exact Dp (IB _)))
     refine D8 ?_;intro wq hbq;replace hbq:=Ay hbq;go_wp2_with fail;rw [Exit.noGoto_ret];go_wp2_with fail;rw [Exit.noGoto_ret];go_ret;exact⟨rfl,JV.trans (hbq.mono JV.size)⟩
   ·obtain⟨E,hE⟩:=naa (Utf8.encode r);have hE3:3<=E.size/\E.size<=4:=by
     rw [<- hE];unfold Utf8.encode;cases hv:Utf8.valid r;·exact (dC:3<=(Utf8.encode (-1)).size/\(Utf8.encode (-1)).size<=4)
     ·simp only [Qy];rw [Ai oM,Ai oM];split;·exact⟨Au 3,show 3<=4 by omega⟩
      ·exact⟨show 3<=4 by omega,Au 4⟩
    have hE':=Aa hE;go_wp2_with fail;go_step3;go_wp2_with fail;go_loopg [9] 0 (fun g v wx=>wx=w/\v=.int .i64 ((E.size:Int) - 1));case atStart=>exact⟨rfl,rfl⟩
    case round =>obtain⟨rfl,rfl⟩:=hrel;go_wp2_with fail;rw [Exit.noGoto_ret];go_ret;exact⟨rfl,Ac _ _⟩
theorem I42 (s:ByteArray) (k:Nat) (h:k<s.size):s.get! k=s[k]'h:=by simp [ByteArray.get!,getElem!_pos,h];rfl
theorem Hb5 (s:ByteArray) (i:Nat) (h:i<s.size) (h128:128<=(s[i]'h).toNat) : 128<=(Utf8.decode s i).1/\(Utf8.decode s i).1<=1114111/\1<=(Utf8.decode s i).2/\i+(Utf8.decode s i).2<=s.size/\∀ j,i<=j->j<i+(Utf8.decode s i).2->128<=(s.get! j).toNat:=by
 have g0:128<=(s.get! i).toNat:=by rw [I42 s i h];exact h128
 have one:∀ (r:Nat),128<=r->r<=1114111->128<=(r,1).1/\(r,1).1<=1114111/\1<=(r,1).2/\i+(r,1).2<=s.size/\∀ j,i<=j->j<i+(r,1).2->128<=(s.get! j).toNat:=fun r h1 h2 =>⟨h1,h2,Au _,h,fun j hj1 hj2=>by have e:j=i:=(by dsimp only at hj2;omega);subst e;exact g0⟩
 have b0:=(s.get! i).toNat_lt;unfold Utf8.decode;simp only [Hu,Utf8.runeError];rw [Ai oM];split
 ·rename_i hc;simp only [Aq,Bj,Eh] at hc;obtain⟨hb,hl1,hc1⟩:=hc;split
  ·refine⟨oM,oM,oM,oM,fun j hj1 hj2=>?_⟩;rcases (oM:j=i\/j=i+1) with rfl|rfl;·exact g0
   ·omega
  ·exact one _ dC dC
 ·split
  ·rename_i hc;simp only [Aq,Bj,Eh] at hc;obtain⟨⟨hb,hl1,hc1⟩,hl2,hc2⟩:=hc;split
   ·refine⟨by simp_all;omega,oM,oM,oM,fun j hj1 hj2=>?_⟩;rcases (oM:j=i\/j=i+1\/j=i+2) with rfl|rfl|rfl;·exact g0
    ·omega
    ·omega
   ·exact one _ dC dC
  ·split
   ·rename_i hc;simp only [Aq,Bj,Eh] at hc;obtain⟨⟨⟨hb,hl1,hc1⟩,hl2,hc2⟩,hl3,hc3⟩:=hc;split
    ·rename_i hv;simp only [Aq,Bj,Utf8.valid,Ej] at hv;refine⟨oM,oM,oM,oM,fun j hj1 hj2=>?_⟩;rcases (oM:j=i\/j=i+1\/j=i+2\/j=i+3) with rfl|rfl|rfl|rfl;·exact g0
     ·omega
     ·omega
     ·omega
    ·exact one _ dC dC
   ·exact one _ dC dC
theorem run_next_at {B:Nat} {s:ByteArray} {pos:Nat} (hB:w.heap[B]?=some (.stringIter s pos)) (ty:ZJ) (h:pos<s.size) : (Instr.next (.pointer (some ⟨B,0,none⟩)) true ty).run P w = .ok (.tuple #[.bool true,↑pos,.int .i32 (Utf8.decode s pos).1]) (w.putObj B (.stringIter s (pos+(Utf8.decode s pos).2))):=by simp [Instr.next,getObj,setObj,Sem.run,hB,Result.andThen,h,goInt,World.putObj]
theorem Yj {B:Nat} {s:ByteArray} {pos:Nat} (hB:w.heap[B]?=some (.stringIter s pos)) (ty:ZJ) (h:¬ pos<s.size) : (Instr.next (.pointer (some ⟨B,0,none⟩)) true ty).run P w=.ok (.tuple #[.bool false]) w:=by simp [Instr.next,getObj,Sem.run,hB,h]
theorem Bug {w1:ZB} {B r:Nat} (h:Below B w w1) (hr:B<=r) (o:Obj):Below B w (w1.putObj r o) := ⟨h.os,h.tape,h.output,by simp [World.putObj];exact h.size,fun k hk=>by rw [World.putObj_heap_other oM];exact h.block k hk⟩
def Pr9 (s:ByteArray) (w:ZB) (g:Nat) (wx:ZB):Prop := ∃ i:Nat,s.size<=i+g/\i<=s.size/\Below w w wx/\wx.heap[w.heap.size]?=some (.stringIter s i)/\Lib.NoAny s.data.toList [34,10] i
set_option maxRecDepth 1000000 in
theorem Apr (s:ByteArray) (w:ZB) (h8:s.size<=8) : ZE prog 248 #[.string s,.string ⟨#[34,10]⟩] w (Ret w (.int .i64 (Lib.indexAny s.data.toList [34,10]))):=by
 have h8z:ZH ((8:Int)<(s.size:Int))=false:=Cj oM;have SA:=fun (n:Int) (W:ZB)=>Any.strings_shouldUseASCIISet (P:=prog) (ρ:=Tryz.lays153_ren) { lays153 with } n W;have HI:=fun (r:Int) (W:ZB)=>Api r W;have HI:=Aa HI;have HA:=Aa fun (r:Int) (W:ZB)=>Tryz.strings_IndexRune_ascii ⟨#[34,10]⟩ r W;have SA:=Aa SA;obtain⟨R,hR⟩:=nac (Lib.indexAny s.data.toList [34,10]);rw [hR.out];go_in;go_wp2_with fail;refine CmZ (SA.out _ _) fun w' hw=>?_;rw [hw,h8z];clear hw SA;go_wp2_with fail;go_loopg [9,10] s.size (fun g _ _ wx=>Pr9 s w g wx);case atStart=>exact⟨0,oM,oM,(Ac _ _).alloc nR _,World.iter_heap w s 0,Lib.NoAny.zero _ _⟩
 case round =>
  obtain⟨i,hig,hile,hb,hit,hno⟩:=hrel;have HN:=Aa hno;have Hit:=Aa hit;have hsz:w.heap.size<wr.heap.size:=(aZ hit)
  clear hno;by_cases hi:i<s.size
  ·cases gk with
   |zero=>omega
   |succ g =>
    have hnx:=fun ty=>run_next_at (P:=prog) hit ty hi;have hbp:=fun o=>Bug hb (Au w) o;have hip:=fun o=>World.putObj_heap_same (w:=wr) (o:=o) hsz;obtain⟨x,hx⟩:=naa (s[i]'hi:UInt8);have Hx:Hid (s.data.toList[i]?=some x):=Aa (by rw [<- hx];exact Lib.data_getElem? s i hi);by_cases hx1:x.toNat<128
    ·have hd:=decode_ascii s i hi (by rw [hx];exact hx1);rw [hd,hx] at hnx;dsimp only at hnx;have hcon:=Lib.contains_iff_indexByte [34,10] x;have hback:((x.toNat:Int)).toNat.toUInt8=x:=sM;clear hit hd hx;cases hin:List.contains [34,10] x with
     |false =>
      rw [hin] at hcon;have hlt:ZH ((0:Int)<=Lib.indexByte [34,10] x)=false:=hcon.symm;clear hcon;go_wp2_with fail;refine CmZ (HA.out _ _ oM oM) fun w' hw=>?_;rw [hw,hback];clear hw;go_wp2;go_roundg g;case measure=>omega
      case rel=>exact⟨i+1,oM,oM,hbp _,hip _,HN.out.succ Hx.out hin⟩
     |true =>rw [hin] at hcon;have hlt:ZH ((0:Int)<=Lib.indexByte [34,10] x)=true:=hcon.symm;clear hcon;go_wp2_with fail;refine CmZ (HA.out _ _ oM oM) fun w' hw=>?_;rw [hw,hback];clear hw;go_wp2;go_ret;exact⟨Yw (by rw [<- hR.out,Lib.indexAny_hit HN.out Hx.out hin]),hbp _⟩
    ·have hd:=Hb5 s i hi (by rw [hx];omega);obtain⟨d1,hd1⟩:=naa ((Utf8.decode s i).1);obtain⟨d2,hd2⟩:=naa ((Utf8.decode s i).2);rw [hd1,hd2] at hnx;rw [hd1,hd2] at hd;obtain⟨e1,e2,e3,e4,e5⟩:=hd;have HN2:Hid (Lib.NoAny s.data.toList [34,10] (i+d2)):=Aa fun j b hj hb'=>by
      by_cases hji:j<i;·exact HN.out j b hji hb'
      ·have h1:=e5 j oM hj;have h2:j<s.size:=oM;rw [I42 s j h2] at h1;rw [Lib.data_getElem? s j h2] at hb';cases hb';generalize s[j]=c at h1;simp only [Pm,Az,Bo,Ey,Dw];rintro (rfl|rfl) <;> exact absurd h1 dC
     clear hit hx hd1 hd2 e5 Hx;go_wp2_with fail;refine CmZ (HI.out _ _ oM oM) fun w1 hb1=>?_;have hB2:Below w w w1:=(hbp _).trans (hb1.mono (hbp _).size);have hI2:=(hb1.block w (by simp [World.putObj];exact hsz)).trans (hip _);clear hnx hbp hip;go_wp2;go_roundg g;case measure=>omega
     case rel=>exact⟨i+d2,oM,oM,hB2,hI2,HN2.out⟩
  ·obtain rfl:i=s.size:=oM;have hnx:=fun ty=>Yj (P:=prog) hit ty hi;clear hit;go_wp2;go_ret;exact⟨Yw (by rw [<- hR.out,Lib.indexAny_none (by rw [<- Lib.size_eq];exact HN.out)]),hb⟩
theorem Eto (s:Q00) (w:ZB) (hs:s.length<=1000000) : ZE prog 248 #[↑s,.string ⟨#[34,10]⟩] w (Ret w (.int .i64 (Lib.indexAny s [34,10]))):=by
 have hz:(⟨s.toArray⟩:ByteArray).size=s.length:=by simp [ByteArray.size]
 by_cases h8:s.length<=8;·have:=Apr ⟨s.toArray⟩ w oM;exact FD86
 ·have:=Tryz.strings_IndexAny_long (fun w=>by kernel_rfl) ⟨s.toArray⟩ ⟨#[34,10]⟩ w dC oM oM dC (fun j b hj=>by
   rcases j with _|_|j;·cases hj;decide
   ·cases hj;decide
   ·simp at hj)
  refine this.mono fun e w' ⟨h1,h2⟩=>⟨by simpa using h1,?_⟩
  rw [h2];exact ((Ac _ _).alloc nR _).alloc sM _
def mG (t:Q03):ZC:=.agg #[↑t.kind,↑t.pos,↑t.n,↑t.text]
def xk:Except Nat (Q03 × Nat)->ZC
 |.error e=>.tuple #[.agg #[.int .i64 0,.int .i64 0,.int .i64 0,.string ⟨#[]⟩],.int .i64 0,↑e]
 |.ok (t,j)=>.tuple #[mG t,↑j,.int .i64 0]
theorem G2a:∀ l:Q00,Lib.indexAny l [34,10]=match l.findIdx? (fun c=>c==34||c==10) with|none=>-1|some n=>(n:Int):=by
 intro l;induction l with
 |nil=>rfl
 |cons b l ih =>
  rw [Lib.indexAny,List.findIdx?_cons,ih];have e:[34,10].contains b=(b==34||b==10):=by rw [Fv];simp
  rw [e];by_cases h:(b==34||b==10)=true;·simp [h]
  ·cases hf:l.findIdx? (fun c=>c==34||c==10) with
   |none=>simp [h]
   |some n =>have:¬ ((n:Int) = -1):=oM;simp [h,this]
theorem I24:∀ (l:Q00) (acc:Nat),(∀ c∈l,CH.cls c=4)->Lib.decFrom acc l=some (l.foldl (fun n c=>n*10+(c.toNat - 48)) acc):=by
 intro l;induction l with
 |nil=>intro acc _;rfl
 |cons c l ih =>intro acc h;have hc:=oO c (h c sM);rw [Lib.decFrom,Lib.digitVal,Ah hc];exact ih _ fun x hx=>h x (by simp [hx])
theorem Hdx (l:Q00) (h:∀ c∈l,CH.cls c=4) (hne:l≠[]):Lib.atoi l=some (CH.dec l:Int):=by
 cases l with
 |nil=>exact absurd rfl hne
 |cons b r =>
  have hb:=oO b (h b sM);have h1:(b==45)=false:=by rw [CH.beq_toNat];simp;omega
  have h2:(b==43)=false:=by rw [CH.beq_toNat];simp;omega
  rw [Lib.atoi,h1,h2];show (Lib.decNat (b::r)).map _=_;unfold Lib.decNat;rw [I24 _ 0 h];rfl
theorem Rp {fn:Func} {p u v:Tmp} {ty:ZJ} (h:fn.results=#[.cell p ty,.tmp u,.tmp v]) (tmps:Array ZC) (w:ZB) (a:Addr) (x:ZC) (hp:tmps.getD p ZA=.pointer (some a)) (hl:(loadVar ty a).run P w=.ok x w):(results fn tmps).run P w=.ok (.tuple #[x,tmps.getD u ZA,tmps.getD v ZA]) w:=by
 simp only [results,h];have hp':tmps[p]?.getD ZA=.pointer (some a):=by simpa using hp
 simp [asAddr];rw [hp'];simp [Result.andThen,hl]
theorem Pe {g:Nat} (h:w.heap[g]?=some (.cells #[.int .i64 0,.int .i64 0,.int .i64 0,.string ⟨#[]⟩] 190 (0,0))) : w.there g 0 4/\w.cell? ⟨g,0,none⟩=some (.int .i64 0)/\w.cell? ⟨g,1,none⟩=some (.int .i64 0)/\w.cell? ⟨g,2,none⟩=some (.int .i64 0)/\w.cell? ⟨g,3,none⟩=some (.string ⟨#[]⟩) /\ w.frozen? ⟨g,0,none⟩=false/\w.frozen? ⟨g,1,none⟩=false/\w.frozen? ⟨g,2,none⟩=false/\w.frozen? ⟨g,3,none⟩=false:=by
 refine⟨fun j hj=>?_,Ab h 0,Ab h 1,Ab h 2,Ab h 3,Ao h 0,Ao h 1,Ao h 2,Ao h 3⟩;rw [Ba,Ab h j,Ao h j];rcases j with _|_|_|_|j;·simp
 ·simp
 ·simp
 ·simp
 ·omega
theorem Ety (s:Q00) (k:Nat):Lib.hasPrefix (s.drop k) [61]=ZH (s[k]?=some 61):=by
 unfold Lib.hasPrefix;by_cases hk:k<s.length
 ·rw [Ei hk,Ae hk];by_cases h:s[k]=61;·rw [h];simp
  ·simp [List.isPrefixOf,h];exact fun e=>h e.symm
 ·rw [Jq oM,Gw oM];simp
theorem Otb:(prog.info? 190).map (·.size)=some 4:=kR
theorem Gk {r:ZC} {w1:ZB} {b:Nat} {cells:List ZC} {tmps:Array ZC} (hlen:cells.length=4) (hth:w1.there b 0 4) (hp:tmps.getD 4 ZA=.pointer (some ⟨b,0,none⟩)) (hb:Below w w w1) (hbw:w.heap.size<=b) (hv:Hid (.tuple #[.agg cells.toArray,tmps.getD 5 ZA,tmps.getD 6 ZA]=r)) : bodyPost prog Tryz.f189 (Ret w r) .ret { tmps:=tmps,defers:=[] } (w1.setCells b 0 cells):=by refine Ar (Rp (p:=4) (u:=5) (v:=6) (ty:=190) rfl _ _ ⟨b,0,none⟩ _ hp (Fq _ b 0 190 cells _ (Ef w1 _ 0 _ (by rw [hlen];exact hth)) underlying190 rfl (by rw [hlen];exact Otb))) rfl ?_;exact⟨congrArg Ending.returned hv.out,Ms hbw _ _ _ hb⟩
theorem Ggv (b i:Nat) (s:Q00) (w:ZB) (hs:s.length<=1000000) (hi:i<s.length) (hS:Scan b s w) : ZE prog 189 #[.pointer (some ⟨b,0,none⟩),↑i] w (Ret w (xk (CH.next s i))):=by
 obtain⟨r,hr⟩:=nac (xk (CH.next s i));rw [hr.out];have hBa:∀ o,Below w w (w.alloc o):=fun o=>(Ac _ w).alloc nR _;have A:=Aa fun o=>Fig b i s (w.alloc o) hs oM (hS.below (hBa o));go_in;go_wp2_with fail;refine CmZ (A.out _) fun w1 hb1=>?_;clear A;have hblk:=hb1.block w sM;rw [Ag] at hblk;have hb:Below w w w1:=(hBa _).trans (hb1.mono sM);clear hb1 hBa;have hS1:=hS.below hb;have ht:=hS1.text;have hblt:=hS1.lt;have hbz:w.heap.size<w1.heap.size:=(aZ hblk)
 have keep:∀ w2,Below w1 w1 w2->w2.heap[w.heap.size]?=some (.cells #[.int .i64 0,.int .i64 0,.int .i64 0,.string ⟨#[]⟩] 190 (0,0)):=fun w2 h2=>(h2.block _ hbz).trans hblk;obtain⟨c,hc⟩:=nac (bQ s i);rw [hc.out];have hBa:∀ o,Below w1 w1 (w1.alloc o):=fun o=>(Ac _ w1).alloc nR _;by_cases c3:c=3
 ·subst c3;have A:=Aa fun t=>P8 b i w1 3 s [3,4,5] (w1.alloc (.cells #[.int .i64 3,.int .i64 4,.int .i64 5] t)) hs oM dC (hS1.below (hBa _)) (Tl w1 [3,4,5] t);have g1:=iE s [3,4,5] i;have g2:=jK s [3,4,5] i oM;have hn:CH.next s i=if bK s [3,4,5] i - i > 24 then .error 2 else .ok (⟨1,i,0,(s.drop i).take (bK s [3,4,5] i - i)⟩,bK s [3,4,5] i):=by unfold CH.next;rw [if_pos hc.out]
  have Hn:=Aa hn;clear hn hS hS1;generalize bK s [3,4,5] i=q at *;go_wp2_with fail;refine CmZ (A.out _) fun w2 hb2=>?_;clear A;have hb2':Below w1 w1 w2:=(hBa _).trans (hb2.mono sM);clear hb2 hBa;have hbb:=hb.trans (hb2'.mono hb.size);obtain⟨hth,k0,k1,k2,k3,f0,f1,f2,f3⟩:=Pe (keep w2 hb2');have ht2:w2.cell? ⟨b,0,none⟩=some ↑s:=(hb2'.cell (p:=⟨b,0,none⟩) hblt).trans ht;clear keep;by_cases h24:q - i > 24;·have d:=nai ((24:Int)<(q:Int) - (i:Int));have hn:=Hn.out;rw [Ah h24] at hn;clear Hn;have Hn:=Aa hn;clear hn;exact FD14
  ·have d:=naj ((24:Int)<(q:Int) - (i:Int));have hn:=Hn.out;rw [Ai h24] at hn;clear Hn;have Hn:=Aa hn;clear hn;go_wp2;refine Gk (r:=r) (cells:=[.int .i64 1,↑i,.int .i64 0,.string ((ByteArray.mk s.toArray).extract i q)]) ?_ hth ?_ hbb nR (Aa ?_) <;> try rfl
   rw [<- hr.out,Hn.out];simp only [Fu];rfl
 by_cases c4:c=4
 ·subst c4;have A:=Aa fun t=>P8 b i w1 1 s [4] (w1.alloc (.cells #[.int .i64 4] t)) hs oM dC (hS1.below (hBa _)) (Tl w1 [4] t);have g1:=iE s [4] i;have g2:=jK s [4] i oM;have hmem:=Aa (uy s [4] i);have g3:i<bK s [4] i:=by rw [nI s _ i hi (by rw [hc.out];rfl)];exact iE _ _ _
  have hn:CH.next s i=if bK s [4] i - i > 13\/bQ s (bK s [4] i)=3\/bQ s (bK s [4] i)=5 then .error 4
    else .ok (⟨2,i,CH.dec ((s.drop i).take (bK s [4] i - i)),(s.drop i).take (bK s [4] i - i)⟩,bK s [4] i):=by
   unfold CH.next;rw [if_neg (by rw [hc.out];decide),if_pos hc.out]
  have Hn:=Aa hn;clear hn;generalize bK s [4] i=q at *;go_wp2_with fail;refine CmZ (A.out _) fun w2 hb2=>?_;clear A;have hb2':Below w1 w1 w2:=(hBa _).trans (hb2.mono sM);clear hb2 hBa;have hS2:=hS1.below hb2';clear hS hS1;have A:=Aa (Fig b q s w2 hs oM hS2);go_wp2_with fail;refine CmZ A.out fun w3 hb3=>?_;clear A;have fK:Below w1 w1 w3:=hb2'.trans (hb3.mono hb2'.size);have ht3:=(hS2.below hb3).text;clear hb3 hb2' hS2;have hbb:=hb.trans (fK.mono hb.size);obtain⟨hth,k0,k1,k2,k3,f0,f1,f2,f3⟩:=Pe (keep w3 fK);obtain⟨x,hx⟩:=naa (bQ s q);rw [hx] at Hn ⊢;by_cases h13:q - i > 13;·have d:=nai ((13:Int)<(q:Int) - (i:Int));rw [Ah (.inl h13)] at Hn;clear keep hx hmem;exact FD14
  have d:=naj ((13:Int)<(q:Int) - (i:Int));by_cases hx3:x=3;·have d3:=nak x 3;rw [Ah (.inr (.inl hx3))] at Hn;clear keep hx hmem;exact FD14
  have d3:=nal x 3;by_cases hx5:x=5;·have d5:=nak x 5;rw [Ah (.inr (.inr hx5))] at Hn;clear keep hx hmem;exact FD14
  have d5:=nal x 5;rw [Ai oM] at Hn;have hll:((s.drop i).take (q - i)).length=q - i:=by rw [C9,Cc];omega
  have hne:(s.drop i).take (q - i)≠[]:=fun e=>by rw [e] at hll;simp at hll;omega
  have hdg:=Hdx _ (fun c hc'=>by have:=hmem.out c hc';simpa using this) hne;have AT:=Aa (Tryz.strconv_Atoi ⟨((s.drop i).take (q - i)).toArray⟩ (CH.dec ((s.drop i).take (q - i))) (by show ((s.drop i).take (q - i)).toArray.size<=18;simp only [Gu,hll];omega) hdg w3);generalize hdd:CH.dec ((s.drop i).take (q - i))=dd at *;clear hmem hx hll hne hdg;go_wp2_with fail;simp only [Fu];refine AT.out.mono ?_;rintro e w4 ⟨rfl,t4,hw4⟩;clear AT;have hb4:Below w3 w3 w4:=by rw [hw4];exact Lib.bytesWorld_below _ _ _
  clear hw4;have AP:Below w1 w1 w4:=fK.trans (hb4.mono fK.size);have ht4:w4.cell? ⟨b,0,none⟩=some ↑s:=(hb4.cell (p:=⟨b,0,none⟩) (Af hblt fK.size)).trans ht3;have QJ:=hb.trans (AP.mono hb.size);clear hth k0 k1 k2 k3 f0 f1 f2 f3 hbb fK hb4 ht3;obtain⟨hth,k0,k1,k2,k3,f0,f1,f2,f3⟩:=Pe (keep w4 AP);clear keep;go_wp2;refine Gk (r:=r) (cells:=[.int .i64 2,↑i,↑dd,.string ((ByteArray.mk s.toArray).extract i q)]) ?_ hth ?_ QJ nR (Aa ?_) <;> try rfl
  rw [<- hr.out,Hn.out];simp only [Fu];rfl
 by_cases c6:c=6
 ·subst c6;have hn:CH.next s i=match (s.drop (i+1)).findIdx? (fun c=>c==34||c==10) with
    |none=>.error 6
    |some n=>if (s.drop (i+1))[n]?=some 10 then .error 6 else if n > 400 then .error 2 else .ok (⟨3,i,0,(s.drop (i+1)).take n⟩,i+n+2):=by
   unfold CH.next;rw [if_neg (by rw [hc.out];decide),if_neg (by rw [hc.out];decide),if_pos hc.out]
   rfl
  have hrl:(s.drop (i+1)).length=s.length - (i+1):=Cc;have IA:=Aa (Eto (s.drop (i+1)) w1 oM);rw [G2a] at IA;clear hS hS1 hBa;go_wp2_with fail;simp only [Ex];refine CmZ IA.out fun w2 hb2=>?_;clear IA;have hbb:=hb.trans (hb2.mono hb.size);obtain⟨hth,k0,k1,k2,k3,f0,f1,f2,f3⟩:=Pe (keep w2 hb2);clear keep;cases hf:(s.drop (i+1)).findIdx? (fun c=>c==34||c==10) with
  |none =>rw [hf] at hn;have Hn:=Aa hn;clear hn hf;exact FD14
  |some n =>
   obtain⟨hnl,_,_⟩:=F9.1 hf;replace hn:CH.next s i=if (s.drop (i+1))[n]?=some 10 then .error 6 else if n > 400 then .error 2 else .ok (⟨3,i,0,(s.drop (i+1)).take n⟩,i+n+2):=by rw [hn,hf]
   obtain⟨ch,hch⟩:∃ ch,(s.drop (i+1))[n]?=some ch:=⟨_,Ae hnl⟩
   rw [hch] at hn;have hgk:=Qv _ n hnl ch hch;generalize hR:s.drop (i+1)=R at *;dsimp only;have d0:ZH ((n:Int)<0)=false:=sM;by_cases h10:ch=10;·subst h10;have Hn:=Aa hn;rw [Ah rfl] at Hn;clear hn hf hch hR;exact FD14
   ·have d1:((ch.toNat:Int)==10)=false:=by have:=CH.beq_toNat ch 10;rw [Dl.2 h10] at this;simp at this ⊢;omega
    have Hn:=Aa hn;rw [Ai (fun e=>h10 (Gh e))] at Hn;clear hn hf hch hR;by_cases LJ:n > 400;·have d4:=nai ((400:Int)<(n:Int));rw [Ah LJ] at Hn;exact FD14
    ·have d4:=naj ((400:Int)<(n:Int));rw [Ai LJ] at Hn;go_wp2;refine Gk (r:=r) (cells:=[.int .i64 3,↑i,.int .i64 0,.string ((ByteArray.mk R.toArray).extract 0 n)]) ?_ hth ?_ hbb nR (Aa ?_) <;> try rfl
     rw [<- hr.out,Hn.out];simp only [Fu,Gv,Nat.sub_zero];rfl
 have hpre:Lib.hasPrefix (s.drop (i+1)) [61]=ZH (s[i+1]?=some 61):=Ety s (i+1);by_cases c78:c=7\/c=8
 ·have hn:CH.next s i=if s[i+1]?=some 61 then .ok (⟨4,i,0,(s.drop i).take 2⟩,i+2) else if c=7 then .error 3 else .ok (⟨4,i,0,(s.drop i).take 1⟩,i+1):=by unfold CH.next;rw [hc.out,if_neg c3,if_neg c4,if_neg c6,if_pos c78]
  have HP:=Aa (Tryz.strings_HasPrefix ⟨(s.drop (i+1)).toArray⟩ ⟨#[61]⟩ w1);have hpre':Lib.hasPrefix (ByteArray.mk (s.drop (i+1)).toArray).data.toList (ByteArray.mk #[61]).data.toList=ZH (s[i+1]?=some 61):=hpre;rw [hpre'] at HP;obtain⟨hth,k0,k1,k2,k3,f0,f1,f2,f3⟩:=Pe (keep w1 (Ac _ _));clear hS hS1 hBa keep hpre hpre';by_cases h61:s[i+1]?=some 61
  ·have hl2:i+1<s.length:=(lS h61)
   rw [Ah h61] at hn;rw [Di h61] at HP;have Hn:=Aa hn;clear hn h61;rcases c78 with rfl|rfl;all_goals
    go_wp2_with fail;simp only [Ex];refine CmZ HP.out fun w2 hw2=>?_;subst hw2;clear HP;go_wp2;refine Gk (r:=r) (cells:=[.int .i64 4,↑i,.int .i64 0,.string ((ByteArray.mk s.toArray).extract i (i+2))]) ?_ hth ?_ hb nR (Aa ?_) <;> try rfl
    rw [<- hr.out,Hn.out];simp only [Fu,Hg];rfl
  ·rw [Ai h61] at hn;rw [Cj h61] at HP;have Hn:=Aa hn;clear hn h61;rcases c78 with rfl|rfl;·rw [Ah rfl] at Hn;go_wp2_with fail;simp only [Ex];refine CmZ HP.out fun w2 hw2=>?_;subst hw2;clear HP;exact FD73
   ·rw [Ai dC] at Hn;go_wp2_with fail;simp only [Ex];refine CmZ HP.out fun w2 hw2=>?_;subst hw2;clear HP;exact FD54
 obtain⟨hth,k0,k1,k2,k3,f0,f1,f2,f3⟩:=Pe (keep w1 (Ac _ _));clear hS hS1 hBa keep hpre;by_cases c9:c=9
 ·subst c9;have hn:CH.next s i=.ok (⟨4,i,0,(s.drop i).take 1⟩,i+1):=by unfold CH.next;rw [hc.out,if_neg c3,if_neg c4,if_neg c6,if_neg c78,if_pos rfl]
  have Hn:=Aa hn;clear hn;exact FD54
 have hn:CH.next s i=.error 3:=by unfold CH.next;rw [hc.out,if_neg c3,if_neg c4,if_neg c6,if_neg c78,if_neg c9]
 have Hn:=Aa hn;clear hn;have d3:=nal c 3;have d4:=nal c 4;have d6:=nal c 6;have d7:=nal c 7;have d8:=nal c 8;have d9:=nal c 9;exact FD73
end
section
open Go.Lib Go.Proofs.Tryz Go.RowKit Go.Shelf CH
theorem Hj (w:ZB) (o1 o2:Obj):((w.alloc o1).alloc o2).heap[w.heap.size]?=some o1/\((w.alloc o1).alloc o2).heap[w.heap.size+1]?=some o2:=by exact FD112
theorem Ge {P:Program} {fn:Func} {p:Tmp} {ty:ZJ} (h:fn.results=#[.cell p ty]) (tmps:Array ZC) (w:ZB) (a:Addr) (v:ZC) (hp:tmps.getD p ZA=.pointer (some a)) (hl:(loadVar ty a).run P w=.ok v w):(results fn tmps).run P w=.ok v w:=by
 simp only [results,h];have hp':tmps[p]?.getD ZA=.pointer (some a):=by simpa using hp
 simp [asAddr];rw [hp'];simpa [Result.andThen] using hl
def D3 (c:Nat) (s:Q00) (cs:Array ZC):Array ZC:=s.foldl (fun cs ch=>cs.setIfInBounds ch.toNat ↑c) cs
theorem Gd (c:Nat) (s:Q00):∀ cs:Array ZC,(D3 c s cs).size=cs.size:=by
 induction s with
 |nil=>intro cs;rfl
 |cons x r ih=>intro cs;unfold D3 at *;rw [List.foldl_cons,ih];simp
theorem F11 (c:Nat) (s:Q00) (x:UInt8) (cs:Array ZC):D3 c (s++[x]) cs=(D3 c s cs).setIfInBounds x.toNat ↑c:=by simp [D3]
theorem I6 (c:Nat) (s:Q00):∀ cs:Array ZC,(∀ v∈cs,v.oneCell'=true)->∀ v∈D3 c s cs,v.oneCell'=true:=by
 induction s with
 |nil=>intro cs h;exact h
 |cons x r ih =>
  intro cs h;unfold D3 at *;rw [Na];refine ih _ fun v hv=>?_;rcases Array.mem_or_eq_of_mem_setIfInBounds hv with h1|h1;·exact h v h1
  ·rw [h1];rfl
theorem Nt (s:Q00) (c b:Nat) (cs:Array ZC) (w:ZB) (hlen:s.length<=1000000) (hb:w.heap[b]?=some (.cells cs 250 (0,0))) (hsz:cs.size=256) : ZE prog 245 #[↑s,↑c,.pointer (some ⟨b,0,none⟩)] w (fun e w'=>e=.returned (.tuple #[])/\w'.heap[b]?=some (.cells (D3 c s cs) 250 (0,0))/\aV (·=b) w w'):=by
 go_in;go_wp2_with fail;go_loopw [5] (fun kv wr=>∃ k:Nat,k<=s.length/\kv=↑k/\wr.heap[b]?=some (.cells (D3 c (s.take k) cs) 250 (0,0))/\aV (·=b) w wr) (fun kv _=>s.length - (ZG kv).toNat);case atStart=>exact⟨0,Ak _,rfl,by simpa [D3] using hb,aV.refl _ _⟩
 case round =>
  obtain⟨k,hk,rfl,hbk,hkp⟩:=hrel;by_cases hlt:k<s.length
  ·have hcs:(D3 c (s.take k) cs).size=256:=by rw [Gd];exact hsz
   obtain⟨ch,hch⟩:∃ ch,s[k]?=some ch:=⟨_,Ae hlt⟩
   have QG:ch.toNat<256:=Fz ch;obtain⟨u,hu⟩:∃ u,(D3 c (s.take k) cs)[ch.toNat]?=some u:=⟨_,Eo (by rw [hcs];exact QG)⟩
   have hgk:(⟨s.toArray⟩:ByteArray)[k]'(by show k<s.toArray.size;simpa using hlt)=ch:=by rw [Ae hlt] at hch;show s.toArray[k]'(by simpa using hlt)=ch;simpa using hch
   have QF:((ch.toNat:Nat):Int)<256:=oM;have hcell:wr.cell? ⟨b,ch.toNat,none⟩=some u:=by rw [Ab hbk];exact hu
   have hfro:wr.frozen? ⟨b,ch.toNat,none⟩=false:=Ao hbk _;generalize hcs':D3 c (s.take k) cs=cs' at *;clear hb;go_wp2_with fail;refine⟨⟨k+1,oM,by go_num,?_,hkp.setCell rfl _⟩,by simp [ZG];omega⟩;have:=Al wr b ch.toNat ↑c _ _ _ hbk;rw [this,Ip,hch,Pz,F11,hcs']
  ·have e:k=s.length:=oM;subst e;rw [D5] at hbk;go_wp2;go_end0;exact⟨rfl,hbk,hkp⟩
noncomputable def Fo:Array ZC:=(D3 9 [59,44,46,58,40,41,91,93,123,125,61,43,45] (D3 8 [60,62] (D3 7 [33] (D3 6 [34] (D3 2 [35] (D3 1 [32,9,10] (D3 5 [95] (D3 4 [48,49,50,51,52,53,54,55,56,57] (D3 3 [97,98,99,100,101,102,103,104,105,106,107,108,109,110,111,112,113,114,115,116,117,118,119,120,121,122,65,66,67,68,69,70,71,72,73,74,75,76,77,78,79,80,81,82,83,84,85,86,87,88,89,90] Tryz.zeroCells250)))))))))
theorem Hct (w:ZB):ZE prog 187 #[] w (fun e w'=>e=.returned (.agg Fo)/\Below w w w'):=by
 obtain⟨cs0,E0⟩:=nae Tryz.zeroCells250;have z0:cs0.size=256:=by rw [E0.out];kernel_rfl
 have z00:=z0;have o0:∀ v∈cs0,v.oneCell'=true:=by rw [E0.out];exact fun v hv=>Ku.1 (by kernel_rfl:Tryz.zeroCells250.all (·.oneCell')=true) v hv
 go_in;go_wp2_with fail;rw [<- E0.out];have hB:=Hj w (.cells cs0 250) (.cells cs0 250);have b0:Below w w ((w.alloc (.cells cs0 250)).alloc (.cells cs0 250)):=((Ac _ w).alloc nR _).alloc sM _;have hs0:w.heap.size+1<((w.alloc (.cells cs0 250)).alloc (.cells cs0 250)).heap.size:=sM;generalize (w.alloc (.cells cs0 250)).alloc (.cells cs0 250)=w0 at *;obtain⟨r0,c0⟩:=hB;refine (Nt [97,98,99,100,101,102,103,104,105,106,107,108,109,110,111,112,113,114,115,116,117,118,119,120,121,122,65,66,67,68,69,70,71,72,73,74,75,76,77,78,79,80,81,82,83,84,85,86,87,88,89,90] 3 (w.heap.size+1) _ w0 dC c0 z0).mono ?_;rintro e w1 ⟨rfl,c1,k1⟩;have b1:=b0.trans (k1.below (B:=w.heap.size) (Dy (Ep hs0)) (fun k e=>by rw [e];exact Iy _));have hs1:w.heap.size+1<w1.heap.size:=Af hs0 k1.size;have r1:=(k1.block w (Ep hs0) (Iu (Cm _))).trans r0;have z1:=(Gd 3 [97,98,99,100,101,102,103,104,105,106,107,108,109,110,111,112,113,114,115,116,117,118,119,120,121,122,65,66,67,68,69,70,71,72,73,74,75,76,77,78,79,80,81,82,83,84,85,86,87,88,89,90] cs0).trans z0;obtain⟨cs1,E1⟩:=nae (D3 3 [97,98,99,100,101,102,103,104,105,106,107,108,109,110,111,112,113,114,115,116,117,118,119,120,121,122,65,66,67,68,69,70,71,72,73,74,75,76,77,78,79,80,81,82,83,84,85,86,87,88,89,90] cs0);rw [<- E1.out] at c1 z1;have o1:∀ v∈cs1,v.oneCell'=true:=by rw [E1.out];exact I6 _ _ _ o0
 clear o0;clear k1 b0 c0 r0 z0 hs0;go_wp2_with fail;refine (Nt [48,49,50,51,52,53,54,55,56,57] 4 (w.heap.size+1) _ w1 dC c1 z1).mono ?_;rintro e w2 ⟨rfl,c2,k2⟩;have b2:=b1.trans (k2.below (B:=w.heap.size) (Dy (Ep hs1)) (fun k e=>by rw [e];exact Iy _));have hs2:w.heap.size+1<w2.heap.size:=Af hs1 k2.size;have r2:=(k2.block w (Ep hs1) (Iu (Cm _))).trans r1;have z2:=(Gd 4 [48,49,50,51,52,53,54,55,56,57] cs1).trans z1;obtain⟨cs2,E2⟩:=nae (D3 4 [48,49,50,51,52,53,54,55,56,57] cs1);rw [<- E2.out] at c2 z2;have o2:∀ v∈cs2,v.oneCell'=true:=by rw [E2.out];exact I6 _ _ _ o1
 clear o1;clear k2 b1 c1 r1 z1 hs1;go_wp2_with fail;refine (Nt [95] 5 (w.heap.size+1) _ w2 dC c2 z2).mono ?_;rintro e w3 ⟨rfl,c3,k3⟩;have b3:=b2.trans (k3.below (B:=w.heap.size) (Dy (Ep hs2)) (fun k e=>by rw [e];exact Iy _));have hs3:w.heap.size+1<w3.heap.size:=Af hs2 k3.size;have r3:=(k3.block w (Ep hs2) (Iu (Cm _))).trans r2;have z3:=(Gd 5 [95] cs2).trans z2;obtain⟨cs3,E3⟩:=nae (D3 5 [95] cs2);rw [<- E3.out] at c3 z3;have o3:∀ v∈cs3,v.oneCell'=true:=by rw [E3.out];exact I6 _ _ _ o2
 clear o2;clear k3 b2 c2 r2 z2 hs2;go_wp2_with fail;refine (Nt [32,9,10] 1 (w.heap.size+1) _ w3 dC c3 z3).mono ?_;rintro e w4 ⟨rfl,c4,k4⟩;have b4:=b3.trans (k4.below (B:=w.heap.size) (Dy (Ep hs3)) (fun k e=>by rw [e];exact Iy _));have hs4:w.heap.size+1<w4.heap.size:=Af hs3 k4.size;have r4:=(k4.block w (Ep hs3) (Iu (Cm _))).trans r3;have z4:=(Gd 1 [32,9,10] cs3).trans z3;obtain⟨cs4,E4⟩:=nae (D3 1 [32,9,10] cs3);rw [<- E4.out] at c4 z4;have o4:∀ v∈cs4,v.oneCell'=true:=by rw [E4.out];exact I6 _ _ _ o3
 clear o3;clear k4 b3 c3 r3 z3 hs3;go_wp2_with fail;refine (Nt [35] 2 (w.heap.size+1) _ w4 dC c4 z4).mono ?_;rintro e w5 ⟨rfl,c5,k5⟩;have b5:=b4.trans (k5.below (B:=w.heap.size) (Dy (Ep hs4)) (fun k e=>by rw [e];exact Iy _));have hs5:w.heap.size+1<w5.heap.size:=Af hs4 k5.size;have r5:=(k5.block w (Ep hs4) (Iu (Cm _))).trans r4;have z5:=(Gd 2 [35] cs4).trans z4;obtain⟨cs5,E5⟩:=nae (D3 2 [35] cs4);rw [<- E5.out] at c5 z5;have o5:∀ v∈cs5,v.oneCell'=true:=by rw [E5.out];exact I6 _ _ _ o4
 clear o4;clear k5 b4 c4 r4 z4 hs4;go_wp2_with fail;refine (Nt [34] 6 (w.heap.size+1) _ w5 dC c5 z5).mono ?_;rintro e w6 ⟨rfl,c6,k6⟩;have b6:=b5.trans (k6.below (B:=w.heap.size) (Dy (Ep hs5)) (fun k e=>by rw [e];exact Iy _));have hs6:w.heap.size+1<w6.heap.size:=Af hs5 k6.size;have r6:=(k6.block w (Ep hs5) (Iu (Cm _))).trans r5;have z6:=(Gd 6 [34] cs5).trans z5;obtain⟨cs6,E6⟩:=nae (D3 6 [34] cs5);rw [<- E6.out] at c6 z6;have o6:∀ v∈cs6,v.oneCell'=true:=by rw [E6.out];exact I6 _ _ _ o5
 clear o5;clear k6 b5 c5 r5 z5 hs5;go_wp2_with fail;refine (Nt [33] 7 (w.heap.size+1) _ w6 dC c6 z6).mono ?_;rintro e w7 ⟨rfl,c7,k7⟩;have b7:=b6.trans (k7.below (B:=w.heap.size) (Dy (Ep hs6)) (fun k e=>by rw [e];exact Iy _));have hs7:w.heap.size+1<w7.heap.size:=Af hs6 k7.size;have r7:=(k7.block w (Ep hs6) (Iu (Cm _))).trans r6;have z7:=(Gd 7 [33] cs6).trans z6;obtain⟨cs7,E7⟩:=nae (D3 7 [33] cs6);rw [<- E7.out] at c7 z7;have o7:∀ v∈cs7,v.oneCell'=true:=by rw [E7.out];exact I6 _ _ _ o6
 clear o6;clear k7 b6 c6 r6 z6 hs6;go_wp2_with fail;refine (Nt [60,62] 8 (w.heap.size+1) _ w7 dC c7 z7).mono ?_;rintro e w8 ⟨rfl,c8,k8⟩;have b8:=b7.trans (k8.below (B:=w.heap.size) (Dy (Ep hs7)) (fun k e=>by rw [e];exact Iy _));have hs8:w.heap.size+1<w8.heap.size:=Af hs7 k8.size;have r8:=(k8.block w (Ep hs7) (Iu (Cm _))).trans r7;have z8:=(Gd 8 [60,62] cs7).trans z7;obtain⟨cs8,E8⟩:=nae (D3 8 [60,62] cs7);rw [<- E8.out] at c8 z8;have o8:∀ v∈cs8,v.oneCell'=true:=by rw [E8.out];exact I6 _ _ _ o7
 clear o7;clear k8 b7 c7 r7 z7 hs7;go_wp2_with fail;refine (Nt [59,44,46,58,40,41,91,93,123,125,61,43,45] 9 (w.heap.size+1) _ w8 dC c8 z8).mono ?_;rintro e w9 ⟨rfl,c9,k9⟩;have b9:=b8.trans (k9.below (B:=w.heap.size) (Dy (Ep hs8)) (fun k e=>by rw [e];exact Iy _));have hs9:w.heap.size+1<w9.heap.size:=Af hs8 k9.size;have r9:=(k9.block w (Ep hs8) (Iu (Cm _))).trans r8;have z9:=(Gd 9 [59,44,46,58,40,41,91,93,123,125,61,43,45] cs8).trans z8;obtain⟨cs9,E9⟩:=nae (D3 9 [59,44,46,58,40,41,91,93,123,125,61,43,45] cs8);rw [<- E9.out] at c9 z9;have o9:∀ v∈cs9,v.oneCell'=true:=by rw [E9.out];exact I6 _ _ _ o8
 clear o8;clear k9 b8 c8 r8 z8 hs8;have hra:w9.rangeAt (w+1) 0 cs9.toList:=fun j v hj=>by rw [Ba,Ab c9 j];simpa using hj
 have hi9:(prog.info? 250).map (·.size)=some cs9.toList.length:=by rw [I8,z9];kernel_rfl
 have hi9':(prog.info? 250).map (·.size)=some cs9.size:=by rw [z9];kernel_rfl
 have ho9:cs9.all (·.oneCell')=true:=Ku.2 o9;have hth:w9.there w 0 cs9.size:=fun j hj=>by rw [Ba,Ab r9 j,Ao r9 j];rw [z9] at hj;simp [Eo (show j<cs0.size by rw [z00];exact hj)]
 go_wp2_with (first|refine Dn rfl _ _ rfl (w+1) 0 rfl cs9.toList _ hra underlying250 rfl hi9 ?_|refine Ig rfl _ _ _ rfl w 0 cs9 rfl rfl hth hi9' ho9 ?_)
 refine Ar (Ge (p:=0) (ty:=250) rfl _ _ ⟨w,0,none⟩ _ rfl (Fq _ w 0 250 cs9.toList _ (Ef w9 _ 0 _ (by simpa using hth)) underlying250 rfl hi9)) rfl ?_;refine⟨?_,Ms nR _ _ _ b9⟩;rw [Array.toArray_toList,E9.out,E8.out,E7.out,E6.out,E5.out,E4.out,E3.out,E2.out,E1.out,E0.out];rfl
theorem Se:Fo=((List.range 256).map fun n=>Value.int .i64 (CH.cls n.toUInt8:Nat)).toArray:=kR
theorem Ch2 (c:UInt8):Fo[c.toNat]?=some (.int .i64 (CH.cls c:Nat)):=by rw [Se];simp [Fz c]
theorem Nm:Fo.size=256:=by rw [Se];simp
theorem Bal:∀ v∈Fo,v.oneCell'=true:=by rw [Se];intro v hv;simp at hv;obtain⟨n,_,rfl⟩:=hv;rfl
end
section
open Go.Lib Go.Proofs.Tryz Go.RowKit Go.Shelf Go.Sort CH
variable {w:ZB} {base r:Nat} {ts:List Q03} {α:Type} {P:Program} {kind:TypeDesc}
theorem Mst (l:List ZC):∀ (k0:Nat) (A:Array ZC) (j:Nat),((l.zipIdx k0).foldl (fun cs x=>cs.setIfInBounds (1+x.2) x.1) A)[j]?=if 1+k0<=j/\j<1+k0+l.length/\j<A.size then l[j - (1+k0)]? else A[j]?:=by
 induction l with
 |nil=>intro k0 A j;simp;omega
 |cons x l ih =>
  intro k0 A j;rw [List.zipIdx_cons,Na,ih];simp only [Array.size_setIfInBounds,Ap];by_cases h1:j=1+k0
  ·subst h1;rw [Ai oM];by_cases h2:1+k0<A.size;·rw [Ah oM];simp [h2]
   ·rw [Ai oM];simp [h2]
  ·rw [Iw (by simpa using fun e=>h1 e.symm)];by_cases h2:1+(k0+1)<=j/\j<1+(k0+1)+l.length/\j<A.size;·rw [Ah h2,Ah oM,show j - (1+k0)=(j - (1+(k0+1)))+1 from by omega,Ir]
   ·rw [Ai h2,Ai oM]
noncomputable def Lv (s:Q00):Array ZC:=Array.foldl (fun cs x=>cs.setIfInBounds (1+x.snd) x.fst) (Tryz.zeroCells253.setIfInBounds 0 (Value.string ⟨s.toArray⟩)) Fo.zipIdx 0 256
theorem Uh:Tryz.zeroCells253.size=257:=kR
theorem Mj (s:Q00) (j:Nat):(Lv s)[j]?=if j=0 then some ↑s else if j<257 then Fo[j - 1]? else none:=by
 have hz:=Nm;have h0:=Uh;unfold Lv;rw [show (256:Nat)=Fo.zipIdx.size from by simp [hz],<- Array.foldl_toList,Array.toList_zipIdx,Mst];simp only [Array.size_setIfInBounds,h0,I8,hz,Hu,Jv];by_cases hj:j=0;·subst hj;rw [Ai oM,Ah rfl];simp [h0]
 ·by_cases h2:j<257;·rw [Ah oM,Ai hj,Ah h2]
  ·rw [Ai oM,Ai hj,Ai h2];exact Oz (by simp [h0];omega)
theorem Zq (s:Q00):(Lv s).size=257:=by
 have h1:=Mj s 256;have h2:=Mj s 257;have hx:Fo[255]?=some (Fo[255]'(by rw [Nm];decide)):=Eo _;rw [Ai dC,Ah dC,show 256 - 1=255 from rfl,hx] at h1;rw [Ai dC,Ai dC] at h2;have:=(aZ h1)
 have:=Array.getElem?_eq_none_iff.1 h2;omega
theorem Box (s:Q00):∀ v∈Lv s,v.oneCell'=true:=by
 intro v hv;obtain⟨j,hj⟩:=Array.getElem?_of_mem hv;rw [Mj] at hj;split at hj;·cases hj;rfl
 split at hj;·exact Bal v (Lp hj)
 ·cases hj
theorem H1n (s:Q00) (w:ZB):Scan w s (w.alloc (.cells (Lv s) 253)):=by
 refine⟨sM,?_,fun c=>?_⟩;·rw [Cb,Mj,Ah rfl]
 ·rw [Cb,Mj,Ai oM,Ah (by have:=Fz c;omega),Hg,Ch2]
def A7 (t:Q03):List ZC:=[↑t.kind,↑t.pos,↑t.n,↑t.text]
def Gb (base:Nat) (w:ZB) (v:ZC) (ts:List Q03):Prop:=w.ownsRow base 190 4 v ts.length (ts.flatMap A7)
theorem L64:(prog.info? 190).map (fun i=>(i.zero,i.size,i.bytes))=some (some (.agg #[.int .i64 0,.int .i64 0,.int .i64 0,.string ⟨#[]⟩]),4,40):=kR
theorem I27 {ops:Array Oper} {rest:List Oper} {o:Oper} {a:Act} {Q:Exit->Act->ZB->Prop} (hgd:o.guard=none) (s x:Operand) (ho:o.op=.call { callee:=.builtin .append,args:=#[s,x],argTypes:=#[186,186] }) (base:Nat) (v:ZC) (ts:List Q03) (hs:a.eval s=v) (hown:Gb base w v ts) (g c:Nat) (t:Q03) (hx:a.eval x=.slice (some ⟨g,0,none⟩) 1 c) (hcell:∀ j u,(A7 t)[j]?=some u->w.cell? ⟨g,j,none⟩=some u) (hlen:ts.length<=1099511627) (hbase:base<=w.heap.size) (h:∀ v' w',Gb base w' v' (ts++[t])->w.grownBy w' v.ownBlock->wpList prog ops Q rest (a.put o.dst v') w') : wpList prog ops Q (o::rest) a w:=by
 obtain⟨i,hi,hz0,hz1,hz2⟩:=Jb L64;refine wpList_append_own_at w hgd s x 186 ho base 190 i _ 4 40 underlying186 hi hz0 hz1 hz2 rfl dC v ts.length _ hs hown ⟨g,0,none⟩ 1 c (A7 t) hx rfl ?_ ?_ ?_ ?_ hbase ?_;·intro j u hj;rw [show (⟨g,0,none⟩:Addr).add j=⟨g,j,none⟩ from by simp [Addr.add];exact fun e=>e.symm];exact hcell j u hj
 ·intro u hu;simp [A7] at hu;rcases hu with rfl|rfl|rfl|rfl <;> rfl
 ·unfold maxLen;omega
 ·omega
 ·intro v' w' h1 h2 _ h4;exact h v' w' (by unfold Gb;simpa using h1) h2
theorem Gb.form {v:ZC} (h:Gb base w v ts):∃ a cap,v=.slice a ts.length cap/\ts.length<=cap/\cap<=9223372036854775807:=by
 obtain⟨hlen,⟨rfl,h0⟩|⟨g,cap,cur,rfl,hb,hg,hn,hc,hsz,htk⟩⟩:=h;·exact⟨none,0,by rw [h0],oM,oM⟩
 ·exact⟨_,cap,rfl,hn,by unfold maxLen at hc;omega⟩
theorem Gb.mono {base':Nat} {v:ZC} (h:Gb base w v ts) (hb:base'<=base):Gb base' w v ts:=by
 obtain⟨hlen,⟨h0,h1⟩|⟨g,cap,cur,h1,hb',h2⟩⟩:=h;·exact⟨hlen,.inl ⟨h0,h1⟩⟩
 ·exact⟨hlen,.inr ⟨g,cap,cur,h1,Aj hb hb',h2⟩⟩
theorem Xy (s:Q00) (i e:Nat) (h:CH.next s i=.error e):1<=e:=by
 unfold CH.next at h;split at h
 ·split at h;·cases h;decide
  ·cases h
 split at h
 ·split at h;·cases h;decide
  ·cases h
 split at h
 ·split at h;·cases h;decide
  ·split at h;·cases h;decide
   split at h;·cases h;decide
   ·cases h
 split at h
 ·split at h;·cases h
  ·split at h;·cases h;decide
   ·cases h
 split at h;·cases h
 ·cases h;decide
theorem R7 {e:ZJ} {size:Nat} {v:ZC} {n:Nat} {xs:List ZC} (h:w.ownsRow base e size v n xs):∀ j,v.ownBlock=some j->base<=j:=by
 intro j hj;obtain⟨hlen,⟨rfl,h0⟩|⟨g,cap,cur,rfl,hb,hg,rest⟩⟩:=h;·cases hj
 ·simp only [Value.ownBlock,G6] at hj;subst hj;exact hb
theorem Scan.low {b B:Nat} {s:Q00} {w':ZB} (h:Scan b s w) (hb:Below B w w') (hlt:b<B):Scan b s w' := ⟨Af h.lt hb.size,(hb.cell (p:=⟨b,0,none⟩) hlt).trans h.text,fun c=>(hb.cell (p:=⟨b,1+c.toNat,none⟩) hlt).trans (h.cls c)⟩
def Rcy (w:ZB) (r:Except (Nat × Nat) (List Q03)) (e:Ending) (w':ZB):Prop :=
 Below w w w'/\match r with
  |.error x=>e=.returned (.tuple #[.slice none 0 0,↑x.1,↑x.2])
  |.ok ts=>∃ v,e=.returned (.tuple #[v,.int .i64 0,.int .i64 0])/\Gb w w' v ts
theorem Tr (s:Q00) (w:ZB) (hs2:s.length<=20000) : ZE prog 116 #[↑s] w (Rcy w (CH.lex s)):=by
 obtain⟨r,hr⟩:=nac (CH.lex s);rw [hr.out];have d:=naj ((20000:Int)<(s.length:Int));have A:=Aa (Hct w);have hz:=Zq s;have hFs:(Array.foldl (fun cs x=>cs.setIfInBounds (1+x.snd) x.fst) (Tryz.zeroCells253.setIfInBounds 0 (Value.string ⟨s.toArray⟩)) Fo.zipIdx 0 256).size=257:=hz;have hsc:∀ w1:ZB,(storeCells ⟨w1,0,none⟩ (Array.foldl (fun cs x=>cs.setIfInBounds (1+x.snd) x.fst) (Tryz.zeroCells253.setIfInBounds 0 (Value.string ⟨s.toArray⟩)) Fo.zipIdx 0 256).toList).run prog (w1.alloc (.cells Tryz.zeroCells253 253))=.ok () (w1.alloc (.cells (Lv s) 253)):=fun w1 =>run_storeCells_new w1 253 Tryz.zeroCells253 (Lv s) (by rw [hz];kernel_rfl) (by rw [hz,Uh]) (Ku.2 (Box s));have hscan:=fun w1=>H1n s w1;have z:=Nm;generalize hSC:Lv s=SC at *;generalize hCC:Fo=cc at *;clear hSC hCC;go_in;go_wp2_with fail;refine A.out.mono ?_;clear A;rintro e w1 ⟨rfl,hb1⟩;go_wp2_with fail;generalize Array.foldl (fun cs x=>cs.setIfInBounds (1+x.snd) x.fst) (Tryz.zeroCells253.setIfInBounds 0 (Value.string ⟨s.toArray⟩)) cc.zipIdx 0 256=FF at *;have hS:=hscan w1;have hb2:=hb1.alloc hb1.size (.cells SC 253);have hsz:w1.heap.size<(w1.alloc (.cells SC 253)).heap.size:=sM;generalize w1.alloc (.cells SC 253)=W at *;clear hscan hsc hFs hz z;refine CmZ (I43 w1 0 s W oM (Ak _) hS) fun w2 hb3=>?_;have hB2:Below w w w2:=hb2.trans (hb3.mono hb2.size);have hS2:=hS.below hb3;have hwB:=hb1.size;have hg0:=wG s 0 (Ak _);obtain⟨k0,hk0⟩:=nac (CH.gap s 0);rw [hk0.out] at hg0 ⊢;have hl0:Hid (jm s (s.length+1) k0 []=r):=Aa (by rw [<- hr.out,<- hk0.out];rfl);clear hS hb2 hb3 hsz hb1 hk0 hr;generalize hBB:w1.heap.size=B at *;clear hBB;go_wp2_with fail;go_loopw [6,7] (fun ov iv wr=>∃ (k f:Nat) (ts:List Q03),k<=s.length/\iv=↑k/\Hid (jm s f k ts=r)/\s.length<f+k/\ts.length<=k/\Gb (B+1) wr ov ts/\Scan B s wr/\Below w w wr) (fun _ iv _=>s.length - (ZG iv).toNat);case atStart=>exact⟨k0,s.length+1,[],hg0,rfl,hl0,oM,Ak _,Ji _ _ _ _,hS2,hB2⟩
 case round =>
  obtain⟨k,f,ts,hk,rfl,hl,hf,hts,hO,hSr,hBr⟩:=hrel;obtain⟨av,cv,rfl,hcv1,hcv2⟩:=hO.form;by_cases hlt:k<s.length
  ·have d1:=nai ((k:Int)<(s.length:Int));obtain⟨f',rfl⟩:∃ f',f=f'+1:=⟨f - 1,oM⟩
   have A:=Aa (Ggv B k s wr oM hlt hSr);cases hn:CH.next s k with
   |error e =>
    have he:=Xy s k e hn;rw [hn] at A;have hl':r=.error (e,k):=by rw [<- hl.out];unfold jm;rw [if_pos hlt,hn]
    clear hl hn;have z0:=nal e 0;have z1:((e:Int) != 0)=true:=naf;go_wp2_with fail;refine A.out.mono ?_;rintro e2 w3 ⟨rfl,hb3⟩;clear A;dsimp only [xk];exact FD77
   |ok x =>
    obtain⟨t,j⟩:=x;obtain⟨hj1,hj2⟩:=wZ s k hlt t j hn;rw [hn] at A;go_wp2_with fail;refine A.out.mono ?_;rintro e2 w3 ⟨rfl,hb3⟩;clear A;dsimp only [xk,mG];by_cases h5:ts.length=5000
    ·have z0:=nak ts.length 5000;have hl':r=.error (2,k):=by
      rw [<- hl.out];conv=>lhs;unfold jm;rw [if_pos hlt,hn]
      dsimp only;rw [Ah h5]
     clear hl hn hO hSr;exact FD77
    ·have z0:=nal ts.length 5000;have hl':jm s f' (CH.gap s j) (ts++[t])=r:=by
      rw [<- hl.out];conv=>rhs;unfold jm;rw [if_pos hlt,hn]
      dsimp only;rw [Ai h5]
     clear hl hn;have fK:Below w w w3:=hBr.trans (hb3.mono hBr.size);have hS3:=hSr.below hb3;have hO3:Gb (B+1) w3 (.slice av ts.length cv) ts:=Hm hO hb3;have hB3:=hS3.lt;clear hO hSr hb3;have hA:Below w3 w3 ((w3.alloc (.cells (A7 t).toArray 190)).alloc (.cells (A7 t).toArray 190)):=((Ac _ w3).alloc nR _).alloc sM _;have hO4:Gb (B+1) ((w3.alloc (.cells (A7 t).toArray 190)).alloc (.cells (A7 t).toArray 190)) (.slice av ts.length cv) ts:=Jj (Jj hO3 _) _;have hcell:∀ j u,(A7 t)[j]?=some u->((w3.alloc (.cells (A7 t).toArray 190)).alloc (.cells (A7 t).toArray 190)).cell? ⟨w3+1,j,none⟩=some u:=fun j u hj=>by have:=Cb (w3.alloc (.cells (A7 t).toArray 190)) (A7 t).toArray 190 (0,0) j;simpa using this.trans (by simpa using hj)
     have hsA:B+1<=((w3.alloc (.cells (A7 t).toArray 190)).alloc (.cells (A7 t).toArray 190)).heap.size:=naf;have hblk:=R7 hO4;go_wp2_with (refine I27 rfl _ _ rfl (B+1) _ ts rfl hO4 (w3+1) 1 t rfl hcell oM hsA ?_;intro v5 w5 hO5 hg5;have hb5:=Aa ((Ac (B+1) _).grown hg5 hsA hblk);clear hg5)
     have ES:=hb5.out;have hS5:Scan B s w5:=(hS3.below hA).low ES (Cm _);have hb6:Below w w w5:=(fK.trans (hA.mono fK.size)).trans (ES.mono oM);refine (I43 B j s w5 oM hj2 hS5).mono ?_;rintro e3 w6 ⟨rfl,hb7⟩;have hO6:Gb (B+1) w6 v5 (ts++[t]):=Hm hO5 hb7;have hS6:=hS5.below hb7;have hb8:=hb6.trans (hb7.mono hb6.size);have hg1:=wH s j hj2;have hg2:=wG s j hj2;have HL:=Aa hl';clear hb5 ES hS5 hb6 hb7 hO5 hO4 hO3 hS3 hA hcell hsA hblk fK hl';generalize hG:CH.gap s j=G at *;go_wp2;go_roundw;case rel=>exact⟨G,f',ts++[t],hg2,rfl,HL,oM,by simp;omega,hO6,hS6,hb8⟩
     case measure=>simp [ZG];omega
  ·have d1:=naj ((k:Int)<(s.length:Int));have hl':r=.ok ts:=by
    rw [<- hl.out];cases f with
    |zero=>rfl
    |succ f'=>unfold jm;rw [if_neg hlt]
   clear hl;go_wp2;refine Ar (results_tmp3 rfl _ _ _) rfl ?_;refine⟨hBr,?_⟩;rw [hl'];exact⟨_,rfl,hO.mono oM⟩
theorem Gb.cellAt {a:Option Addr} {n cap:Nat} {t:Q03} (h:Gb base w (.slice a n cap) [t]) : ∃ g,a=some ⟨g,0,none⟩/\w.cell? ⟨g,0,none⟩=some ↑t.kind/\w.cell? ⟨g,3,none⟩=some ↑t.text:=by
 have h':=h;obtain⟨hlen,⟨e,h0⟩|⟨g,cap',cur,e,hb,hg,hn,hc,hsz,htk⟩⟩:=h;·simp at h0
 ·injection e with e1 e2 e3;subst e1;subst e2;subst e3;refine⟨g,rfl,?_,?_⟩;·exact Jf h' 0 sM
  ·exact Jf h' 3 sM
theorem Fr (a b:Q00):((⟨a.toArray⟩:ByteArray)==⟨b.toArray⟩)=(a==b):=by
 show (a.toArray==b.toArray)=(a==b)
 simp
theorem Mrm (s:Q00):∀ (f i:Nat) (out:List Q03) (x:Nat × Nat),jm s f i out=.error x->1<=x.1:=by
 intro f;induction f with
 |zero=>intro i out x h;cases h
 |succ f ih =>
  intro i out x h;unfold jm at h;split at h
  ·split at h;·rename_i e he;cases h;exact Xy s i e he
   ·split at h;·cases h;exact (dC:1<=2)
    ·exact ih _ _ _ h
  ·cases h
theorem Qo (s:Q00) (x:Nat × Nat) (h:CH.lex s=.error x):1<=x.1:=Mrm s _ _ _ _ h
theorem Ra (s:Q00) (w:ZB) (hs:s.length<=20000) : ZE prog 49 #[↑s] w (Ret w (.bool (CH.ident s))):=by exact FD4
theorem Ro (s:Q00) (w:ZB) (hs:s.length<=20000) : ZE prog 166 #[↑s] w (Ret w (.bool (CH.ident s))):=by exact FD4
theorem Xe (s:Q00) (w:ZB) (hs:s.length<=20000) : ZE prog 238 #[↑s] w (Ret w (.bool (CH.ident s))):=by exact FD4
def I50 (w:ZB) (n:Nat) (r:ByteArray->ZC) (e:Ending) (w':ZB):Prop:=∃ b:ByteArray,e=.returned (r b)/\b.size<=n/\Below w w w'
theorem Xi (t:Int) (w:ZB):ZE prog 282 #[↑t] w (fun e w'=>e=.returned (.bool (dD t))/\w'=w):=by
 obtain⟨r,hr⟩:=nac (dD t);rw [hr.out];by_cases h0:0<=t
 ·have d0:ZH (0<=t)=true:=by simpa using h0
  go_in;go_wp2;go_ret;exact⟨by rw [<- hr.out];unfold dD;rw [d0];rfl,rfl⟩
 ·have d0:ZH (0<=t)=false:=by simpa using h0
  go_in;go_wp2;go_ret;exact⟨by rw [<- hr.out];unfold dD;rw [d0];rfl,rfl⟩
theorem I38 (n:Nat) (w:ZB) (hG:Gl w) (hn:n<=1000000000):ZE prog 283 #[↑n] w (I50 w 50 fun b=>.string b):=by have A:=Aa (Hd ((n:Int) / 10) w oM oM hG);have A2:=fun w=>Hd ((n:Int) % 10) w oM oM;go_in;go_wp2_with fail;refine CmZ A.out fun w1 hb1=>?_;have A3:=Aa (A2 w1 (hG.below hb1));clear A A2;go_wp2_with fail;refine CmZ A3.out fun w2 hb2=>?_;clear A3;have hl1:=Lib.itoa_length_le ((n:Int) / 10) oM oM;have hl2:=Lib.itoa_length_le ((n:Int) % 10) oM oM;generalize Lib.itoa ((n:Int) / 10)=l1 at *;generalize Lib.itoa ((n:Int) % 10)=l2 at *;go_wp2;go_ret;refine⟨_,rfl,?_,hb1.trans (hb2.mono hb1.size)⟩;simp [ByteArray.size];omega
theorem Ch1 (t:Int) (w:ZB) (hG:Gl w):ZE prog 236 #[↑t] w (I50 w 200 fun b=>.tuple #[.string b,.int .i64 (if dD t then 0 else 1)]):=by
 have A:=Aa (Xi t w);cases hi:dD t with
 |false =>rw [hi] at A;go_in;go_wp2_with fail;refine A.out.mono ?_;rintro e w1 ⟨rfl,rfl⟩;clear A;go_wp2;go_ret2;exact⟨_,rfl,Ak _,Ac _ _⟩
 |true =>
  rw [hi] at A;obtain⟨n,rfl,hn⟩:∃ n:Nat,t=n/\n<=144001439:=by unfold dD at hi;simp at hi;exact⟨t.toNat,oM,oM⟩
  clear hi;have A1:=Aa fun w=>Hd ((n:Int) / 1440) w oM oM;have A2:=Aa (I38 (n % 1440 / 60));have A3:=Aa (I38 (n % 60));have e2:((n % 1440 / 60:Nat):Int)=(n:Int) % 1440 / 60:=oM;have e3:((n % 60:Nat):Int)=(n:Int) % 60:=oM;rw [e2] at A2;rw [e3] at A3;clear e2 e3;go_in;go_wp2_with fail;refine A.out.mono ?_;rintro e w1 ⟨rfl,rfl⟩;clear A;go_wp2_with fail;refine CmZ (A1.out _ hG) fun w2 hb2=>?_;have hG2:=hG.below hb2;clear A1;have hl1:=Lib.itoa_length_le ((n:Int) / 1440) oM oM;generalize Lib.itoa ((n:Int) / 1440)=l1 at *;go_wp2_with fail;refine (A2.out _ hG2 oM).mono ?_;rintro e w3 ⟨b3,rfl,hs3,hb3⟩;have hG3:=hG2.below hb3;clear A2;go_wp2_with fail;refine (A3.out _ hG3 oM).mono ?_;rintro e w4 ⟨b4,rfl,hs4,hb4⟩;clear A3;go_wp2;go_ret2;refine⟨_,rfl,?_,(hb2.trans (hb3.mono hb2.size)).trans (hb4.mono (Aj hb2.size hb3.size))⟩;show (((ByteArray.mk l1.toArray++ByteArray.mk #[47])++b3++ByteArray.mk #[58])++b4).size<=200;simp only [Je];have e1:(ByteArray.mk l1.toArray).size=l1.length:=by simp [ByteArray.size]
  have e2:(ByteArray.mk #[47]).size=1:=rfl;have e3:(ByteArray.mk #[58]).size=1:=rfl;omega
theorem Ym (t:Int) (w:ZB) (hG:Gl w):ZE prog 168 #[↑t] w (Ret w (.bool (dD t))):=by
 have A:=Aa (Ch1 t w hG);go_in;go_wp2_with fail;refine A.out.mono ?_;rintro e w1 ⟨b,rfl,hs,hb⟩;clear A;cases hi:dD t with
 |false =>go_wp2;go_ret;exact⟨by rw [hi];rfl,hb⟩
 |true =>go_wp2;go_ret;exact⟨by rw [hi];rfl,hb⟩
def Bp {α:Type} [BEq α] (k:α):List (α × ZC)->Nat->Option (Nat × ZC)
 |[],_=>none
 |(a,v)::l,i=>if k==a then some (i,v) else Bp k l (i+1)
def Ly {α:Type} (emb:α->ZC) (r:Nat) (w:ZB) (kvs:List (α × ZC)):Prop := ∃ (es:Array MapEntry) (clock:Nat),w.heap[r]?=some (.map es clock)/\es.toList.map (fun e=>(e.key,e.val))=kvs.map (fun p=>(emb p.1,p.2))
theorem R5 [BEq α] (emb:α->ZC) (kind:TypeDesc) (hs:∀ a b,Instr.sameNow kind (emb a) (emb b)=some (a==b)) (k:α) : ∀ (kvs:List (α × ZC)) (es:List MapEntry) (i:Nat),es.map (fun e=>(e.key,e.val))=kvs.map (fun p=>(emb p.1,p.2))->Instr.findNow kind (emb k) es i=some (Bp k kvs i):=by
 intro kvs;induction kvs with
 |nil =>
  intro es i h;have:es=[]:=by simpa using h
  subst this;rfl
 |cons p l ih =>
  intro es i h;obtain⟨a,v⟩:=p;cases es with
  |nil=>simp at h
  |cons e es =>
   simp only [Gg,List.cons.injEq,Ib] at h;obtain⟨⟨hk,hv⟩,hr⟩:=h;rw [Instr.findNow,hk,hs,Bp];cases hb:(k==a) with
   |true=>simp [hv]
   |false=>simpa using ih es (i+1) hr
structure kG {α:Type} [BEq α] (P:Program) (K:ZJ) (emb:α->ZC) (kind:TypeDesc):Prop where
 under:P.underlying K=some kind
 same:∀ a b,Instr.sameNow kind (emb a) (emb b)=some (a==b)
 check:∀ (w:ZB) (e:Bool) (a:α),(Instr.checkKey e 10000 K (emb a)).run P w=.ok () w
theorem Dg [BEq α] {T K E:ZJ} {emb:α->ZC} (hK:kG P K emb kind) (hT:P.underlying T=some (.map K E)) (z:ZC) (hz:∀ w,(zeroValue E).run P w=.ok z w) {kvs:List (α × ZC)} (h:Ly emb r w kvs) (k:α) : (Instr.lookup T (.map (some r)) (emb k) false).run P w=.ok (((Bp k kvs 0).map (·.2)).getD z) w:=by exact FD27
theorem Rm [BEq α] {T K E:ZJ} {emb:α->ZC} (hK:kG P K emb kind) (hT:P.underlying T=some (.map K E)) (z:ZC) (hz:∀ w,(zeroValue E).run P w=.ok z w) {kvs:List (α × ZC)} (h:Ly emb r w kvs) (k:α) : (Instr.lookup T (.map (some r)) (emb k) true).run P w=.ok (.tuple #[((Bp k kvs 0).map (·.2)).getD z,.bool (Bp k kvs 0).isSome]) w:=by exact FD27
theorem Cn [BEq α] {T K E:ZJ} {emb:α->ZC} (hK:kG P K emb kind) (hT:P.underlying T=some (.map K E)) {kvs:List (α × ZC)} (h:Ly emb r w kvs) (k:α) (v:ZC) (hn:Bp k kvs 0=none) : ∃ o,(Instr.mapUpdate T (.map (some r)) (emb k) v).run P w=.ok () (w.putObj r o)/\Ly emb r (w.putObj r o) (kvs++[(k,v)]):=by
 obtain⟨es,clock,hb,hes⟩:=h;have hf:=R5 emb kind hK.same k kvs es.toList 0 hes;rw [hn] at hf;have hlt:r<w.heap.size:=(aZ hb)
 refine⟨.map (es.push { key:=emb k,val:=v,born:=clock }) (clock+1),?_,es.push { key:=emb k,val:=v,born:=clock },clock+1,World.putObj_heap_same hlt,?_⟩;·exact FD97
 ·simp [hes]
theorem Lw (emb:α->ZC) (w:ZB):Ly emb w (w.alloc (.map #[] 0)) []:=⟨#[],0,Ag _ _,rfl⟩
theorem Ly.below {emb:α->ZC} {w':ZB} {kvs:List (α × ZC)} (h:Ly emb r w kvs) (hb:Below w w w'):Ly emb r w' kvs:=by exact FD113
theorem Ly.lt {emb:α->ZC} {kvs:List (α × ZC)} (h:Ly emb r w kvs):r<w.heap.size:=by obtain⟨es,clock,h1,_⟩:=h;exact (aZ h1)
theorem Bn {w1:ZB} {B:Nat} (h:Below B w w1) (hr:B<=r) (o:Obj):Below B w (w1.putObj r o) := ⟨h.os,h.tape,h.output,by simp [World.putObj];exact h.size,fun k hk=>by rw [World.putObj_heap_other oM];exact h.block k hk⟩
theorem Kc:kG prog 9 ay .string where
 under:=underlying9
 same a b:=by
  show some ((⟨a.toArray⟩:ByteArray)==⟨b.toArray⟩)=_
  rw [Fr]
 check w e a:=MapKept.run_checkKey underlying9 (by trivial) e 9999
abbrev aI (n:Int):ZC:=↑n
theorem Wo:kG prog 3 aI (.int .i64) where
 under:=underlying3
 same a b:=by simp [Instr.sameNow]
 check w e a:=MapKept.run_checkKey underlying3 (by trivial) e 9999
end
end Go.Proofs.Y
namespace CH
theorem Ux (ls:List Str) (x:Str):Nw (ls++[x])=(Nw ls&&!ls.contains x):=by
 induction ls with
 |nil=>rfl
 |cons y l ih =>
  rw [D6,Nw,Nw,ih];have e1:(l++[x]).contains y=(l.contains y||y==x):=by rw [Fv];simp
  have e2:(y::l).contains x=(x==y||l.contains x):=by rw [Fv];simp
  have e3:(x==y)=(y==x):=by rw [Fv];simp;exact⟨fun h=>h.symm,fun h=>h.symm⟩
  rw [e1,e2,e3];cases l.contains y <;> cases Nw l <;> cases l.contains x <;> cases (y==x) <;> rfl
theorem nX (ls:List Str) (x:Str):bF (ls++[x])=(bF ls&&(isName x&&!ls.contains x)):=by unfold bF;rw [Ju,Ux];simp only [Nu,Oq,Og];cases ls.all isName <;> cases Nw ls <;> cases isName x <;> rfl
theorem Aaa (l1 l2:List Str) (h:bF (l1++l2)=true):bF l1=true:=by
 induction l2 generalizing l1 with
 |nil=>simpa using h
 |cons x l ih =>have:=ih (l1++[x]) (by simpa using h);rw [nX] at this;simp at this;exact this.1
theorem tC (ls:List Str) (k:Nat) (h:bF (ls.take k)=false):bF ls=false:=by
 cases hb:bF ls with
 |false=>rfl
 |true =>rw [<- Fb k ls] at hb;rw [Aaa _ _ hb] at h;cases h
end CH
namespace Go.Proofs.Y
open Go.RowKit Go.Lib Go.Shelf Go.Sort CH
theorem Hno (n m:Int) (w:ZB):ZE Tryz.prog 112 #[↑n,↑m] w (fun e w'=>e=.returned (.bool (CH.within n m))/\w'=w):=by obtain⟨r,hr⟩:=nac (CH.within n m);exact FD20
abbrev CS (r:Nat) (w:ZB) (ks:List Q00):Prop:=Ly ay r w (ks.map fun l=>(l,.bool true))
theorem Wt (l:Q00):∀ (ks:List Q00) (i:Nat),((Bp l (ks.map fun l=>(l,Value.bool true)) i).map (·.2)).getD (.bool false)=.bool (ks.contains l)/\((Bp l (ks.map fun l=>(l,Value.bool true)) i).isSome=ks.contains l):=by
 intro ks;induction ks with
 |nil=>intro i;exact⟨rfl,rfl⟩
 |cons x ks ih =>
  intro i;rw [Gg,Bp,List.contains_cons];cases h:(l==x) with
  |true=>simp
  |false=>simpa using ih (i+1)
theorem Zr {P:Program} {E:ZJ} {z:ZC} (h:(P.info? E).bind (·.zero)=some z) (w:ZB):(zeroValue E).run P w=.ok z w:=by
 cases hq:P.info? E with
 |none=>simp [hq] at h
 |some i =>simp [hq] at h;simp [zeroValue,typeInfo,hq,h,Result.andThen]
theorem Z6 (w:ZB):(zeroValue 4).run Tryz.prog w=.ok (.bool false) w:=Zr kR w
theorem Crs (v:ZC) (ls:List Q00) (w:ZB) (hv:Strs w w v ls) (hl:ls.length<=100000) (hll:∀ l∈ls,l.length<=100000) : ZE Tryz.prog 110 #[v] w (Ret w (.bool (bF ls))):=by
 obtain⟨a,cap,rfl,hc1,hc2,hcell⟩:=hv;have hmm:=@Hz Tryz.prog;generalize hn:ls.length=n at *;go_in;go_wp2_with fail;clear hmm;have hM0:=Lw ay w;have hb0:=(Ac _ w).alloc nR (.map #[] 0);generalize hw0:w.alloc (.map #[] 0)=w0 at *;go_loopw [9] (fun iv wr=>∃ k:Nat,k<=n/\iv=↑k/\Hid (bF (ls.take k)=true)/\CS w wr (ls.take k)/\Below w w wr) (fun iv _=>n - (ZG iv).toNat);case atStart=>exact⟨0,Ak _,rfl,Aa rfl,hM0,hb0⟩
 case round =>
  obtain⟨k,hk,rfl,hu,hM,hb⟩:=hrel;by_cases hlt:k<n
  ·obtain⟨x,hx⟩:∃ x,ls[k]?=some x:=⟨_,Ae oM⟩
   have hxl:=hll x (Bg hx);obtain⟨b,off,rfl,hblt,hcs⟩:=hcell (fun e=>by rw [e] at hn;simp at hn;omega);have hck:=(hb.cell (p:=⟨b,off+k,none⟩) hblt).trans (hcs k x hx);have hts:ls.take (k+1)=ls.take k++[x]:=by rw [Ip,hx];rfl
   have hno:bF (ls.take (k+1))=(CH.isName x&&!(ls.take k).contains x):=by rw [hts,nX,hu.out];rfl
   have A:=Aa (Xx x wr oM);have hlk:=Dg Kc Tryz.underlying183 (.bool false) Z6 hM x;rw [(Wt x (ls.take k) 0).1] at hlk;have hko:((ls.take k).map fun l=>(l,Value.bool true))++[(x,.bool true)]=(ls.take (k+1)).map fun l=>(l,Value.bool true):=by rw [hts,Gi];rfl
   have hup:=fun (h:(ls.take k).contains x=false)=>Cn Kc Tryz.underlying183 hM x (.bool true) (by
    cases hq:Bp x ((ls.take k).map fun l=>(l,Value.bool true)) 0 with
    |none=>rfl
    |some p =>have:=(Wt x (ls.take k) 0).2;rw [hq,h] at this;cases this)
   rw [hko] at hup;have HN:=Aa hno;have HU:=Aa hup;have HT:=Aa (tC ls (k+1));have HF:=Aa hcell;have HC:=Aa hcs;have HA:=Aa hll;clear hno hup hts hko hcell hcs hll hx;cases hin:CH.isName x with
   |false =>rw [hin] at A;have hr':bF ls=false:=HT.out (by rw [HN.out,hin];rfl);exact FD114
   |true =>
    rw [hin] at A;cases hct:(ls.take k).contains x with
    |true =>have hr':bF ls=false:=HT.out (by rw [HN.out,hin,hct];rfl);rw [hct] at hlk;exact FD114
    |false =>
     have hr':bF (ls.take (k+1))=true:=by rw [HN.out,hin,hct];rfl
     have HR:=Aa hr';rw [hct] at hlk;obtain⟨o,ho,hM'⟩:=HU.out hct;clear hr' HN HT HU;go_wp2_with fail;refine A.out.mono ?_;rintro e w1 ⟨rfl,rfl⟩;clear A;go_wp2;go_roundw;case rel=>exact⟨k+1,oM,by go_num,HR,hM',Bn hb nR _⟩
     case measure=>simp [ZG];omega
  ·have e:k=n:=oM;subst e;have hr':bF ls=true:=by rw [<- hu.out,<- hn,D5]
   exact FD45
end Go.Proofs.Y
namespace Go.Proofs.Y
section
open Go.Lib Go.Proofs.Tryz Go.RowKit Go.Shelf Go.Sort CH
def MS (B:Nat) (w:ZB) (cs:List ZC) (l:fV):Prop := ∃ vm vp,cs=[ay l.id,vm,vp,aI l.quota,aI l.uses,aI l.start,aI l.aF]/\Strs B w vm l.measures/\Strs B w vp l.aO
def Er (ls:List Q00):Prop:=ls.length<=100000/\∀ l∈ls,l.length<=20000
theorem Strs.form {B:Nat} {w:ZB} {v:ZC} {ls:List Q00} (h:Strs B w v ls):∃ a cap,v=.slice a ls.length cap/\ls.length<=cap/\cap<=9223372036854775807:=by exact FD72
theorem Err (cs:List ZC) (l:fV) (w:ZB) (hl:MS w w cs l) (hid:l.id.length<=20000) (hm:Er l.measures) (hp:Er l.aO) : ZE prog 47 #[.agg cs.toArray] w (Ret w (.bool (aW l))):=by
 obtain⟨vm,vp,rfl,hvm,hvp⟩:=hl;obtain⟨r,hr⟩:=nac (aW l);rw [hr.out];obtain⟨am,cm,rfl,_,_⟩:=hvm.form;obtain⟨ap,cp,rfl,_,_⟩:=hvp.form;have hb0:=fun o=>(Ac _ w).alloc nR o;have A1:=Aa fun o=>Crs _ l.measures (w.alloc o) ((hvm.below (hb0 o) nR).mono (hb0 o).size) hm.1 (fun x hx=>Aj (hm.2 x hx) dC);have A2:=Aa fun (w1:ZB) (hb:Below w w w1)=>Crs _ l.aO w1 ((hvp.below hb nR).mono hb.size) hp.1 (fun x hx=>Aj (hp.2 x hx) dC);have A3:=Aa fun (w1:ZB)=>Xx l.id w1 oM;have W:=Aa fun (n m:Int) (w1:ZB)=>Hno n m w1;generalize hnm:l.measures.length=nm at *;generalize hnp:l.aO.length=np at *;go_in;go_wp2_with fail;refine CmZ (A1.out _) fun w1 hb1=>?_;have hblk1:=(hb1.block w sM).trans (Ag w _);have hB1:Below w w w1:=(hb0 _).trans (hb1.mono sM);have hlt1:w.heap.size<w1.heap.size:=(aZ hblk1)
 clear hb1 A1 hb0;have NZ:w1.cell? ⟨w,0,none⟩=some (ay l.id):=Ab hblk1 0;have NY:w1.cell? ⟨w,1,none⟩=some (.slice am nm cm):=Ab hblk1 1;have NW:w1.cell? ⟨w,2,none⟩=some (.slice ap np cp):=Ab hblk1 2;have NS:w1.cell? ⟨w,3,none⟩=some (aI l.quota):=Ab hblk1 3;have NR:w1.cell? ⟨w,4,none⟩=some (aI l.uses):=Ab hblk1 4;have NQ:w1.cell? ⟨w,5,none⟩=some (aI l.start):=Ab hblk1 5;have NP:w1.cell? ⟨w,6,none⟩=some (aI l.aF):=Ab hblk1 6;cases h1:bF l.measures with
 |false =>
  clear A2;have HL:Hid ((bF l.measures&&bF l.aO&&(ZH (0<l.measures.length)&&ZH (l.measures.length<=12)&&ZH (l.aO.length<=60)))=false):=Aa (by rw [h1];rfl);go_wp2_with fail;cases hi:CH.isName l.id with
  |false =>have A:=A3.out w1;rw [hi] at A;replace A:=Aa A;clear A3 W;refine CmZ (A.out) fun w9 hw9=>?_;rw [hw9];clear hw9 w9;clear A;go_wp2;go_ret;exact⟨by rw [<- hr.out];simp [aW,hi],hB1⟩
  |true =>have A:=A3.out w1;rw [hi] at A;replace A:=Aa A;clear A3;refine CmZ (A.out) fun w9 hw9=>?_;rw [hw9];clear hw9 w9;clear A;clear W;go_wp2;go_ret;exact⟨by rw [<- hr.out];simp [aW,hi,HL.out],hB1⟩
 |true =>
  go_wp2_with fail;refine CmZ (A2.out w1 hB1) fun w2 hb2=>?_;have hblk2:=(hb2.block w hlt1).trans hblk1;have hB2:Below w w w2:=hB1.trans (hb2.mono hB1.size);clear hb2 A2 NZ NY NW NS NR NQ NP;have TG:w2.cell? ⟨w,0,none⟩=some (ay l.id):=Ab hblk2 0;have TF:w2.cell? ⟨w,1,none⟩=some (.slice am nm cm):=Ab hblk2 1;have TD:w2.cell? ⟨w,2,none⟩=some (.slice ap np cp):=Ab hblk2 2;have TA:w2.cell? ⟨w,3,none⟩=some (aI l.quota):=Ab hblk2 3;have SY:w2.cell? ⟨w,4,none⟩=some (aI l.uses):=Ab hblk2 4;have SQ:w2.cell? ⟨w,5,none⟩=some (aI l.start):=Ab hblk2 5;have SN:w2.cell? ⟨w,6,none⟩=some (aI l.aF):=Ab hblk2 6;cases h2:bF l.aO with
  |false =>have HL:Hid ((bF l.measures&&bF l.aO&&(ZH (0<l.measures.length)&&ZH (l.measures.length<=12)&&ZH (l.aO.length<=60)))=false):=Aa (by rw [h1,h2];rfl);exact FD9
  |true =>
   by_cases h3:0<nm
   ·have d3:=nai ((0:Int)<(nm:Int));by_cases h4:nm<=12
    ·have d4:=nai ((nm:Int)<=(12:Int));by_cases h5:np<=60
     ·have d5:=nai ((np:Int)<=(60:Int));have HL:Hid ((bF l.measures&&bF l.aO&&(ZH (0<l.measures.length)&&ZH (l.measures.length<=12)&&ZH (l.aO.length<=60)))=true):=Aa (by rw [h1,h2,hnm,hnp,Di h3,Di h4,Di h5];rfl);go_wp2_with fail;cases hi:CH.isName l.id with
      |false =>exact FD52
      |true =>
       have A:=A3.out w2;rw [hi] at A;replace A:=Aa A;clear A3;refine CmZ (A.out) fun w9 hw9=>?_;rw [hw9];clear hw9 w9;clear A;cases hw0:CH.within l.quota 1000000000 with
       |false =>have A:=W.out l.quota 1000000000 w2;rw [hw0] at A;replace A:=Aa A;clear W;go_wp2_with fail;refine CmZ (A.out) fun w9 hw9=>?_;rw [hw9];clear hw9 w9;clear A;go_wp2;go_ret;exact⟨by rw [<- hr.out];simp [aW,hi,HL.out,hw0],hB2⟩
       |true =>
        have A:=W.out l.quota 1000000000 w2;rw [hw0] at A;replace A:=Aa A;go_wp2_with fail;refine CmZ (A.out) fun w9 hw9=>?_;rw [hw9];clear hw9 w9;clear A;cases hw1:CH.within l.uses 1000 with
        |false =>have A:=W.out l.uses 1000 w2;rw [hw1] at A;replace A:=Aa A;clear W;go_wp2_with fail;refine CmZ (A.out) fun w9 hw9=>?_;rw [hw9];clear hw9 w9;clear A;go_wp2;go_ret;exact⟨by rw [<- hr.out];simp [aW,hi,HL.out,hw0,hw1],hB2⟩
        |true =>
         have A:=W.out l.uses 1000 w2;rw [hw1] at A;replace A:=Aa A;go_wp2_with fail;refine CmZ (A.out) fun w9 hw9=>?_;rw [hw9];clear hw9 w9;clear A;cases hw2:CH.within l.start 144001439 with
         |false =>have A:=W.out l.start 144001439 w2;rw [hw2] at A;replace A:=Aa A;clear W;go_wp2_with fail;refine CmZ (A.out) fun w9 hw9=>?_;rw [hw9];clear hw9 w9;clear A;go_wp2;go_ret;exact⟨by rw [<- hr.out];simp [aW,hi,HL.out,hw0,hw1,hw2],hB2⟩
         |true =>
          have A:=W.out l.start 144001439 w2;rw [hw2] at A;replace A:=Aa A;go_wp2_with fail;refine CmZ (A.out) fun w9 hw9=>?_;rw [hw9];clear hw9 w9;clear A;cases hw3:CH.within l.aF 144001439 with
          |false =>have A:=W.out l.aF 144001439 w2;rw [hw3] at A;replace A:=Aa A;clear W;go_wp2_with fail;refine CmZ (A.out) fun w9 hw9=>?_;rw [hw9];clear hw9 w9;clear A;go_wp2;go_ret;exact⟨by rw [<- hr.out];simp [aW,hi,HL.out,hw0,hw1,hw2,hw3],hB2⟩
          |true =>have A:=W.out l.aF 144001439 w2;rw [hw3] at A;replace A:=Aa A;go_wp2_with fail;refine CmZ (A.out) fun w9 hw9=>?_;rw [hw9];clear hw9 w9;clear A;go_wp2;go_ret;refine⟨?_,hB2⟩;rw [<- hr.out];simp [aW,hi,HL.out,hw0,hw1,hw2,hw3]
     ·have d5:=naj ((np:Int)<=(60:Int));have HL:Hid ((bF l.measures&&bF l.aO&&(ZH (0<l.measures.length)&&ZH (l.measures.length<=12)&&ZH (l.aO.length<=60)))=false):=Aa (by rw [h1,h2,hnp,Cj h5];simp);exact FD9
    ·have d4:=naj ((nm:Int)<=(12:Int));have HL:Hid ((bF l.measures&&bF l.aO&&(ZH (0<l.measures.length)&&ZH (l.measures.length<=12)&&ZH (l.aO.length<=60)))=false):=Aa (by rw [h1,h2,hnm,Cj h4];simp);exact FD9
   ·have d3:=naj ((0:Int)<(nm:Int));have HL:Hid ((bF l.measures&&bF l.aO&&(ZH (0<l.measures.length)&&ZH (l.measures.length<=12)&&ZH (l.aO.length<=60)))=false):=Aa (by rw [h1,h2,hnm,Cj h3];simp);exact FD9
end
end Go.Proofs.Y
