/- ChainMatch, part 4 of 26. -/
import Derived.Test.YtajmjabodcmonaaGreatDoorP02
import Derived.RangeFuncRecord
set_option linter.all false
set_option maxHeartbeats 40000000
set_option maxRecDepth 100000
open Go renaming undef -> ZA, World -> ZB, Value -> ZC, Calls -> ZE, TypeId -> ZJ
open Go.RowKit renaming intOf -> ZG
open Decidable renaming decide -> ZH
namespace Go.Proofs.Y
section
open Go.Lib Go.Proofs.Tryz Go.RowKit Go.Shelf Go.Sort CH
variable {P:Program} {w:ZB}
set_option maxRecDepth 1000000 in
theorem Yi (r:Int) (w:ZB) (h0:128<=r) (h1:r<=1114111) : ZE prog 303 #[.string ⟨#[34,10]⟩,.int .i32 r] w (Ret w (.int .i64 (-1))):=by
 by_cases he:r=65533
 ·subst he;go_enter func303,ntmps303;go_wp2_with fail;go_loopg [5,6] 2 (fun g _ _ wx=>∃ i:Nat,i+g=2/\wx=w.iter ⟨#[34,10]⟩ i);case atStart=>exact⟨0,rfl,rfl⟩
  case round =>
   obtain⟨i,hig,rfl⟩:=hrel;rcases gk with _|_|_|g;·obtain rfl:i=2:=oM;have hnx:=fun ty=>run_next_end (P:=prog) w ⟨#[34,10]⟩ 2 ty dC;go_wp2;go_ret;exact⟨rfl,(Ac _ _).alloc nR _⟩
   ·obtain rfl:i=1:=oM;have hnx:=fun ty=>run_next_ascii (P:=prog) w ⟨#[34,10]⟩ 1 ty dC dC;go_wp2;go_roundg 0;case measure=>omega
    case rel=>exact⟨2,oM,rfl⟩
   ·obtain rfl:i=0:=oM;have hnx:=fun ty=>run_next_ascii (P:=prog) w ⟨#[34,10]⟩ 0 ty dC dC;go_wp2;go_roundg 1;case measure=>omega
    case rel=>exact⟨1,oM,rfl⟩
   ·omega
 ·have V:=Tryz.utf8_ValidRune r w;obtain⟨v,hv⟩:∃ v,Lib.validRune r=v:=⟨_,rfl⟩
  rw [hv] at V;have hb1:(r==65533)=false:=by simpa using he
  have hb2:ZH (r<128)=false:=by simp;omega
  cases v with
  |false =>clear hv;go_enter func303,ntmps303;go_wp2_with fail;refine CmZ V fun w' hw=>?_;rw [hw];clear V hw;exact FD30
  |true =>
   clear hv;go_enter func303,ntmps303;go_wp2_with fail;refine CmZ V fun w' hw=>?_;rw [hw];clear V hw;by_cases hlt:r<2048
   ·have hen:Utf8.encode r=⟨#[UInt8.ofNat (192+r.toNat / 64),UInt8.ofNat (128+r.toNat % 64)]⟩:=by
     have hval:Utf8.valid r=true:=by simp [Utf8.valid];omega
     unfold Utf8.encode;simp only [hval,Nz];rw [Ai oM,Au oM]
    generalize UInt8.ofNat (192+r.toNat / 64)=b1 at hen;obtain⟨b2,hb2'⟩:∃ b2,UInt8.ofNat (128+r.toNat % 64)=b2:=⟨_,rfl⟩
    have hb3:128<=b2.toNat:=by rw [<- hb2'];simp [UInt8.toNat_ofNat'];omega
    rw [hb2'] at hen;clear hb2';have hne:((10:Int) != (b2.toNat:Int))=true:=by simp;omega
    go_wp2_with fail;go_step3;go_wp2_with fail;go_loopg [9] 0 (fun g v wx=>wx=w/\v=.int .i64 1);case atStart=>exact⟨rfl,rfl⟩
    case round =>
     obtain⟨rfl,rfl⟩:=hrel;go_wp2_with fail;go_step3;go_wp2_with fail;have hx1:∀ h,(⟨#[34,10]⟩:ByteArray)[1]'h=10:=fun _=>rfl;have hx2:∀ h,(⟨#[b1,b2]⟩:ByteArray)[1]'h=b2:=fun _=>rfl;refine Ar kR kR ?_;repeat (quiet_step (fail))
     refine Bv ?_;intro wq hbq;replace hbq:=An hbq;go_wp2_with fail;have hw2:IntKind.i64.wrap 2=2:=dC;have EH:=hbq;clear hbq;generalize wq=wq1 at *;have IB:∀ (W:ZB),ZE prog 150 #[.string ⟨#[]⟩,.int .u8 (b2.toNat:Int)] W (fun e w'=>e=.returned (.int .i64 (-1))/\Below W W w'):=fun W=>(Tryz.strings_IndexByte ⟨#[]⟩ (b2.toNat:Int) W).mono fun e w' ⟨h1,h2⟩=>⟨h1,h2 ▸ Ac _ _⟩
     refine Ar kR kR ?_;repeat (quiet_step (exact Bc (IB _)))
     refine Bv ?_;intro wq hbq;replace hbq:=An hbq;go_wp2_with fail;rw [Exit.noGoto_ret];go_wp2_with fail;rw [Exit.noGoto_ret];go_ret;exact⟨rfl,EH.trans (hbq.mono EH.size)⟩
   ·obtain⟨E,hE⟩:∃ E,Utf8.encode r=E:=⟨_,rfl⟩
    have hE3:3<=E.size/\E.size<=4:=by
     rw [<- hE];unfold Utf8.encode;cases hv:Utf8.valid r;·exact (dC:3<=(Utf8.encode (-1)).size/\(Utf8.encode (-1)).size<=4)
     ·simp only [Nz];rw [Ai oM,Ai oM];split;·exact⟨Bg 3,show 3<=4 by omega⟩
      ·exact⟨show 3<=4 by omega,Bg 4⟩
    have hE':=Aa hE;go_wp2_with fail;go_step3;go_wp2_with fail;go_loopg [9] 0 (fun g v wx=>wx=w/\v=.int .i64 ((E.size:Int) - 1));case atStart=>exact⟨rfl,rfl⟩
    case round =>obtain⟨rfl,rfl⟩:=hrel;go_wp2_with fail;rw [Exit.noGoto_ret];go_ret;exact⟨rfl,Ac _ _⟩
theorem I53 (s:ByteArray) (k:Nat) (h:k<s.size):s.get! k=s[k]'h:=by simp [ByteArray.get!,getElem!_pos,h];rfl
theorem Glq (s:ByteArray) (i:Nat) (h:i<s.size) (h128:128<=(s[i]'h).toNat) : 128<=(Utf8.decode s i).1/\(Utf8.decode s i).1<=1114111/\1<=(Utf8.decode s i).2/\i+(Utf8.decode s i).2<=s.size/\∀ j,i<=j->j<i+(Utf8.decode s i).2->128<=(s.get! j).toNat:=by
 have g0:128<=(s.get! i).toNat:=by rw [I53 s i h];exact h128
 have one:∀ (r:Nat),128<=r->r<=1114111->128<=(r,1).1/\(r,1).1<=1114111/\1<=(r,1).2/\i+(r,1).2<=s.size/\∀ j,i<=j->j<i+(r,1).2->128<=(s.get! j).toNat:=fun r h1 h2 =>⟨h1,h2,Bg _,h,fun j hj1 hj2=>by have e:j=i:=(by dsimp only at hj2;omega);subst e;exact g0⟩
 have b0:=(s.get! i).toNat_lt;unfold Utf8.decode;simp only [Ia,Utf8.runeError];rw [Ai oM];split
 ·rename_i hc;simp only [Ba,Bq,Eb] at hc;obtain⟨hb,hl1,hc1⟩:=hc;split
  ·refine⟨oM,oM,oM,oM,fun j hj1 hj2=>?_⟩;rcases (oM:j=i\/j=i+1) with rfl|rfl;·exact g0
   ·omega
  ·exact one _ dC dC
 ·split
  ·rename_i hc;simp only [Ba,Bq,Eb] at hc;obtain⟨⟨hb,hl1,hc1⟩,hl2,hc2⟩:=hc;split
   ·refine⟨by simp_all;omega,oM,oM,oM,fun j hj1 hj2=>?_⟩;rcases (oM:j=i\/j=i+1\/j=i+2) with rfl|rfl|rfl;·exact g0
    ·omega
    ·omega
   ·exact one _ dC dC
  ·split
   ·rename_i hc;simp only [Ba,Bq,Eb] at hc;obtain⟨⟨⟨hb,hl1,hc1⟩,hl2,hc2⟩,hl3,hc3⟩:=hc;split
    ·rename_i hv;simp only [Ba,Bq,Utf8.valid,Ec] at hv;refine⟨oM,oM,oM,oM,fun j hj1 hj2=>?_⟩;rcases (oM:j=i\/j=i+1\/j=i+2\/j=i+3) with rfl|rfl|rfl|rfl;·exact g0
     ·omega
     ·omega
     ·omega
    ·exact one _ dC dC
   ·exact one _ dC dC
theorem run_next_at {B:Nat} {s:ByteArray} {pos:Nat} (hB:w.heap[B]?=some (.stringIter s pos)) (ty:ZJ) (h:pos<s.size) : (Instr.next (.pointer (some ⟨B,0,none⟩)) true ty).run P w = .ok (.tuple #[.bool true,↑pos,.int .i32 (Utf8.decode s pos).1]) (w.putObj B (.stringIter s (pos+(Utf8.decode s pos).2))):=by simp [Instr.next,getObj,setObj,Sem.run,hB,Result.andThen,h,goInt,World.putObj]
theorem Vk {B:Nat} {s:ByteArray} {pos:Nat} (hB:w.heap[B]?=some (.stringIter s pos)) (ty:ZJ) (h:¬ pos<s.size) : (Instr.next (.pointer (some ⟨B,0,none⟩)) true ty).run P w=.ok (.tuple #[.bool false]) w:=by simp [Instr.next,getObj,Sem.run,hB,h]
theorem Acq {w1:ZB} {B r:Nat} (h:Below B w w1) (hr:B<=r) (o:Obj):Below B w (w1.putObj r o) := ⟨h.os,h.tape,h.output,by simp [World.putObj];exact h.size,fun k hk=>by rw [World.putObj_heap_other oM];exact h.block k hk⟩
def Q1e (s:ByteArray) (w:ZB) (g:Nat) (wx:ZB):Prop := ∃ i:Nat,s.size<=i+g/\i<=s.size/\Below w w wx/\wx.heap[w.heap.size]?=some (.stringIter s i)/\Lib.NoAny s.data.toList [34,10] i
set_option maxRecDepth 1000000 in
theorem Yk (s:ByteArray) (w:ZB) (h8:s.size<=8) : ZE prog 251 #[.string s,.string ⟨#[34,10]⟩] w (Ret w (.int .i64 (Lib.indexAny s.data.toList [34,10]))):=by
 have h8z:ZH ((8:Int)<(s.size:Int))=false:=Ak oM;have SA:=fun (n:Int) (W:ZB)=>Any.strings_shouldUseASCIISet (P:=prog) (ρ:=Tryz.lays153_ren) { lays153 with } n W;have HI:=fun (r:Int) (W:ZB)=>Yi r W;have HI:=Aa HI;have HA:=Aa fun (r:Int) (W:ZB)=>Tryz.strings_IndexRune_ascii ⟨#[34,10]⟩ r W;have SA:=Aa SA;obtain⟨R,hR⟩:∃ R,Hid (Lib.indexAny s.data.toList [34,10]=R):=⟨_,Aa rfl⟩
 rw [hR.out];go_enter func251,ntmps251;go_wp2_with fail;refine CmZ (SA.out _ _) fun w' hw=>?_;rw [hw,h8z];clear hw SA;go_wp2_with fail;go_loopg [9,10] s.size (fun g _ _ wx=>Q1e s w g wx);case atStart=>exact⟨0,oM,oM,(Ac _ _).alloc nR _,World.iter_heap w s 0,Lib.NoAny.zero _ _⟩
 case round =>
  obtain⟨i,hig,hile,hb,hit,hno⟩:=hrel;have HN:=Aa hno;have Hit:=Aa hit;have hsz:w.heap.size<wr.heap.size:=(aZ hit)
  clear hno;by_cases hi:i<s.size
  ·cases gk with
   |zero=>omega
   |succ g =>
    have hnx:=fun ty=>run_next_at (P:=prog) hit ty hi;have hbp:=fun o=>Acq hb (Bg w) o;have hip:=fun o=>World.putObj_heap_same (w:=wr) (o:=o) hsz;obtain⟨x,hx⟩:∃ x:UInt8,s[i]'hi=x:=⟨_,rfl⟩
    have Hx:Hid (s.data.toList[i]?=some x):=Aa (by rw [<- hx];exact Lib.data_getElem? s i hi);by_cases hx1:x.toNat<128
    ·have hd:=decode_ascii s i hi (by rw [hx];exact hx1);rw [hd,hx] at hnx;dsimp only at hnx;have hcon:=Lib.contains_iff_indexByte [34,10] x;have hback:((x.toNat:Int)).toNat.toUInt8=x:=sM;clear hit hd hx;cases hin:List.contains [34,10] x with
     |false =>
      rw [hin] at hcon;have hlt:ZH ((0:Int)<=Lib.indexByte [34,10] x)=false:=hcon.symm;clear hcon;go_wp2_with fail;refine CmZ (HA.out _ _ oM oM) fun w' hw=>?_;rw [hw,hback];clear hw;go_wp2;go_roundg g;case measure=>omega
      case rel=>exact⟨i+1,oM,oM,hbp _,hip _,HN.out.succ Hx.out hin⟩
     |true =>rw [hin] at hcon;have hlt:ZH ((0:Int)<=Lib.indexByte [34,10] x)=true:=hcon.symm;clear hcon;go_wp2_with fail;refine CmZ (HA.out _ _ oM oM) fun w' hw=>?_;rw [hw,hback];clear hw;go_wp2;go_ret;exact⟨O0 (by rw [<- hR.out,Lib.indexAny_hit HN.out Hx.out hin]),hbp _⟩
    ·have hd:=Glq s i hi (by rw [hx];omega);obtain⟨d1,hd1⟩:∃ d,(Utf8.decode s i).1=d:=⟨_,rfl⟩
     obtain⟨d2,hd2⟩:∃ d,(Utf8.decode s i).2=d:=⟨_,rfl⟩
     rw [hd1,hd2] at hnx;rw [hd1,hd2] at hd;obtain⟨e1,e2,e3,e4,e5⟩:=hd;have HN2:Hid (Lib.NoAny s.data.toList [34,10] (i+d2)):=Aa fun j b hj hb'=>by
      by_cases hji:j<i;·exact HN.out j b hji hb'
      ·have h1:=e5 j oM hj;have h2:j<s.size:=oM;rw [I53 s j h2] at h1;rw [Lib.data_getElem? s j h2] at hb';cases hb';generalize s[j]=c at h1;simp only [Je,Bl,Ci,Et,Dc];rintro (rfl|rfl) <;> exact absurd h1 dC
     clear hit hx hd1 hd2 e5 Hx;go_wp2_with fail;refine CmZ (HI.out _ _ oM oM) fun w1 hb1=>?_;have hB2:Below w w w1:=(hbp _).trans (hb1.mono (hbp _).size);have hI2:=(hb1.block w (by simp [World.putObj];exact hsz)).trans (hip _);clear hnx hbp hip;go_wp2;go_roundg g;case measure=>omega
     case rel=>exact⟨i+d2,oM,oM,hB2,hI2,HN2.out⟩
  ·obtain rfl:i=s.size:=oM;have hnx:=fun ty=>Vk (P:=prog) hit ty hi;clear hit;go_wp2;go_ret;exact⟨O0 (by rw [<- hR.out,Lib.indexAny_none (by rw [<- Lib.size_eq];exact HN.out)]),hb⟩
theorem C65 (s:Q00) (w:ZB) (hs:s.length<=1000000) : ZE prog 251 #[↑s,.string ⟨#[34,10]⟩] w (Ret w (.int .i64 (Lib.indexAny s [34,10]))):=by
 have hz:(⟨s.toArray⟩:ByteArray).size=s.length:=by simp [ByteArray.size]
 by_cases h8:s.length<=8;·have:=Yk ⟨s.toArray⟩ w oM;exact FD159
 ·have:=Tryz.strings_IndexAny_long (fun w=>by kernel_rfl) ⟨s.toArray⟩ ⟨#[34,10]⟩ w dC oM oM dC (fun j b hj=>by
   rcases j with _|_|j;·cases hj;decide
   ·cases hj;decide
   ·simp at hj)
  refine this.mono fun e w' ⟨h1,h2⟩=>⟨by simpa using h1,?_⟩
  rw [h2];exact ((Ac _ _).alloc nR _).alloc sM _
def BP (t:CH.Tok):ZC:=.agg #[↑t.kind,↑t.pos,↑t.n,↑t.text]
def uq:Except Nat (CH.Tok × Nat)->ZC
 |.error e=>.tuple #[.agg #[.int .i64 0,.int .i64 0,.int .i64 0,.string ⟨#[]⟩],.int .i64 0,↑e]
 |.ok (t,j)=>.tuple #[BP t,↑j,.int .i64 0]
theorem Ggq:∀ l:Q00,Lib.indexAny l [34,10]=match l.findIdx? (fun c=>c==34||c==10) with|none=>-1|some n=>(n:Int):=by
 intro l;induction l with
 |nil=>rfl
 |cons b l ih =>
  rw [Lib.indexAny,List.findIdx?_cons,ih];have e:[34,10].contains b=(b==34||b==10):=by rw [Es];simp
  rw [e];by_cases h:(b==34||b==10)=true;·simp [h]
  ·cases hf:l.findIdx? (fun c=>c==34||c==10) with
   |none=>simp [h]
   |some n =>have:¬ ((n:Int) = -1):=oM;simp [h,this]
theorem I27:∀ (l:Q00) (acc:Nat),(∀ c∈l,CH.cls c=4)->Lib.decFrom acc l=some (l.foldl (fun n c=>n*10+(c.toNat - 48)) acc):=by
 intro l;induction l with
 |nil=>intro acc _;rfl
 |cons c l ih =>intro acc h;have hc:=rZ c (h c sM);rw [Lib.decFrom,Lib.digitVal,Au hc];exact ih _ fun x hx=>h x (by simp [hx])
theorem G64 (l:Q00) (h:∀ c∈l,CH.cls c=4) (hne:l≠[]):Lib.atoi l=some (CH.dec l:Int):=by
 cases l with
 |nil=>exact absurd rfl hne
 |cons b r =>
  have hb:=rZ b (h b sM);have h1:(b==45)=false:=by rw [CH.beq_toNat];simp;omega
  have h2:(b==43)=false:=by rw [CH.beq_toNat];simp;omega
  rw [Lib.atoi,h1,h2];show (Lib.decNat (b::r)).map _=_;unfold Lib.decNat;rw [I27 _ 0 h];rfl
theorem Qw {fn:Func} {p u v:Tmp} {ty:ZJ} (h:fn.results=#[.cell p ty,.tmp u,.tmp v]) (tmps:Array ZC) (w:ZB) (a:Addr) (x:ZC) (hp:tmps.getD p ZA=.pointer (some a)) (hl:(loadVar ty a).run P w=.ok x w):(results fn tmps).run P w=.ok (.tuple #[x,tmps.getD u ZA,tmps.getD v ZA]) w:=by
 simp only [results,h];have hp':tmps[p]?.getD ZA=.pointer (some a):=by simpa using hp
 simp [asAddr];rw [hp'];simp [Result.andThen,hl]
theorem M3 {g:Nat} (h:w.heap[g]?=some (.cells #[.int .i64 0,.int .i64 0,.int .i64 0,.string ⟨#[]⟩] 182 (0,0))) : w.there g 0 4/\w.cell? ⟨g,0,none⟩=some (.int .i64 0)/\w.cell? ⟨g,1,none⟩=some (.int .i64 0)/\w.cell? ⟨g,2,none⟩=some (.int .i64 0)/\w.cell? ⟨g,3,none⟩=some (.string ⟨#[]⟩) /\ w.frozen? ⟨g,0,none⟩=false/\w.frozen? ⟨g,1,none⟩=false/\w.frozen? ⟨g,2,none⟩=false/\w.frozen? ⟨g,3,none⟩=false:=by
 refine⟨fun j hj=>?_,Ab h 0,Ab h 1,Ab h 2,Ab h 3,Bb h 0,Bb h 1,Bb h 2,Bb h 3⟩;rw [Bf,Ab h j,Bb h j];rcases j with _|_|_|_|j;·simp
 ·simp
 ·simp
 ·simp
 ·omega
theorem Dao (s:Q00) (k:Nat):Lib.hasPrefix (s.drop k) [61]=ZH (s[k]?=some 61):=by
 unfold Lib.hasPrefix;by_cases hk:k<s.length
 ·rw [Ij hk,Ad hk];by_cases h:s[k]=61;·rw [h];simp
  ·simp [List.isPrefixOf,h];exact fun e=>h e.symm
 ·rw [Jl oM,F8 oM];simp
theorem Pfn:(prog.info? 182).map (·.size)=some 4:=kR
theorem Fr {r:ZC} {w1:ZB} {b:Nat} {cells:List ZC} {tmps:Array ZC} (hlen:cells.length=4) (hth:w1.there b 0 4) (hp:tmps.getD 4 ZA=.pointer (some ⟨b,0,none⟩)) (hb:Below w w w1) (hbw:w.heap.size<=b) (hv:Hid (.tuple #[.agg cells.toArray,tmps.getD 5 ZA,tmps.getD 6 ZA]=r)) : bodyPost prog Tryz.f183 (Ret w r) .ret { tmps:=tmps,defers:=[] } (w1.setCells b 0 cells):=by refine Aj (Qw (p:=4) (u:=5) (v:=6) (ty:=182) rfl _ _ ⟨b,0,none⟩ _ hp (H7 _ b 0 182 cells _ (En w1 _ 0 _ (by rw [hlen];exact hth)) underlying182 rfl (by rw [hlen];exact Pfn))) rfl ?_;exact⟨congrArg Ending.returned hv.out,Lz hbw _ _ _ hb⟩
theorem Ggc (b i:Nat) (s:Q00) (w:ZB) (hs:s.length<=1000000) (hi:i<s.length) (hS:Scan b s w) : ZE prog 183 #[.pointer (some ⟨b,0,none⟩),↑i] w (Ret w (uq (CH.next s i))):=by
 obtain⟨r,hr⟩:∃ r,Hid (uq (CH.next s i)=r):=⟨_,Aa rfl⟩
 rw [hr.out];have hBa:∀ o,Below w w (w.alloc o):=fun o=>(Ac _ w).alloc nR _;have A:=Aa fun o=>Dir b i s (w.alloc o) hs oM (hS.below (hBa o));go_enter func183,ntmps183;go_wp2_with fail;refine CmZ (A.out _) fun w1 hb1=>?_;clear A;have hblk:=hb1.block w sM;rw [Aw] at hblk;have hb:Below w w w1:=(hBa _).trans (hb1.mono sM);clear hb1 hBa;have hS1:=hS.below hb;have ht:=hS1.text;have hblt:=hS1.lt;have hbz:w.heap.size<w1.heap.size:=(aZ hblk)
 have keep:∀ w2,Below w1 w1 w2->w2.heap[w.heap.size]?=some (.cells #[.int .i64 0,.int .i64 0,.int .i64 0,.string ⟨#[]⟩] 182 (0,0)):=fun w2 h2=>(h2.block _ hbz).trans hblk;obtain⟨c,hc⟩:∃ c,Hid (dO s i=c):=⟨_,Aa rfl⟩
 rw [hc.out];have hBa:∀ o,Below w1 w1 (w1.alloc o):=fun o=>(Ac _ w1).alloc nR _;by_cases c3:c=3
 ·subst c3;have A:=Aa fun t=>Wg b i w1 3 s [3,4,5] (w1.alloc (.cells #[.int .i64 3,.int .i64 4,.int .i64 5] t)) hs oM dC (hS1.below (hBa _)) (Se w1 [3,4,5] t);have g1:=iJ s [3,4,5] i;have g2:=jr s [3,4,5] i oM;have hn:CH.next s i=if cu s [3,4,5] i - i > 24 then .error 2 else .ok (⟨1,i,0,(s.drop i).take (cu s [3,4,5] i - i)⟩,cu s [3,4,5] i):=by unfold CH.next;rw [if_pos hc.out]
  have Hn:=Aa hn;clear hn hS hS1;generalize cu s [3,4,5] i=q at *;go_wp2_with fail;refine CmZ (A.out _) fun w2 hb2=>?_;clear A;have hb2':Below w1 w1 w2:=(hBa _).trans (hb2.mono sM);clear hb2 hBa;have hbb:=hb.trans (hb2'.mono hb.size);obtain⟨hth,k0,k1,k2,k3,f0,f1,f2,f3⟩:=M3 (keep w2 hb2');have ht2:w2.cell? ⟨b,0,none⟩=some ↑s:=(hb2'.cell (p:=⟨b,0,none⟩) hblt).trans ht;clear keep;by_cases h24:q - i > 24
  ·have d:ZH ((24:Int)<(q:Int) - (i:Int))=true:=by simp;omega
   have hn:=Hn.out;rw [Au h24] at hn;clear Hn;have Hn:=Aa hn;clear hn;exact FD18
  ·have d:ZH ((24:Int)<(q:Int) - (i:Int))=false:=by simp;omega
   have hn:=Hn.out;rw [Ai h24] at hn;clear Hn;have Hn:=Aa hn;clear hn;go_wp2;refine Fr (r:=r) (cells:=[.int .i64 1,↑i,.int .i64 0,.string ((ByteArray.mk s.toArray).extract i q)]) ?_ hth ?_ hbb nR (Aa ?_) <;> try rfl
   rw [<- hr.out,Hn.out];simp only [Fk];rfl
 by_cases c4:c=4
 ·subst c4;have A:=Aa fun t=>Wg b i w1 1 s [4] (w1.alloc (.cells #[.int .i64 4] t)) hs oM dC (hS1.below (hBa _)) (Se w1 [4] t);have g1:=iJ s [4] i;have g2:=jr s [4] i oM;have hmem:=Aa (rC s [4] i);have g3:i<cu s [4] i:=by rw [oK s _ i hi (by rw [hc.out];rfl)];exact iJ _ _ _
  have hn:CH.next s i=if cu s [4] i - i > 13\/dO s (cu s [4] i)=3\/dO s (cu s [4] i)=5 then .error 4
    else .ok (⟨2,i,CH.dec ((s.drop i).take (cu s [4] i - i)),(s.drop i).take (cu s [4] i - i)⟩,cu s [4] i):=by
   unfold CH.next;rw [if_neg (by rw [hc.out];decide),if_pos hc.out]
  have Hn:=Aa hn;clear hn;generalize cu s [4] i=q at *;go_wp2_with fail;refine CmZ (A.out _) fun w2 hb2=>?_;clear A;have hb2':Below w1 w1 w2:=(hBa _).trans (hb2.mono sM);clear hb2 hBa;have hS2:=hS1.below hb2';clear hS hS1;have A:=Aa (Dir b q s w2 hs oM hS2);go_wp2_with fail;refine CmZ A.out fun w3 hb3=>?_;clear A;have fG:Below w1 w1 w3:=hb2'.trans (hb3.mono hb2'.size);have ht3:=(hS2.below hb3).text;clear hb3 hb2' hS2;have hbb:=hb.trans (fG.mono hb.size);obtain⟨hth,k0,k1,k2,k3,f0,f1,f2,f3⟩:=M3 (keep w3 fG);obtain⟨x,hx⟩:∃ x,dO s q=x:=⟨_,rfl⟩
  rw [hx] at Hn ⊢;by_cases h13:q - i > 13
  ·have d:ZH ((13:Int)<(q:Int) - (i:Int))=true:=by simp;omega
   rw [Au (.inl h13)] at Hn;clear keep hx hmem;exact FD18
  have d:ZH ((13:Int)<(q:Int) - (i:Int))=false:=by simp;omega
  by_cases hx3:x=3
  ·have d3:((x:Int)==3)=true:=by simp;omega
   rw [Au (.inr (.inl hx3))] at Hn;clear keep hx hmem;exact FD18
  have d3:((x:Int)==3)=false:=by simp;omega
  by_cases hx5:x=5
  ·have d5:((x:Int)==5)=true:=by simp;omega
   rw [Au (.inr (.inr hx5))] at Hn;clear keep hx hmem;exact FD18
  have d5:((x:Int)==5)=false:=by simp;omega
  rw [Ai oM] at Hn;have hll:((s.drop i).take (q - i)).length=q - i:=by rw [C9,Ei];omega
  have hne:(s.drop i).take (q - i)≠[]:=fun e=>by rw [e] at hll;simp at hll;omega
  have hdg:=G64 _ (fun c hc'=>by have:=hmem.out c hc';simpa using this) hne;have AT:=Aa (Tryz.strconv_Atoi ⟨((s.drop i).take (q - i)).toArray⟩ (CH.dec ((s.drop i).take (q - i))) (by show ((s.drop i).take (q - i)).toArray.size<=18;simp only [Ip,hll];omega) hdg w3);generalize hdd:CH.dec ((s.drop i).take (q - i))=dd at *;clear hmem hx hll hne hdg;go_wp2_with fail;simp only [Fk];refine AT.out.mono ?_;rintro e w4 ⟨rfl,t4,hw4⟩;clear AT;have hb4:Below w3 w3 w4:=by rw [hw4];exact Lib.bytesWorld_below _ _ _
  clear hw4;have xZ:Below w1 w1 w4:=fG.trans (hb4.mono fG.size);have ht4:w4.cell? ⟨b,0,none⟩=some ↑s:=(hb4.cell (p:=⟨b,0,none⟩) (Ae hblt fG.size)).trans ht3;have KW:=hb.trans (xZ.mono hb.size);clear hth k0 k1 k2 k3 f0 f1 f2 f3 hbb fG hb4 ht3;obtain⟨hth,k0,k1,k2,k3,f0,f1,f2,f3⟩:=M3 (keep w4 xZ);clear keep;go_wp2;refine Fr (r:=r) (cells:=[.int .i64 2,↑i,↑dd,.string ((ByteArray.mk s.toArray).extract i q)]) ?_ hth ?_ KW nR (Aa ?_) <;> try rfl
  rw [<- hr.out,Hn.out];simp only [Fk];rfl
 by_cases c6:c=6
 ·subst c6;have hn:CH.next s i=match (s.drop (i+1)).findIdx? (fun c=>c==34||c==10) with
    |none=>.error 6
    |some n=>if (s.drop (i+1))[n]?=some 10 then .error 6 else if n > 400 then .error 2 else .ok (⟨3,i,0,(s.drop (i+1)).take n⟩,i+n+2):=by
   unfold CH.next;rw [if_neg (by rw [hc.out];decide),if_neg (by rw [hc.out];decide),if_pos hc.out]
   rfl
  have hrl:(s.drop (i+1)).length=s.length - (i+1):=Ei;have IA:=Aa (C65 (s.drop (i+1)) w1 oM);rw [Ggq] at IA;clear hS hS1 hBa;go_wp2_with fail;simp only [Eg];refine CmZ IA.out fun w2 hb2=>?_;clear IA;have hbb:=hb.trans (hb2.mono hb.size);obtain⟨hth,k0,k1,k2,k3,f0,f1,f2,f3⟩:=M3 (keep w2 hb2);clear keep;cases hf:(s.drop (i+1)).findIdx? (fun c=>c==34||c==10) with
  |none =>rw [hf] at hn;have Hn:=Aa hn;clear hn hf;exact FD18
  |some n =>
   obtain⟨hnl,_,_⟩:=Gj.1 hf;replace hn:CH.next s i=if (s.drop (i+1))[n]?=some 10 then .error 6 else if n > 400 then .error 2 else .ok (⟨3,i,0,(s.drop (i+1)).take n⟩,i+n+2):=by rw [hn,hf]
   obtain⟨ch,hch⟩:∃ ch,(s.drop (i+1))[n]?=some ch:=⟨_,Ad hnl⟩
   rw [hch] at hn;have hgk:=Hj _ n hnl ch hch;generalize hR:s.drop (i+1)=R at *;dsimp only;have d0:ZH ((n:Int)<0)=false:=sM;by_cases h10:ch=10;·subst h10;have Hn:=Aa hn;rw [Au rfl] at Hn;clear hn hf hch hR;exact FD18
   ·have d1:((ch.toNat:Int)==10)=false:=by have:=CH.beq_toNat ch 10;rw [Cb.2 h10] at this;simp at this ⊢;omega
    have Hn:=Aa hn;rw [Ai (fun e=>h10 (Hf e))] at Hn;clear hn hf hch hR;by_cases EY:n > 400
    ·have d4:ZH ((400:Int)<(n:Int))=true:=by simp;omega
     rw [Au EY] at Hn;exact FD18
    ·have d4:ZH ((400:Int)<(n:Int))=false:=by simp;omega
     rw [Ai EY] at Hn;go_wp2;refine Fr (r:=r) (cells:=[.int .i64 3,↑i,.int .i64 0,.string ((ByteArray.mk R.toArray).extract 0 n)]) ?_ hth ?_ hbb nR (Aa ?_) <;> try rfl
     rw [<- hr.out,Hn.out];simp only [Fk,Iz,Nat.sub_zero];rfl
 have hpre:Lib.hasPrefix (s.drop (i+1)) [61]=ZH (s[i+1]?=some 61):=Dao s (i+1);by_cases c78:c=7\/c=8
 ·have hn:CH.next s i=if s[i+1]?=some 61 then .ok (⟨4,i,0,(s.drop i).take 2⟩,i+2) else if c=7 then .error 3 else .ok (⟨4,i,0,(s.drop i).take 1⟩,i+1):=by unfold CH.next;rw [hc.out,if_neg c3,if_neg c4,if_neg c6,if_pos c78]
  have HP:=Aa (Tryz.strings_HasPrefix ⟨(s.drop (i+1)).toArray⟩ ⟨#[61]⟩ w1);have hpre':Lib.hasPrefix (ByteArray.mk (s.drop (i+1)).toArray).data.toList (ByteArray.mk #[61]).data.toList=ZH (s[i+1]?=some 61):=hpre;rw [hpre'] at HP;obtain⟨hth,k0,k1,k2,k3,f0,f1,f2,f3⟩:=M3 (keep w1 (Ac _ _));clear hS hS1 hBa keep hpre hpre';by_cases h61:s[i+1]?=some 61
  ·have hl2:i+1<s.length:=(lS h61)
   rw [Au h61] at hn;rw [Am h61] at HP;have Hn:=Aa hn;clear hn h61;rcases c78 with rfl|rfl;all_goals
    go_wp2_with fail;simp only [Eg];refine CmZ HP.out fun w2 hw2=>?_;subst hw2;clear HP;go_wp2;refine Fr (r:=r) (cells:=[.int .i64 4,↑i,.int .i64 0,.string ((ByteArray.mk s.toArray).extract i (i+2))]) ?_ hth ?_ hb nR (Aa ?_) <;> try rfl
    rw [<- hr.out,Hn.out];simp only [Fk,Ho];rfl
  ·rw [Ai h61] at hn;rw [Ak h61] at HP;have Hn:=Aa hn;clear hn h61;rcases c78 with rfl|rfl;·rw [Au rfl] at Hn;go_wp2_with fail;simp only [Eg];refine CmZ HP.out fun w2 hw2=>?_;subst hw2;clear HP;exact FD96
   ·rw [Ai dC] at Hn;go_wp2_with fail;simp only [Eg];refine CmZ HP.out fun w2 hw2=>?_;subst hw2;clear HP;exact FD71
 obtain⟨hth,k0,k1,k2,k3,f0,f1,f2,f3⟩:=M3 (keep w1 (Ac _ _));clear hS hS1 hBa keep hpre;by_cases c9:c=9
 ·subst c9;have hn:CH.next s i=.ok (⟨4,i,0,(s.drop i).take 1⟩,i+1):=by unfold CH.next;rw [hc.out,if_neg c3,if_neg c4,if_neg c6,if_neg c78,if_pos rfl]
  have Hn:=Aa hn;clear hn;exact FD71
 have hn:CH.next s i=.error 3:=by unfold CH.next;rw [hc.out,if_neg c3,if_neg c4,if_neg c6,if_neg c78,if_neg c9]
 have Hn:=Aa hn;clear hn;have d3:((c:Int)==3)=false:=by simp;omega
 have d4:((c:Int)==4)=false:=by simp;omega
 have d6:((c:Int)==6)=false:=by simp;omega
 have d7:((c:Int)==7)=false:=by simp;omega
 have d8:((c:Int)==8)=false:=by simp;omega
 have d9:((c:Int)==9)=false:=by simp;omega
 exact FD96
end
section
open Go.Lib Go.Proofs.Tryz Go.RowKit Go.Shelf CH
theorem Hlv (w:ZB) (o1 o2:Obj):((w.alloc o1).alloc o2).heap[w.heap.size]?=some o1/\((w.alloc o1).alloc o2).heap[w.heap.size+1]?=some o2:=by exact FD164
theorem I6 {P:Program} {fn:Func} {p:Tmp} {ty:ZJ} (h:fn.results=#[.cell p ty]) (tmps:Array ZC) (w:ZB) (a:Addr) (v:ZC) (hp:tmps.getD p ZA=.pointer (some a)) (hl:(loadVar ty a).run P w=.ok v w):(results fn tmps).run P w=.ok v w:=by
 simp only [results,h];have hp':tmps[p]?.getD ZA=.pointer (some a):=by simpa using hp
 simp [asAddr];rw [hp'];simpa [Result.andThen] using hl
def C0 (c:Nat) (s:Q00) (cs:Array ZC):Array ZC:=s.foldl (fun cs ch=>cs.setIfInBounds ch.toNat ↑c) cs
theorem Fd (c:Nat) (s:Q00):∀ cs:Array ZC,(C0 c s cs).size=cs.size:=by
 induction s with
 |nil=>intro cs;rfl
 |cons x r ih=>intro cs;unfold C0 at *;rw [List.foldl_cons,ih];simp
theorem Err (c:Nat) (s:Q00) (x:UInt8) (cs:Array ZC):C0 c (s++[x]) cs=(C0 c s cs).setIfInBounds x.toNat ↑c:=by simp [C0]
theorem Hc (c:Nat) (s:Q00):∀ cs:Array ZC,(∀ v∈cs,v.oneCell'=true)->∀ v∈C0 c s cs,v.oneCell'=true:=by
 induction s with
 |nil=>intro cs h;exact h
 |cons x r ih =>
  intro cs h;unfold C0 at *;rw [Nl];refine ih _ fun v hv=>?_;rcases Array.mem_or_eq_of_mem_setIfInBounds hv with h1|h1;·exact h v h1
  ·rw [h1];rfl
theorem Mv (s:Q00) (c b:Nat) (cs:Array ZC) (w:ZB) (hlen:s.length<=1000000) (hb:w.heap[b]?=some (.cells cs 227 (0,0))) (hsz:cs.size=256) : ZE prog 247 #[↑s,↑c,.pointer (some ⟨b,0,none⟩)] w (fun e w'=>e=.returned (.tuple #[])/\w'.heap[b]?=some (.cells (C0 c s cs) 227 (0,0))/\aY (·=b) w w'):=by
 go_enter func247,ntmps247;go_wp2_with fail;go_loopw [5] (fun kv wr=>∃ k:Nat,k<=s.length/\kv=↑k/\wr.heap[b]?=some (.cells (C0 c (s.take k) cs) 227 (0,0))/\aY (·=b) w wr) (fun kv _=>s.length - (ZG kv).toNat);case atStart=>exact⟨0,Az _,rfl,by simpa [C0] using hb,aY.refl _ _⟩
 case round =>
  obtain⟨k,hk,rfl,hbk,hkp⟩:=hrel;by_cases hlt:k<s.length
  ·have hcs:(C0 c (s.take k) cs).size=256:=by rw [Fd];exact hsz
   obtain⟨ch,hch⟩:∃ ch,s[k]?=some ch:=⟨_,Ad hlt⟩
   have KQ:ch.toNat<256:=Fb ch;obtain⟨u,hu⟩:∃ u,(C0 c (s.take k) cs)[ch.toNat]?=some u:=⟨_,F7 (by rw [hcs];exact KQ)⟩
   have hgk:(⟨s.toArray⟩:ByteArray)[k]'(by show k<s.toArray.size;simpa using hlt)=ch:=by rw [Ad hlt] at hch;show s.toArray[k]'(by simpa using hlt)=ch;simpa using hch
   have KP:((ch.toNat:Nat):Int)<256:=oM;have hcell:wr.cell? ⟨b,ch.toNat,none⟩=some u:=by rw [Ab hbk];exact hu
   have hfro:wr.frozen? ⟨b,ch.toNat,none⟩=false:=Bb hbk _;generalize hcs':C0 c (s.take k) cs=cs' at *;clear hb;go_wp2_with fail;refine⟨⟨k+1,oM,by go_num,?_,hkp.setCell rfl _⟩,by simp [ZG];omega⟩;have:=A7 wr b ch.toNat ↑c _ _ _ hbk;rw [this,D7,hch,Gf,Err,hcs']
  ·have e:k=s.length:=oM;subst e;rw [Dn] at hbk;go_wp2;go_end0;exact⟨rfl,hbk,hkp⟩
noncomputable def Dr:Array ZC:=(C0 9 [59,44,46,58,40,41,91,93,123,125,61,43,45] (C0 8 [60,62] (C0 7 [33] (C0 6 [34] (C0 2 [35] (C0 1 [32,9,10] (C0 5 [95] (C0 4 [48,49,50,51,52,53,54,55,56,57] (C0 3 [97,98,99,100,101,102,103,104,105,106,107,108,109,110,111,112,113,114,115,116,117,118,119,120,121,122,65,66,67,68,69,70,71,72,73,74,75,76,77,78,79,80,81,82,83,84,85,86,87,88,89,90] Tryz.zeroCells227)))))))))
theorem G2a (w:ZB):ZE prog 181 #[] w (fun e w'=>e=.returned (.agg Dr)/\Below w w w'):=by
 obtain⟨cs0,E0⟩:∃ x,Hid (x=Tryz.zeroCells227):=⟨_,Aa rfl⟩
 have z0:cs0.size=256:=by rw [E0.out];kernel_rfl
 have z00:=z0;have o0:∀ v∈cs0,v.oneCell'=true:=by rw [E0.out];exact fun v hv=>Ld.1 (by kernel_rfl:Tryz.zeroCells227.all (·.oneCell')=true) v hv
 go_enter func181,ntmps181;go_wp2_with fail;rw [<- E0.out];have hB:=Hlv w (.cells cs0 227) (.cells cs0 227);have b0:Below w w ((w.alloc (.cells cs0 227)).alloc (.cells cs0 227)):=((Ac _ w).alloc nR _).alloc sM _;have hs0:w.heap.size+1<((w.alloc (.cells cs0 227)).alloc (.cells cs0 227)).heap.size:=sM;generalize (w.alloc (.cells cs0 227)).alloc (.cells cs0 227)=w0 at *;obtain⟨r0,c0⟩:=hB;refine (Mv [97,98,99,100,101,102,103,104,105,106,107,108,109,110,111,112,113,114,115,116,117,118,119,120,121,122,65,66,67,68,69,70,71,72,73,74,75,76,77,78,79,80,81,82,83,84,85,86,87,88,89,90] 3 (w.heap.size+1) _ w0 dC c0 z0).mono ?_;rintro e w1 ⟨rfl,c1,k1⟩;have b1:=b0.trans (k1.below (B:=w.heap.size) (Gw (Ey hs0)) (fun k e=>by rw [e];exact Hq _));have hs1:w.heap.size+1<w1.heap.size:=Ae hs0 k1.size;have r1:=(k1.block w (Ey hs0) (Jk (Fj _))).trans r0;have z1:=(Fd 3 [97,98,99,100,101,102,103,104,105,106,107,108,109,110,111,112,113,114,115,116,117,118,119,120,121,122,65,66,67,68,69,70,71,72,73,74,75,76,77,78,79,80,81,82,83,84,85,86,87,88,89,90] cs0).trans z0;obtain⟨cs1,E1⟩:∃ x,Hid (x=C0 3 [97,98,99,100,101,102,103,104,105,106,107,108,109,110,111,112,113,114,115,116,117,118,119,120,121,122,65,66,67,68,69,70,71,72,73,74,75,76,77,78,79,80,81,82,83,84,85,86,87,88,89,90] cs0):=⟨_,Aa rfl⟩
 rw [<- E1.out] at c1 z1;have o1:∀ v∈cs1,v.oneCell'=true:=by rw [E1.out];exact Hc _ _ _ o0
 clear o0;clear k1 b0 c0 r0 z0 hs0;go_wp2_with fail;refine (Mv [48,49,50,51,52,53,54,55,56,57] 4 (w.heap.size+1) _ w1 dC c1 z1).mono ?_;rintro e w2 ⟨rfl,c2,k2⟩;have b2:=b1.trans (k2.below (B:=w.heap.size) (Gw (Ey hs1)) (fun k e=>by rw [e];exact Hq _));have hs2:w.heap.size+1<w2.heap.size:=Ae hs1 k2.size;have r2:=(k2.block w (Ey hs1) (Jk (Fj _))).trans r1;have z2:=(Fd 4 [48,49,50,51,52,53,54,55,56,57] cs1).trans z1;obtain⟨cs2,E2⟩:∃ x,Hid (x=C0 4 [48,49,50,51,52,53,54,55,56,57] cs1):=⟨_,Aa rfl⟩
 rw [<- E2.out] at c2 z2;have o2:∀ v∈cs2,v.oneCell'=true:=by rw [E2.out];exact Hc _ _ _ o1
 clear o1;clear k2 b1 c1 r1 z1 hs1;go_wp2_with fail;refine (Mv [95] 5 (w.heap.size+1) _ w2 dC c2 z2).mono ?_;rintro e w3 ⟨rfl,c3,k3⟩;have b3:=b2.trans (k3.below (B:=w.heap.size) (Gw (Ey hs2)) (fun k e=>by rw [e];exact Hq _));have hs3:w.heap.size+1<w3.heap.size:=Ae hs2 k3.size;have r3:=(k3.block w (Ey hs2) (Jk (Fj _))).trans r2;have z3:=(Fd 5 [95] cs2).trans z2;obtain⟨cs3,E3⟩:∃ x,Hid (x=C0 5 [95] cs2):=⟨_,Aa rfl⟩
 rw [<- E3.out] at c3 z3;have o3:∀ v∈cs3,v.oneCell'=true:=by rw [E3.out];exact Hc _ _ _ o2
 clear o2;clear k3 b2 c2 r2 z2 hs2;go_wp2_with fail;refine (Mv [32,9,10] 1 (w.heap.size+1) _ w3 dC c3 z3).mono ?_;rintro e w4 ⟨rfl,c4,k4⟩;have b4:=b3.trans (k4.below (B:=w.heap.size) (Gw (Ey hs3)) (fun k e=>by rw [e];exact Hq _));have hs4:w.heap.size+1<w4.heap.size:=Ae hs3 k4.size;have r4:=(k4.block w (Ey hs3) (Jk (Fj _))).trans r3;have z4:=(Fd 1 [32,9,10] cs3).trans z3;obtain⟨cs4,E4⟩:∃ x,Hid (x=C0 1 [32,9,10] cs3):=⟨_,Aa rfl⟩
 rw [<- E4.out] at c4 z4;have o4:∀ v∈cs4,v.oneCell'=true:=by rw [E4.out];exact Hc _ _ _ o3
 clear o3;clear k4 b3 c3 r3 z3 hs3;go_wp2_with fail;refine (Mv [35] 2 (w.heap.size+1) _ w4 dC c4 z4).mono ?_;rintro e w5 ⟨rfl,c5,k5⟩;have b5:=b4.trans (k5.below (B:=w.heap.size) (Gw (Ey hs4)) (fun k e=>by rw [e];exact Hq _));have hs5:w.heap.size+1<w5.heap.size:=Ae hs4 k5.size;have r5:=(k5.block w (Ey hs4) (Jk (Fj _))).trans r4;have z5:=(Fd 2 [35] cs4).trans z4;obtain⟨cs5,E5⟩:∃ x,Hid (x=C0 2 [35] cs4):=⟨_,Aa rfl⟩
 rw [<- E5.out] at c5 z5;have o5:∀ v∈cs5,v.oneCell'=true:=by rw [E5.out];exact Hc _ _ _ o4
 clear o4;clear k5 b4 c4 r4 z4 hs4;go_wp2_with fail;refine (Mv [34] 6 (w.heap.size+1) _ w5 dC c5 z5).mono ?_;rintro e w6 ⟨rfl,c6,k6⟩;have b6:=b5.trans (k6.below (B:=w.heap.size) (Gw (Ey hs5)) (fun k e=>by rw [e];exact Hq _));have hs6:w.heap.size+1<w6.heap.size:=Ae hs5 k6.size;have r6:=(k6.block w (Ey hs5) (Jk (Fj _))).trans r5;have z6:=(Fd 6 [34] cs5).trans z5;obtain⟨cs6,E6⟩:∃ x,Hid (x=C0 6 [34] cs5):=⟨_,Aa rfl⟩
 rw [<- E6.out] at c6 z6;have o6:∀ v∈cs6,v.oneCell'=true:=by rw [E6.out];exact Hc _ _ _ o5
 clear o5;clear k6 b5 c5 r5 z5 hs5;go_wp2_with fail;refine (Mv [33] 7 (w.heap.size+1) _ w6 dC c6 z6).mono ?_;rintro e w7 ⟨rfl,c7,k7⟩;have b7:=b6.trans (k7.below (B:=w.heap.size) (Gw (Ey hs6)) (fun k e=>by rw [e];exact Hq _));have hs7:w.heap.size+1<w7.heap.size:=Ae hs6 k7.size;have r7:=(k7.block w (Ey hs6) (Jk (Fj _))).trans r6;have z7:=(Fd 7 [33] cs6).trans z6;obtain⟨cs7,E7⟩:∃ x,Hid (x=C0 7 [33] cs6):=⟨_,Aa rfl⟩
 rw [<- E7.out] at c7 z7;have o7:∀ v∈cs7,v.oneCell'=true:=by rw [E7.out];exact Hc _ _ _ o6
 clear o6;clear k7 b6 c6 r6 z6 hs6;go_wp2_with fail;refine (Mv [60,62] 8 (w.heap.size+1) _ w7 dC c7 z7).mono ?_;rintro e w8 ⟨rfl,c8,k8⟩;have b8:=b7.trans (k8.below (B:=w.heap.size) (Gw (Ey hs7)) (fun k e=>by rw [e];exact Hq _));have hs8:w.heap.size+1<w8.heap.size:=Ae hs7 k8.size;have r8:=(k8.block w (Ey hs7) (Jk (Fj _))).trans r7;have z8:=(Fd 8 [60,62] cs7).trans z7;obtain⟨cs8,E8⟩:∃ x,Hid (x=C0 8 [60,62] cs7):=⟨_,Aa rfl⟩
 rw [<- E8.out] at c8 z8;have o8:∀ v∈cs8,v.oneCell'=true:=by rw [E8.out];exact Hc _ _ _ o7
 clear o7;clear k8 b7 c7 r7 z7 hs7;go_wp2_with fail;refine (Mv [59,44,46,58,40,41,91,93,123,125,61,43,45] 9 (w.heap.size+1) _ w8 dC c8 z8).mono ?_;rintro e w9 ⟨rfl,c9,k9⟩;have b9:=b8.trans (k9.below (B:=w.heap.size) (Gw (Ey hs8)) (fun k e=>by rw [e];exact Hq _));have hs9:w.heap.size+1<w9.heap.size:=Ae hs8 k9.size;have r9:=(k9.block w (Ey hs8) (Jk (Fj _))).trans r8;have z9:=(Fd 9 [59,44,46,58,40,41,91,93,123,125,61,43,45] cs8).trans z8;obtain⟨cs9,E9⟩:∃ x,Hid (x=C0 9 [59,44,46,58,40,41,91,93,123,125,61,43,45] cs8):=⟨_,Aa rfl⟩
 rw [<- E9.out] at c9 z9;have o9:∀ v∈cs9,v.oneCell'=true:=by rw [E9.out];exact Hc _ _ _ o8
 clear o8;clear k9 b8 c8 r8 z8 hs8;have hra:w9.rangeAt (w+1) 0 cs9.toList:=fun j v hj=>by rw [Bf,Ab c9 j];simpa using hj
 have hi9:(prog.info? 227).map (·.size)=some cs9.toList.length:=by rw [I9,z9];kernel_rfl
 have hi9':(prog.info? 227).map (·.size)=some cs9.size:=by rw [z9];kernel_rfl
 have ho9:cs9.all (·.oneCell')=true:=Ld.2 o9;have hth:w9.there w 0 cs9.size:=fun j hj=>by rw [Bf,Ab r9 j,Bb r9 j];rw [z9] at hj;simp [F7 (show j<cs0.size by rw [z00];exact hj)]
 go_wp2_with (first|refine Bd rfl _ _ rfl (w+1) 0 rfl cs9.toList _ hra underlying227 rfl hi9 ?_|refine Ih rfl _ _ _ rfl w 0 cs9 rfl rfl hth hi9' ho9 ?_)
 refine Aj (I6 (p:=0) (ty:=227) rfl _ _ ⟨w,0,none⟩ _ rfl (H7 _ w 0 227 cs9.toList _ (En w9 _ 0 _ (by simpa using hth)) underlying227 rfl hi9)) rfl ?_;refine⟨?_,Lz nR _ _ _ b9⟩;rw [Array.toArray_toList,E9.out,E8.out,E7.out,E6.out,E5.out,E4.out,E3.out,E2.out,E1.out,E0.out];rfl
theorem Qt:Dr=((List.range 256).map fun n=>Value.int .i64 (CH.cls n.toUInt8:Nat)).toArray:=kR
theorem Ast (c:UInt8):Dr[c.toNat]?=some (.int .i64 (CH.cls c:Nat)):=by rw [Qt];simp [Fb c]
theorem Mt:Dr.size=256:=by rw [Qt];simp
theorem Y3:∀ v∈Dr,v.oneCell'=true:=by rw [Qt];intro v hv;simp at hv;obtain⟨n,_,rfl⟩:=hv;rfl
end
section
open Go.Lib Go.Proofs.Tryz Go.RowKit Go.Shelf Go.Sort CH
variable {w:ZB} {base r:Nat} {ts:List CH.Tok} {α:Type}
theorem New (l:List ZC):∀ (k0:Nat) (A:Array ZC) (j:Nat),((l.zipIdx k0).foldl (fun cs x=>cs.setIfInBounds (1+x.2) x.1) A)[j]?=if 1+k0<=j/\j<1+k0+l.length/\j<A.size then l[j - (1+k0)]? else A[j]?:=by
 induction l with
 |nil=>intro k0 A j;simp;omega
 |cons x l ih =>
  intro k0 A j;rw [List.zipIdx_cons,Nl,ih];simp only [Array.size_setIfInBounds,A8];by_cases h1:j=1+k0
  ·subst h1;rw [Ai oM];by_cases h2:1+k0<A.size;·rw [Au oM];simp [h2]
   ·rw [Ai oM];simp [h2]
  ·rw [Iy (by simpa using fun e=>h1 e.symm)];by_cases h2:1+(k0+1)<=j/\j<1+(k0+1)+l.length/\j<A.size;·rw [Au h2,Au oM,show j - (1+k0)=(j - (1+(k0+1)))+1 from by omega,Fz]
   ·rw [Ai h2,Ai oM]
noncomputable def K4 (s:Q00):Array ZC:=Array.foldl (fun cs x=>cs.setIfInBounds (1+x.snd) x.fst) (Tryz.zeroCells230.setIfInBounds 0 (Value.string ⟨s.toArray⟩)) Dr.zipIdx 0 256
theorem Qk:Tryz.zeroCells230.size=257:=kR
theorem Lg (s:Q00) (j:Nat):(K4 s)[j]?=if j=0 then some ↑s else if j<257 then Dr[j - 1]? else none:=by
 have hz:=Mt;have h0:=Qk;unfold K4;rw [show (256:Nat)=Dr.zipIdx.size from by simp [hz],<- Array.foldl_toList,Array.toList_zipIdx,New];simp only [Array.size_setIfInBounds,h0,I9,hz,Ia,Jq];by_cases hj:j=0;·subst hj;rw [Ai oM,Au rfl];simp [h0]
 ·by_cases h2:j<257;·rw [Au oM,Ai hj,Au h2]
  ·rw [Ai oM,Ai hj,Ai h2];exact Lp (by simp [h0];omega)
theorem Xe (s:Q00):(K4 s).size=257:=by
 have h1:=Lg s 256;have h2:=Lg s 257;have hx:Dr[255]?=some (Dr[255]'(by rw [Mt];decide)):=F7 _;rw [Ai dC,Au dC,show 256 - 1=255 from rfl,hx] at h1;rw [Ai dC,Ai dC] at h2;have:=(aZ h1)
 have:=Array.getElem?_eq_none_iff.1 h2;omega
theorem Zl (s:Q00):∀ v∈K4 s,v.oneCell'=true:=by
 intro v hv;obtain⟨j,hj⟩:=Array.getElem?_of_mem hv;rw [Lg] at hj;split at hj;·cases hj;rfl
 split at hj;·exact Y3 v (Md hj)
 ·cases hj
theorem Hpq (s:Q00) (w:ZB):Scan w s (w.alloc (.cells (K4 s) 230)):=by
 refine⟨sM,?_,fun c=>?_⟩;·rw [Cm,Lg,Au rfl]
 ·rw [Cm,Lg,Ai oM,Au (by have:=Fb c;omega),Ho,Ast]
def Fm (t:CH.Tok):List ZC:=[↑t.kind,↑t.pos,↑t.n,↑t.text]
def Hd (base:Nat) (w:ZB) (v:ZC) (ts:List CH.Tok):Prop:=w.ownsRow base 182 4 v ts.length (ts.flatMap Fm)
theorem Mnw:(prog.info? 182).map (fun i=>(i.zero,i.size,i.bytes))=some (some (.agg #[.int .i64 0,.int .i64 0,.int .i64 0,.string ⟨#[]⟩]),4,40):=kR
theorem I30 {ops:Array Oper} {rest:List Oper} {o:Oper} {a:Act} {Q:Exit->Act->ZB->Prop} (hgd:o.guard=none) (s x:Operand) (ho:o.op=.call { callee:=.builtin .append,args:=#[s,x],argTypes:=#[178,178] }) (base:Nat) (v:ZC) (ts:List CH.Tok) (hs:a.eval s=v) (hown:Hd base w v ts) (g c:Nat) (t:CH.Tok) (hx:a.eval x=.slice (some ⟨g,0,none⟩) 1 c) (hcell:∀ j u,(Fm t)[j]?=some u->w.cell? ⟨g,j,none⟩=some u) (hlen:ts.length<=1099511627) (hbase:base<=w.heap.size) (h:∀ v' w',Hd base w' v' (ts++[t])->w.grownBy w' v.ownBlock->wpList prog ops Q rest (a.put o.dst v') w') : wpList prog ops Q (o::rest) a w:=by
 obtain⟨i,hi,hz0,hz1,hz2⟩:=H8 Mnw;refine wpList_append_own_at w hgd s x 178 ho base 182 i _ 4 40 underlying178 hi hz0 hz1 hz2 rfl dC v ts.length _ hs hown ⟨g,0,none⟩ 1 c (Fm t) hx rfl ?_ ?_ ?_ ?_ hbase ?_;·intro j u hj;rw [show (⟨g,0,none⟩:Addr).add j=⟨g,j,none⟩ from by simp [Addr.add];exact fun e=>e.symm];exact hcell j u hj
 ·intro u hu;simp [Fm] at hu;rcases hu with rfl|rfl|rfl|rfl <;> rfl
 ·exact FD145
 ·omega
 ·intro v' w' h1 h2 _ h4;exact h v' w' (by unfold Hd;simpa using h1) h2
theorem Hd.form {v:ZC} (h:Hd base w v ts):∃ a cap,v=.slice a ts.length cap/\ts.length<=cap/\cap<=9223372036854775807:=by
 obtain⟨hlen,⟨rfl,h0⟩|⟨g,cap,cur,rfl,hb,hg,hn,hc,hsz,htk⟩⟩:=h;·exact⟨none,0,by rw [h0],oM,oM⟩
 ·exact⟨_,cap,rfl,hn,by unfold maxLen at hc;omega⟩
theorem Hd.mono {base':Nat} {v:ZC} (h:Hd base w v ts) (hb:base'<=base):Hd base' w v ts:=by
 obtain⟨hlen,⟨h0,h1⟩|⟨g,cap,cur,h1,hb',h2⟩⟩:=h;·exact⟨hlen,.inl ⟨h0,h1⟩⟩
 ·exact⟨hlen,.inr ⟨g,cap,cur,h1,Af hb hb',h2⟩⟩
theorem U0 (s:Q00) (i e:Nat) (h:CH.next s i=.error e):1<=e:=by
 unfold CH.next at h;split at h
 ·split at h;·cases h;decide
  ·cases h
 split at h
 ·split at h;·cases h;decide
  ·cases h
 split at h
 ·split at h;·cases h;decide
  ·split at h;·cases h;decide
   split at h;·cases h;decide
   ·cases h
 split at h
 ·split at h;·cases h
  ·split at h;·cases h;decide
   ·cases h
 split at h;·cases h
 ·cases h;decide
theorem Pt {e:ZJ} {size:Nat} {v:ZC} {n:Nat} {xs:List ZC} (h:w.ownsRow base e size v n xs):∀ j,v.ownBlock=some j->base<=j:=by
 intro j hj;obtain⟨hlen,⟨rfl,h0⟩|⟨g,cap,cur,rfl,hb,hg,rest⟩⟩:=h;·cases hj
 ·simp only [Value.ownBlock,Fe] at hj;subst hj;exact hb
theorem Scan.low {b B:Nat} {s:Q00} {w':ZB} (h:Scan b s w) (hb:Below B w w') (hlt:b<B):Scan b s w' := ⟨Ae h.lt hb.size,(hb.cell (p:=⟨b,0,none⟩) hlt).trans h.text,fun c=>(hb.cell (p:=⟨b,1+c.toNat,none⟩) hlt).trans (h.cls c)⟩
def Rii (w:ZB) (r:Except (Nat × Nat) (List CH.Tok)) (e:Ending) (w':ZB):Prop :=
 Below w w w'/\match r with
  |.error x=>e=.returned (.tuple #[.slice none 0 0,↑x.1,↑x.2])
  |.ok ts=>∃ v,e=.returned (.tuple #[v,.int .i64 0,.int .i64 0])/\Hd w w' v ts
theorem Ctx (s:Q00) (w:ZB) (hs2:s.length<=20000) : ZE prog 114 #[↑s] w (Rii w (CH.lex s)):=by
 obtain⟨r,hr⟩:∃ r,Hid (CH.lex s=r):=⟨_,Aa rfl⟩
 rw [hr.out];have d:ZH ((20000:Int)<(s.length:Int))=false:=by simp;omega
 have A:=Aa (G2a w);have hz:=Xe s;have hFs:(Array.foldl (fun cs x=>cs.setIfInBounds (1+x.snd) x.fst) (Tryz.zeroCells230.setIfInBounds 0 (Value.string ⟨s.toArray⟩)) Dr.zipIdx 0 256).size=257:=hz;have hsc:∀ w1:ZB,(storeCells ⟨w1,0,none⟩ (Array.foldl (fun cs x=>cs.setIfInBounds (1+x.snd) x.fst) (Tryz.zeroCells230.setIfInBounds 0 (Value.string ⟨s.toArray⟩)) Dr.zipIdx 0 256).toList).run prog (w1.alloc (.cells Tryz.zeroCells230 230))=.ok () (w1.alloc (.cells (K4 s) 230)):=fun w1 =>run_storeCells_new w1 230 Tryz.zeroCells230 (K4 s) (by rw [hz];kernel_rfl) (by rw [hz,Qk]) (Ld.2 (Zl s));have hscan:=fun w1=>Hpq s w1;have z:=Mt;generalize hSC:K4 s=SC at *;generalize hCC:Dr=cc at *;clear hSC hCC;go_enter func114,ntmps114;go_wp2_with fail;refine A.out.mono ?_;clear A;rintro e w1 ⟨rfl,hb1⟩;go_wp2_with fail;generalize Array.foldl (fun cs x=>cs.setIfInBounds (1+x.snd) x.fst) (Tryz.zeroCells230.setIfInBounds 0 (Value.string ⟨s.toArray⟩)) cc.zipIdx 0 256=FF at *;have hS:=hscan w1;have hb2:=hb1.alloc hb1.size (.cells SC 230);have hsz:w1.heap.size<(w1.alloc (.cells SC 230)).heap.size:=sM;generalize w1.alloc (.cells SC 230)=W at *;clear hscan hsc hFs hz z;refine CmZ (I54 w1 0 s W oM (Az _) hS) fun w2 hb3=>?_;have hB2:Below w w w2:=hb2.trans (hb3.mono hb2.size);have hS2:=hS.below hb3;have hwB:=hb1.size;have hg0:=wZ s 0 (Az _);obtain⟨k0,hk0⟩:∃ k,Hid (CH.gap s 0=k):=⟨_,Aa rfl⟩
 rw [hk0.out] at hg0 ⊢;have hl0:Hid (lJ s (s.length+1) k0 []=r):=Aa (by rw [<- hr.out,<- hk0.out];rfl);clear hS hb2 hb3 hsz hb1 hk0 hr;generalize hBB:w1.heap.size=B at *;clear hBB;go_wp2_with fail;go_loopw [6,7] (fun ov iv wr=>∃ (k f:Nat) (ts:List CH.Tok),k<=s.length/\iv=↑k/\Hid (lJ s f k ts=r)/\s.length<f+k/\ts.length<=k/\Hd (B+1) wr ov ts/\Scan B s wr/\Below w w wr) (fun _ iv _=>s.length - (ZG iv).toNat);case atStart=>exact⟨k0,s.length+1,[],hg0,rfl,hl0,oM,Az _,I5 _ _ _ _,hS2,hB2⟩
 case round =>
  obtain⟨k,f,ts,hk,rfl,hl,hf,hts,hO,hSr,hBr⟩:=hrel;obtain⟨av,cv,rfl,hcv1,hcv2⟩:=hO.form;by_cases hlt:k<s.length
  ·have d1:ZH ((k:Int)<(s.length:Int))=true:=by simp;omega
   obtain⟨f',rfl⟩:∃ f',f=f'+1:=⟨f - 1,oM⟩
   have A:=Aa (Ggc B k s wr oM hlt hSr);cases hn:CH.next s k with
   |error e =>
    have he:=U0 s k e hn;rw [hn] at A;have hl':r=.error (e,k):=by rw [<- hl.out];unfold lJ;rw [if_pos hlt,hn]
    clear hl hn;have z0:((e:Int)==0)=false:=by simp;omega
    have z1:((e:Int) != 0)=true:=by simp;omega
    go_wp2_with fail;refine A.out.mono ?_;rintro e2 w3 ⟨rfl,hb3⟩;clear A;dsimp only [uq];exact FD104
   |ok x =>
    obtain⟨t,j⟩:=x;obtain⟨hj1,hj2⟩:=xH s k hlt t j hn;rw [hn] at A;go_wp2_with fail;refine A.out.mono ?_;rintro e2 w3 ⟨rfl,hb3⟩;clear A;dsimp only [uq,BP];by_cases h5:ts.length=5000
    ·have z0:((ts.length:Int)==5000)=true:=by simp;omega
     have hl':r=.error (2,k):=by
      rw [<- hl.out];conv=>lhs;unfold lJ;rw [if_pos hlt,hn]
      dsimp only;rw [Au h5]
     clear hl hn hO hSr;exact FD104
    ·have z0:((ts.length:Int)==5000)=false:=by simp;omega
     have hl':lJ s f' (CH.gap s j) (ts++[t])=r:=by
      rw [<- hl.out];conv=>rhs;unfold lJ;rw [if_pos hlt,hn]
      dsimp only;rw [Ai h5]
     clear hl hn;have fG:Below w w w3:=hBr.trans (hb3.mono hBr.size);have hS3:=hSr.below hb3;have hO3:Hd (B+1) w3 (.slice av ts.length cv) ts:=Cu hO hb3;have hB3:=hS3.lt;clear hO hSr hb3;have hA:Below w3 w3 ((w3.alloc (.cells (Fm t).toArray 182)).alloc (.cells (Fm t).toArray 182)):=((Ac _ w3).alloc nR _).alloc sM _;have hO4:Hd (B+1) ((w3.alloc (.cells (Fm t).toArray 182)).alloc (.cells (Fm t).toArray 182)) (.slice av ts.length cv) ts:=Ik (Ik hO3 _) _;have hcell:∀ j u,(Fm t)[j]?=some u->((w3.alloc (.cells (Fm t).toArray 182)).alloc (.cells (Fm t).toArray 182)).cell? ⟨w3+1,j,none⟩=some u:=fun j u hj=>by have:=Cm (w3.alloc (.cells (Fm t).toArray 182)) (Fm t).toArray 182 (0,0) j;simpa using this.trans (by simpa using hj)
     have hsA:B+1<=((w3.alloc (.cells (Fm t).toArray 182)).alloc (.cells (Fm t).toArray 182)).heap.size:=by simp;omega
     have hblk:=Pt hO4;go_wp2_with (refine I30 rfl _ _ rfl (B+1) _ ts rfl hO4 (w3+1) 1 t rfl hcell oM hsA ?_;intro v5 w5 hO5 hg5;have hb5:=Aa ((Ac (B+1) _).grown hg5 hsA hblk);clear hg5)
     have zW:=hb5.out;have hS5:Scan B s w5:=(hS3.below hA).low zW (Fj _);have hb6:Below w w w5:=(fG.trans (hA.mono fG.size)).trans (zW.mono oM);refine (I54 B j s w5 oM hj2 hS5).mono ?_;rintro e3 w6 ⟨rfl,hb7⟩;have hO6:Hd (B+1) w6 v5 (ts++[t]):=Cu hO5 hb7;have hS6:=hS5.below hb7;have hb8:=hb6.trans (hb7.mono hb6.size);have hg1:=AX s j hj2;have hg2:=wZ s j hj2;have HL:=Aa hl';clear hb5 zW hS5 hb6 hb7 hO5 hO4 hO3 hS3 hA hcell hsA hblk fG hl';generalize hG:CH.gap s j=G at *;go_wp2;go_roundw;case rel=>exact⟨G,f',ts++[t],hg2,rfl,HL,oM,by simp;omega,hO6,hS6,hb8⟩
     case measure=>simp [ZG];omega
  ·have d1:ZH ((k:Int)<(s.length:Int))=false:=by simp;omega
   have hl':r=.ok ts:=by
    rw [<- hl.out];cases f with
    |zero=>rfl
    |succ f'=>unfold lJ;rw [if_neg hlt]
   clear hl;go_wp2;refine Aj (results_tmp3 rfl _ _ _) rfl ?_;refine⟨hBr,?_⟩;rw [hl'];exact⟨_,rfl,hO.mono oM⟩
theorem Hd.cellAt {a:Option Addr} {n cap:Nat} {t:CH.Tok} (h:Hd base w (.slice a n cap) [t]) : ∃ g,a=some ⟨g,0,none⟩/\w.cell? ⟨g,0,none⟩=some ↑t.kind/\w.cell? ⟨g,3,none⟩=some ↑t.text:=by
 have h':=h;obtain⟨hlen,⟨e,h0⟩|⟨g,cap',cur,e,hb,hg,hn,hc,hsz,htk⟩⟩:=h;·simp at h0
 ·injection e with e1 e2 e3;subst e1;subst e2;subst e3;refine⟨g,rfl,?_,?_⟩;·exact Fq h' 0 sM
  ·exact Fq h' 3 sM
theorem Cr (a b:Q00):((⟨a.toArray⟩:ByteArray)==⟨b.toArray⟩)=(a==b):=by
 show (a.toArray==b.toArray)=(a==b)
 simp
theorem M10 (s:Q00):∀ (f i:Nat) (out:List CH.Tok) (x:Nat × Nat),lJ s f i out=.error x->1<=x.1:=by
 intro f;induction f with
 |zero=>intro i out x h;cases h
 |succ f ih =>
  intro i out x h;unfold lJ at h;split at h
  ·split at h;·rename_i e he;cases h;exact U0 s i e he
   ·split at h;·cases h;exact (dC:1<=2)
    ·exact ih _ _ _ h
  ·cases h
theorem Ctd (s:Q00) (x:Nat × Nat) (h:CH.lex s=.error x):1<=x.1:=M10 s _ _ _ _ h
theorem N4 (s:Q00) (w:ZB) (hs:s.length<=20000) : ZE prog 59 #[↑s] w (Ret w (.bool (CH.ident s))):=by
 obtain⟨r,hr⟩:∃ r,CH.ident s=r:=⟨_,rfl⟩
 rw [hr];unfold CH.ident at hr;rw [Am hs,a_Bool_true_and] at hr;replace hr:=Aa hr;have A:=Aa (Ctx s w hs);go_enter func59,ntmps59;exact FD4
theorem O5 (s:Q00) (w:ZB) (hs:s.length<=20000) : ZE prog 159 #[↑s] w (Ret w (.bool (CH.ident s))):=by
 obtain⟨r,hr⟩:∃ r,CH.ident s=r:=⟨_,rfl⟩
 rw [hr];unfold CH.ident at hr;rw [Am hs,a_Bool_true_and] at hr;replace hr:=Aa hr;have A:=Aa (Ctx s w hs);go_enter func159,ntmps159;exact FD4
theorem Ug (s:Q00) (w:ZB) (hs:s.length<=20000) : ZE prog 240 #[↑s] w (Ret w (.bool (CH.ident s))):=by
 obtain⟨r,hr⟩:∃ r,CH.ident s=r:=⟨_,rfl⟩
 rw [hr];unfold CH.ident at hr;rw [Am hs,a_Bool_true_and] at hr;replace hr:=Aa hr;have A:=Aa (Ctx s w hs);go_enter func240,ntmps240;exact FD4
def Jan (w:ZB) (n:Nat) (r:ByteArray->ZC) (e:Ending) (w':ZB):Prop:=∃ b:ByteArray,e=.returned (r b)/\b.size<=n/\Below w w w'
theorem Uj (t:Int) (w:ZB):ZE prog 292 #[↑t] w (fun e w'=>e=.returned (.bool (aW t))/\w'=w):=by
 obtain⟨r,hr⟩:∃ r,Hid (aW t=r):=⟨_,Aa rfl⟩
 rw [hr.out];by_cases h0:0<=t
 ·have d0:ZH (0<=t)=true:=by simpa using h0
  exact FD151
 ·have d0:ZH (0<=t)=false:=by simpa using h0
  exact FD151
theorem I47 (n:Nat) (w:ZB) (hG:Gl w) (hn:n<=1000000000):ZE prog 293 #[↑n] w (Jan w 50 fun b=>.string b):=by have A:=Aa (G0 ((n:Int) / 10) w oM oM hG);have A2:=fun w=>G0 ((n:Int) % 10) w oM oM;go_enter func293,ntmps293;go_wp2_with fail;refine CmZ A.out fun w1 hb1=>?_;have A3:=Aa (A2 w1 (hG.below hb1));clear A A2;go_wp2_with fail;refine CmZ A3.out fun w2 hb2=>?_;clear A3;have hl1:=Lib.itoa_length_le ((n:Int) / 10) oM oM;have hl2:=Lib.itoa_length_le ((n:Int) % 10) oM oM;generalize Lib.itoa ((n:Int) / 10)=l1 at *;generalize Lib.itoa ((n:Int) % 10)=l2 at *;go_wp2;go_ret;refine⟨_,rfl,?_,hb1.trans (hb2.mono hb1.size)⟩;simp [ByteArray.size];omega
theorem Ask (t:Int) (w:ZB) (hG:Gl w):ZE prog 237 #[↑t] w (Jan w 200 fun b=>.tuple #[.string b,.int .i64 (if aW t then 0 else 1)]):=by
 have A:=Aa (Uj t w);cases hi:aW t with
 |false =>rw [hi] at A;go_enter func237,ntmps237;go_wp2_with fail;refine A.out.mono ?_;rintro e w1 ⟨rfl,rfl⟩;clear A;go_wp2;refine Aj (Aq rfl _ _ _) rfl ?_;exact⟨_,rfl,Az _,Ac _ _⟩
 |true =>
  rw [hi] at A;obtain⟨n,rfl,hn⟩:∃ n:Nat,t=n/\n<=144001439:=by unfold aW at hi;simp at hi;exact⟨t.toNat,oM,oM⟩
  clear hi;have A1:=Aa fun w=>G0 ((n:Int) / 1440) w oM oM;have A2:=Aa (I47 (n % 1440 / 60));have A3:=Aa (I47 (n % 60));have e2:((n % 1440 / 60:Nat):Int)=(n:Int) % 1440 / 60:=oM;have e3:((n % 60:Nat):Int)=(n:Int) % 60:=oM;rw [e2] at A2;rw [e3] at A3;clear e2 e3;go_enter func237,ntmps237;go_wp2_with fail;refine A.out.mono ?_;rintro e w1 ⟨rfl,rfl⟩;clear A;go_wp2_with fail;refine CmZ (A1.out _ hG) fun w2 hb2=>?_;have hG2:=hG.below hb2;clear A1;have hl1:=Lib.itoa_length_le ((n:Int) / 1440) oM oM;generalize Lib.itoa ((n:Int) / 1440)=l1 at *;go_wp2_with fail;refine (A2.out _ hG2 oM).mono ?_;rintro e w3 ⟨b3,rfl,hs3,hb3⟩;have hG3:=hG2.below hb3;clear A2;go_wp2_with fail;refine (A3.out _ hG3 oM).mono ?_;rintro e w4 ⟨b4,rfl,hs4,hb4⟩;clear A3;go_wp2;refine Aj (Aq rfl _ _ _) rfl ?_;refine⟨_,rfl,?_,(hb2.trans (hb3.mono hb2.size)).trans (hb4.mono (Af hb2.size hb3.size))⟩;show (((ByteArray.mk l1.toArray++ByteArray.mk #[47])++b3++ByteArray.mk #[58])++b4).size<=200;simp only [Jp];have e1:(ByteArray.mk l1.toArray).size=l1.length:=by simp [ByteArray.size]
  have e2:(ByteArray.mk #[47]).size=1:=rfl;have e3:(ByteArray.mk #[58]).size=1:=rfl;omega
theorem Vs (t:Int) (w:ZB) (hG:Gl w):ZE prog 161 #[↑t] w (Ret w (.bool (aW t))):=by
 have A:=Aa (Ask t w hG);go_enter func161,ntmps161;go_wp2_with fail;refine A.out.mono ?_;rintro e w1 ⟨b,rfl,hs,hb⟩;clear A;cases hi:aW t with
 |false =>go_wp2;go_ret;exact⟨by rw [hi];rfl,hb⟩
 |true =>go_wp2;go_ret;exact⟨by rw [hi];rfl,hb⟩
def Cd {α:Type} [BEq α] (k:α):List (α × ZC)->Nat->Option (Nat × ZC)
 |[],_=>none
 |(a,v)::l,i=>if k==a then some (i,v) else Cd k l (i+1)
def We {α:Type} (emb:α->ZC) (r:Nat) (w:ZB) (kvs:List (α × ZC)):Prop := ∃ (es:Array MapEntry) (clock:Nat),w.heap[r]?=some (.map es clock)/\es.toList.map (fun e=>(e.key,e.val))=kvs.map (fun p=>(emb p.1,p.2))
theorem T8 [BEq α] (emb:α->ZC) (kind:TypeDesc) (hs:∀ a b,Instr.sameNow kind (emb a) (emb b)=some (a==b)) (k:α) : ∀ (kvs:List (α × ZC)) (es:List MapEntry) (i:Nat),es.map (fun e=>(e.key,e.val))=kvs.map (fun p=>(emb p.1,p.2))->Instr.findNow kind (emb k) es i=some (Cd k kvs i):=by
 intro kvs;induction kvs with
 |nil =>
  intro es i h;have:es=[]:=by simpa using h
  subst this;rfl
 |cons p l ih =>
  intro es i h;obtain⟨a,v⟩:=p;cases es with
  |nil=>simp at h
  |cons e es =>
   simp only [Fa,List.cons.injEq,Hu] at h;obtain⟨⟨hk,hv⟩,hr⟩:=h;rw [Instr.findNow,hk,hs,Cd];cases hb:(k==a) with
   |true=>simp [hv]
   |false=>simpa using ih es (i+1) hr
structure kW {α:Type} [BEq α] (P:Program) (K:ZJ) (emb:α->ZC) (kind:TypeDesc):Prop where
 under:P.underlying K=some kind
 same:∀ a b,Instr.sameNow kind (emb a) (emb b)=some (a==b)
 check:∀ (w:ZB) (e:Bool) (a:α),(Instr.checkKey e 10000 K (emb a)).run P w=.ok () w
theorem C5 [BEq α] {P:Program} {T K E:ZJ} {emb:α->ZC} {kind:TypeDesc} (hK:kW P K emb kind) (hT:P.underlying T=some (.map K E)) (z:ZC) (hz:∀ w,(zeroValue E).run P w=.ok z w) {kvs:List (α × ZC)} (h:We emb r w kvs) (k:α) : (Instr.lookup T (.map (some r)) (emb k) false).run P w=.ok (((Cd k kvs 0).map (·.2)).getD z) w:=by
 obtain⟨es,clock,hb,hes⟩:=h;have hf:=T8 emb kind hK.same k kvs es.toList 0 hes;cases hq:Cd k kvs 0 with
 |none =>rw [hq] at hf;simp [Instr.lookup,Ej hT,G8 hb,hK.check,Instr.findKey,Ej hK.under,hf,hz,Result.andThen]
 |some p =>rw [hq] at hf;simp [Instr.lookup,Ej hT,G8 hb,hK.check,Instr.findKey,Ej hK.under,hf,Result.andThen]
theorem El [BEq α] {P:Program} {T K E:ZJ} {emb:α->ZC} {kind:TypeDesc} (hK:kW P K emb kind) (hT:P.underlying T=some (.map K E)) {kvs:List (α × ZC)} (h:We emb r w kvs) (k:α) (v:ZC) (hn:Cd k kvs 0=none) : ∃ o,(Instr.mapUpdate T (.map (some r)) (emb k) v).run P w=.ok () (w.putObj r o)/\We emb r (w.putObj r o) (kvs++[(k,v)]):=by
 obtain⟨es,clock,hb,hes⟩:=h;have hf:=T8 emb kind hK.same k kvs es.toList 0 hes;rw [hn] at hf;have hlt:r<w.heap.size:=(aZ hb)
 refine⟨.map (es.push { key:=emb k,val:=v,born:=clock }) (clock+1),?_,es.push { key:=emb k,val:=v,born:=clock },clock+1,World.putObj_heap_same hlt,?_⟩;·exact FD146
 ·simp [hes]
theorem Rm (emb:α->ZC) (w:ZB):We emb w (w.alloc (.map #[] 0)) []:=⟨#[],0,Aw _ _,rfl⟩
theorem We.below {emb:α->ZC} {w':ZB} {kvs:List (α × ZC)} (h:We emb r w kvs) (hb:Below w w w'):We emb r w' kvs:=by exact FD166
theorem We.lt {emb:α->ZC} {kvs:List (α × ZC)} (h:We emb r w kvs):r<w.heap.size:=by obtain⟨es,clock,h1,_⟩:=h;exact (aZ h1)
theorem B8 {w1:ZB} {B:Nat} (h:Below B w w1) (hr:B<=r) (o:Obj):Below B w (w1.putObj r o) := ⟨h.os,h.tape,h.output,by simp [World.putObj];exact h.size,fun k hk=>by rw [World.putObj_heap_other oM];exact h.block k hk⟩
theorem Pl:kW prog 9 aA .string where
 under:=underlying9
 same a b:=by
  show some ((⟨a.toArray⟩:ByteArray)==⟨b.toArray⟩)=_
  rw [Cr]
 check w e a:=MapKept.run_checkKey underlying9 (by trivial) e 9999
abbrev aJ (n:Int):ZC:=↑n
theorem Ty:kW prog 3 aJ (.int .i64) where
 under:=underlying3
 same a b:=by simp [Instr.sameNow]
 check w e a:=MapKept.run_checkKey underlying3 (by trivial) e 9999
end
end Go.Proofs.Y
namespace CH
theorem Rk (ls:List Str) (x:Str):dY (ls++[x])=(dY ls&&!ls.contains x):=by
 induction ls with
 |nil=>rfl
 |cons y l ih =>
  rw [Ea,dY,dY,ih];have e1:(l++[x]).contains y=(l.contains y||y==x):=by rw [Es];simp
  have e2:(y::l).contains x=(x==y||l.contains x):=by rw [Es];simp
  have e3:(x==y)=(y==x):=by rw [Es];simp;exact⟨fun h=>h.symm,fun h=>h.symm⟩
  rw [e1,e2,e3];cases l.contains y <;> cases dY l <;> cases l.contains x <;> cases (y==x) <;> rfl
theorem iY (ls:List Str) (x:Str):aN (ls++[x])=(aN ls&&(isName x&&!ls.contains x)):=by unfold aN;rw [Jg,Rk];simp only [J7,Ns,Jd];cases ls.all isName <;> cases dY ls <;> cases isName x <;> rfl
theorem kN (l1 l2:List Str) (h:aN (l1++l2)=true):aN l1=true:=by
 induction l2 generalizing l1 with
 |nil=>simpa using h
 |cons x l ih =>have:=ih (l1++[x]) (by simpa using h);rw [iY] at this;simp at this;exact this.1
theorem jS (ls:List Str) (k:Nat) (h:aN (ls.take k)=false):aN ls=false:=by
 cases hb:aN ls with
 |false=>rfl
 |true =>rw [<- D8 k ls] at hb;rw [kN _ _ hb] at h;cases h
end CH
namespace Go.Proofs.Y
open Go.RowKit Go.Lib Go.Shelf Go.Sort CH
theorem Hd2 (n m:Int) (w:ZB):ZE Tryz.prog 109 #[↑n,↑m] w (fun e w'=>e=.returned (.bool (CH.within n m))/\w'=w):=by
 obtain⟨r,hr⟩:∃ r,Hid (CH.within n m=r):=⟨_,Aa rfl⟩
 rw [hr.out];by_cases h0:0<=n
 ·have d0:ZH (0<=n)=true:=by simpa using h0
  go_enter Tryz.func109,Tryz.ntmps109;exact FD37
 ·have d0:ZH (0<=n)=false:=by simpa using h0
  go_enter Tryz.func109,Tryz.ntmps109;exact FD37
abbrev yO (r:Nat) (w:ZB) (ks:List Q00):Prop:=We aA r w (ks.map fun l=>(l,.bool true))
theorem T7 (l:Q00):∀ (ks:List Q00) (i:Nat),((Cd l (ks.map fun l=>(l,Value.bool true)) i).map (·.2)).getD (.bool false)=.bool (ks.contains l)/\((Cd l (ks.map fun l=>(l,Value.bool true)) i).isSome=ks.contains l):=by
 intro ks;induction ks with
 |nil=>intro i;exact⟨rfl,rfl⟩
 |cons x ks ih =>
  intro i;rw [Fa,Cd,List.contains_cons];cases h:(l==x) with
  |true=>simp
  |false=>simpa using ih (i+1)
theorem Etf {P:Program} {E:ZJ} {z:ZC} (h:(P.info? E).bind (·.zero)=some z) (w:ZB):(zeroValue E).run P w=.ok z w:=by
 cases hq:P.info? E with
 |none=>simp [hq] at h
 |some i =>simp [hq] at h;simp [zeroValue,typeInfo,hq,h,Result.andThen]
theorem Wf (w:ZB):(zeroValue 4).run Tryz.prog w=.ok (.bool false) w:=Etf kR w
theorem Bk2 (v:ZC) (ls:List Q00) (w:ZB) (hv:Strs w w v ls) (hl:ls.length<=100000) (hll:∀ l∈ls,l.length<=100000) : ZE Tryz.prog 107 #[v] w (Ret w (.bool (aN ls))):=by
 obtain⟨a,cap,rfl,hc1,hc2,hcell⟩:=hv;have hmm:=@Ji Tryz.prog;generalize hn:ls.length=n at *;go_enter Tryz.func107,Tryz.ntmps107;go_wp2_with fail;clear hmm;have hM0:=Rm aA w;have hb0:=(Ac _ w).alloc nR (.map #[] 0);generalize hw0:w.alloc (.map #[] 0)=w0 at *;go_loopw [9] (fun iv wr=>∃ k:Nat,k<=n/\iv=↑k/\Hid (aN (ls.take k)=true)/\yO w wr (ls.take k)/\Below w w wr) (fun iv _=>n - (ZG iv).toNat);case atStart=>exact⟨0,Az _,rfl,Aa rfl,hM0,hb0⟩
 case round =>
  obtain⟨k,hk,rfl,hu,hM,hb⟩:=hrel;by_cases hlt:k<n
  ·obtain⟨x,hx⟩:∃ x,ls[k]?=some x:=⟨_,Ad oM⟩
   have hxl:=hll x (Ap hx);obtain⟨b,off,rfl,hblt,hcs⟩:=hcell (fun e=>by rw [e] at hn;simp at hn;omega);have hck:=(hb.cell (p:=⟨b,off+k,none⟩) hblt).trans (hcs k x hx);have hts:ls.take (k+1)=ls.take k++[x]:=by rw [D7,hx];rfl
   have hno:aN (ls.take (k+1))=(CH.isName x&&!(ls.take k).contains x):=by rw [hts,iY,hu.out];rfl
   have A:=Aa (Uz x wr oM);have hlk:=C5 Pl Tryz.underlying175 (.bool false) Wf hM x;rw [(T7 x (ls.take k) 0).1] at hlk;have hko:((ls.take k).map fun l=>(l,Value.bool true))++[(x,.bool true)]=(ls.take (k+1)).map fun l=>(l,Value.bool true):=by rw [hts,Ep];rfl
   have hup:=fun (h:(ls.take k).contains x=false)=>El Pl Tryz.underlying175 hM x (.bool true) (by
    cases hq:Cd x ((ls.take k).map fun l=>(l,Value.bool true)) 0 with
    |none=>rfl
    |some p =>have:=(T7 x (ls.take k) 0).2;rw [hq,h] at this;cases this)
   rw [hko] at hup;have HN:=Aa hno;have HU:=Aa hup;have HT:=Aa (jS ls (k+1));have HF:=Aa hcell;have HC:=Aa hcs;have HA:=Aa hll;clear hno hup hts hko hcell hcs hll hx;cases hin:CH.isName x with
   |false =>rw [hin] at A;have hr':aN ls=false:=HT.out (by rw [HN.out,hin];rfl);exact FD170
   |true =>
    rw [hin] at A;cases hct:(ls.take k).contains x with
    |true =>have hr':aN ls=false:=HT.out (by rw [HN.out,hin,hct];rfl);rw [hct] at hlk;exact FD170
    |false =>
     have hr':aN (ls.take (k+1))=true:=by rw [HN.out,hin,hct];rfl
     have HR:=Aa hr';rw [hct] at hlk;obtain⟨o,ho,hM'⟩:=HU.out hct;clear hr' HN HT HU;go_wp2_with fail;refine A.out.mono ?_;rintro e w1 ⟨rfl,rfl⟩;clear A;go_wp2;go_roundw;case rel=>exact⟨k+1,oM,by go_num,HR,hM',B8 hb nR _⟩
     case measure=>simp [ZG];omega
  ·have e:k=n:=oM;subst e;have hr':aN ls=true:=by rw [<- hu.out,<- hn,Dn]
   exact FD64
end Go.Proofs.Y
namespace Go.Proofs.Y
section
open Go.Lib Go.Proofs.Tryz Go.RowKit Go.Shelf Go.Sort CH
def GR (B:Nat) (w:ZB) (cs:List ZC) (l:fF):Prop := ∃ vm vp,cs=[aA l.id,vm,vp,aJ l.quota,aJ l.uses,aJ l.start,aJ l.aF]/\Strs B w vm l.measures/\Strs B w vp l.aH
def Fx (ls:List Q00):Prop:=ls.length<=100000/\∀ l∈ls,l.length<=10000
theorem Strs.form {B:Nat} {w:ZB} {v:ZC} {ls:List Q00} (h:Strs B w v ls):∃ a cap,v=.slice a ls.length cap/\ls.length<=cap/\cap<=9223372036854775807:=by exact FD142
theorem Cst (cs:List ZC) (l:fF) (w:ZB) (hl:GR w w cs l) (hid:l.id.length<=10000) (hm:Fx l.measures) (hp:Fx l.aH) : ZE prog 56 #[.agg cs.toArray] w (Ret w (.bool (aO l))):=by
 obtain⟨vm,vp,rfl,hvm,hvp⟩:=hl;obtain⟨r,hr⟩:∃ r,Hid (aO l=r):=⟨_,Aa rfl⟩
 rw [hr.out];obtain⟨am,cm,rfl,_,_⟩:=hvm.form;obtain⟨ap,cp,rfl,_,_⟩:=hvp.form;have hb0:=fun o=>(Ac _ w).alloc nR o;have A1:=Aa fun o=>Bk2 _ l.measures (w.alloc o) ((hvm.below (hb0 o) nR).mono (hb0 o).size) hm.1 (fun x hx=>Af (hm.2 x hx) dC);have A2:=Aa fun (w1:ZB) (hb:Below w w w1)=>Bk2 _ l.aH w1 ((hvp.below hb nR).mono hb.size) hp.1 (fun x hx=>Af (hp.2 x hx) dC);have A3:=Aa fun (w1:ZB)=>Uz l.id w1 oM;have W:=Aa fun (n m:Int) (w1:ZB)=>Hd2 n m w1;generalize hnm:l.measures.length=nm at *;generalize hnp:l.aH.length=np at *;go_enter func56,ntmps56;go_wp2_with fail;refine CmZ (A1.out _) fun w1 hb1=>?_;have hblk1:=(hb1.block w sM).trans (Aw w _);have hB1:Below w w w1:=(hb0 _).trans (hb1.mono sM);have hlt1:w.heap.size<w1.heap.size:=(aZ hblk1)
 clear hb1 A1 hb0;have JA:w1.cell? ⟨w,0,none⟩=some (aA l.id):=Ab hblk1 0;have IZ:w1.cell? ⟨w,1,none⟩=some (.slice am nm cm):=Ab hblk1 1;have IY:w1.cell? ⟨w,2,none⟩=some (.slice ap np cp):=Ab hblk1 2;have IU:w1.cell? ⟨w,3,none⟩=some (aJ l.quota):=Ab hblk1 3;have IQ:w1.cell? ⟨w,4,none⟩=some (aJ l.uses):=Ab hblk1 4;have IL:w1.cell? ⟨w,5,none⟩=some (aJ l.start):=Ab hblk1 5;have IK:w1.cell? ⟨w,6,none⟩=some (aJ l.aF):=Ab hblk1 6;cases h1:aN l.measures with
 |false =>
  clear A2;have HL:Hid ((aN l.measures&&aN l.aH&&(ZH (0<l.measures.length)&&ZH (l.measures.length<=12)&&ZH (l.aH.length<=60)))=false):=Aa (by rw [h1];rfl);go_wp2_with fail;cases hi:CH.isName l.id with
  |false =>have A:=A3.out w1;rw [hi] at A;replace A:=Aa A;clear A3 W;refine CmZ (A.out) fun w9 hw9=>?_;rw [hw9];clear hw9 w9;clear A;go_wp2;go_ret;exact⟨by rw [<- hr.out];simp [aO,hi],hB1⟩
  |true =>have A:=A3.out w1;rw [hi] at A;replace A:=Aa A;clear A3;refine CmZ (A.out) fun w9 hw9=>?_;rw [hw9];clear hw9 w9;clear A;clear W;go_wp2;go_ret;exact⟨by rw [<- hr.out];simp [aO,hi,HL.out],hB1⟩
 |true =>
  go_wp2_with fail;refine CmZ (A2.out w1 hB1) fun w2 hb2=>?_;have hblk2:=(hb2.block w hlt1).trans hblk1;have hB2:Below w w w2:=hB1.trans (hb2.mono hB1.size);clear hb2 A2 JA IZ IY IU IQ IL IK;have NC:w2.cell? ⟨w,0,none⟩=some (aA l.id):=Ab hblk2 0;have MZ:w2.cell? ⟨w,1,none⟩=some (.slice am nm cm):=Ab hblk2 1;have MX:w2.cell? ⟨w,2,none⟩=some (.slice ap np cp):=Ab hblk2 2;have MW:w2.cell? ⟨w,3,none⟩=some (aJ l.quota):=Ab hblk2 3;have MV:w2.cell? ⟨w,4,none⟩=some (aJ l.uses):=Ab hblk2 4;have MS:w2.cell? ⟨w,5,none⟩=some (aJ l.start):=Ab hblk2 5;have MR:w2.cell? ⟨w,6,none⟩=some (aJ l.aF):=Ab hblk2 6;cases h2:aN l.aH with
  |false =>have HL:Hid ((aN l.measures&&aN l.aH&&(ZH (0<l.measures.length)&&ZH (l.measures.length<=12)&&ZH (l.aH.length<=60)))=false):=Aa (by rw [h1,h2];rfl);exact FD10
  |true =>
   by_cases h3:0<nm
   ·have d3:ZH ((0:Int)<(nm:Int))=true:=by simp;omega
    by_cases h4:nm<=12
    ·have d4:ZH ((nm:Int)<=(12:Int))=true:=by simp;omega
     by_cases h5:np<=60
     ·have d5:ZH ((np:Int)<=(60:Int))=true:=by simp;omega
      have HL:Hid ((aN l.measures&&aN l.aH&&(ZH (0<l.measures.length)&&ZH (l.measures.length<=12)&&ZH (l.aH.length<=60)))=true):=Aa (by rw [h1,h2,hnm,hnp,Am h3,Am h4,Am h5];rfl);go_wp2_with fail;cases hi:CH.isName l.id with
      |false =>exact FD70
      |true =>
       have A:=A3.out w2;rw [hi] at A;replace A:=Aa A;clear A3;refine CmZ (A.out) fun w9 hw9=>?_;rw [hw9];clear hw9 w9;clear A;cases hw0:CH.within l.quota 1000000000 with
       |false =>have A:=W.out l.quota 1000000000 w2;rw [hw0] at A;replace A:=Aa A;clear W;go_wp2_with fail;refine CmZ (A.out) fun w9 hw9=>?_;rw [hw9];clear hw9 w9;clear A;go_wp2;go_ret;exact⟨by rw [<- hr.out];simp [aO,hi,HL.out,hw0],hB2⟩
       |true =>
        have A:=W.out l.quota 1000000000 w2;rw [hw0] at A;replace A:=Aa A;go_wp2_with fail;refine CmZ (A.out) fun w9 hw9=>?_;rw [hw9];clear hw9 w9;clear A;cases hw1:CH.within l.uses 1000 with
        |false =>have A:=W.out l.uses 1000 w2;rw [hw1] at A;replace A:=Aa A;clear W;go_wp2_with fail;refine CmZ (A.out) fun w9 hw9=>?_;rw [hw9];clear hw9 w9;clear A;go_wp2;go_ret;exact⟨by rw [<- hr.out];simp [aO,hi,HL.out,hw0,hw1],hB2⟩
        |true =>
         have A:=W.out l.uses 1000 w2;rw [hw1] at A;replace A:=Aa A;go_wp2_with fail;refine CmZ (A.out) fun w9 hw9=>?_;rw [hw9];clear hw9 w9;clear A;cases hw2:CH.within l.start 144001439 with
         |false =>have A:=W.out l.start 144001439 w2;rw [hw2] at A;replace A:=Aa A;clear W;go_wp2_with fail;refine CmZ (A.out) fun w9 hw9=>?_;rw [hw9];clear hw9 w9;clear A;go_wp2;go_ret;exact⟨by rw [<- hr.out];simp [aO,hi,HL.out,hw0,hw1,hw2],hB2⟩
         |true =>
          have A:=W.out l.start 144001439 w2;rw [hw2] at A;replace A:=Aa A;go_wp2_with fail;refine CmZ (A.out) fun w9 hw9=>?_;rw [hw9];clear hw9 w9;clear A;cases hw3:CH.within l.aF 144001439 with
          |false =>have A:=W.out l.aF 144001439 w2;rw [hw3] at A;replace A:=Aa A;clear W;go_wp2_with fail;refine CmZ (A.out) fun w9 hw9=>?_;rw [hw9];clear hw9 w9;clear A;go_wp2;go_ret;exact⟨by rw [<- hr.out];simp [aO,hi,HL.out,hw0,hw1,hw2,hw3],hB2⟩
          |true =>have A:=W.out l.aF 144001439 w2;rw [hw3] at A;replace A:=Aa A;go_wp2_with fail;refine CmZ (A.out) fun w9 hw9=>?_;rw [hw9];clear hw9 w9;clear A;go_wp2;go_ret;refine⟨?_,hB2⟩;rw [<- hr.out];simp [aO,hi,HL.out,hw0,hw1,hw2,hw3]
     ·have d5:ZH ((np:Int)<=(60:Int))=false:=by simp;omega
      have HL:Hid ((aN l.measures&&aN l.aH&&(ZH (0<l.measures.length)&&ZH (l.measures.length<=12)&&ZH (l.aH.length<=60)))=false):=Aa (by rw [h1,h2,hnp,Ak h5];simp);exact FD10
    ·have d4:ZH ((nm:Int)<=(12:Int))=false:=by simp;omega
     have HL:Hid ((aN l.measures&&aN l.aH&&(ZH (0<l.measures.length)&&ZH (l.measures.length<=12)&&ZH (l.aH.length<=60)))=false):=Aa (by rw [h1,h2,hnm,Ak h4];simp);exact FD10
   ·have d3:ZH ((0:Int)<(nm:Int))=false:=by simp;omega
    have HL:Hid ((aN l.measures&&aN l.aH&&(ZH (0<l.measures.length)&&ZH (l.measures.length<=12)&&ZH (l.aH.length<=60)))=false):=Aa (by rw [h1,h2,hnm,Ak h3];simp);exact FD10
end
end Go.Proofs.Y
