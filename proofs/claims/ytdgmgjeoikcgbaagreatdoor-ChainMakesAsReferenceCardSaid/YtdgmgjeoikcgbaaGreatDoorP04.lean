/-
  ChainMakes: the proof, part 5 of 34.
-/
import Derived.Test.YtdgmgjeoikcgbaaGreatDoorP03
import Derived.RangeFuncRecord
set_option linter.unusedSimpArgs false
set_option linter.unusedVariables false
set_option maxHeartbeats 40000000
set_option maxRecDepth 100000
open Go renaming undef -> ZA, World -> ZB, Value -> ZC, Calls -> ZE, TypeId -> ZJ
open Go.RowKit renaming intOf -> ZG
open Decidable renaming decide -> ZH
namespace Go.Proofs.YtdgmgjeoikcgbaaGreatDoor
section
open Go.Lib Go.Proofs.Tryz Go.RowKit Go.Shelf Go.Sort CH
set_option maxRecDepth 1000000 in
theorem Xm (r:Int) (w:ZB) (h0:128<=r) (h1:r<=1114111) : ZE prog 281 #[.string ⟨#[34,10]⟩,.int .i32 r] w (Ret w (.int .i64 (-1))):=by
 by_cases he:r=65533
 ·subst he;go_enter func281,ntmps281;go_wp2_with fail;go_loopg [5,6] 2 (fun g _ _ wx=>∃ i:Nat,i+g=2/\wx=w.iter ⟨#[34,10]⟩ i);case atStart=>exact⟨0,rfl,rfl⟩
  case round =>
   obtain⟨i,hig,rfl⟩:=hrel;rcases gk with _|_|_|g;·obtain rfl:i=2:=oM;have hnx:=fun ty=>run_next_end (P:=prog) w ⟨#[34,10]⟩ 2 ty dC;go_wp2;go_ret;exact⟨rfl,(Ac _ _).alloc nR _⟩
   ·obtain rfl:i=1:=oM;have hnx:=fun ty=>run_next_ascii (P:=prog) w ⟨#[34,10]⟩ 1 ty dC dC;go_wp2;go_roundg 0;case measure=>omega
    case rel=>exact⟨2,oM,rfl⟩
   ·obtain rfl:i=0:=oM;have hnx:=fun ty=>run_next_ascii (P:=prog) w ⟨#[34,10]⟩ 0 ty dC dC;go_wp2;go_roundg 1;case measure=>omega
    case rel=>exact⟨1,oM,rfl⟩
   ·omega
 ·have V:=Tryz.utf8_ValidRune r w;obtain⟨v,hv⟩:∃ v,Lib.validRune r=v:=⟨_,rfl⟩
  rw [hv] at V;have hb1:(r==65533)=false:=by simpa using he
  have hb2:ZH (r<128)=false:=by simp;omega
  cases v with
  |false =>clear hv;go_enter func281,ntmps281;go_wp2_with fail;refine V.mono ?_;rintro e w' ⟨rfl,hw⟩;rw [hw];clear V hw;exact FD34
  |true =>
   clear hv;go_enter func281,ntmps281;go_wp2_with fail;refine V.mono ?_;rintro e w' ⟨rfl,hw⟩;rw [hw];clear V hw;by_cases hlt:r<2048
   ·have hen:Utf8.encode r=⟨#[UInt8.ofNat (192+r.toNat / 64),UInt8.ofNat (128+r.toNat % 64)]⟩:=by
     have hval:Utf8.valid r=true:=by simp [Utf8.valid];omega
     unfold Utf8.encode;simp only [hval,Np];rw [Ah oM,Ar oM]
    generalize UInt8.ofNat (192+r.toNat / 64)=b1 at hen;obtain⟨b2,hb2'⟩:∃ b2,UInt8.ofNat (128+r.toNat % 64)=b2:=⟨_,rfl⟩
    have hb3:128<=b2.toNat:=by rw [<- hb2'];simp [UInt8.toNat_ofNat'];omega
    rw [hb2'] at hen;clear hb2';have hne:((10:Int) != (b2.toNat:Int))=true:=by simp;omega
    go_wp2_with fail;go_step3;go_wp2_with fail;go_loopg [9] 0 (fun g v wx=>wx=w/\v=.int .i64 1);case atStart=>exact⟨rfl,rfl⟩
    case round =>
     obtain⟨rfl,rfl⟩:=hrel;go_wp2_with fail;go_step3;go_wp2_with fail;have hx1:∀ h,(⟨#[34,10]⟩:ByteArray)[1]'h=10:=fun _=>rfl;have hx2:∀ h,(⟨#[b1,b2]⟩:ByteArray)[1]'h=b2:=fun _=>rfl;refine Bc kR kR ?_;repeat (quiet_step (fail))
     refine Cm ?_;intro wq hbq;replace hbq:=As hbq;go_wp2_with fail;have hw2:IntKind.i64.wrap 2=2:=dC;have zU:=hbq;clear hbq;generalize wq=wq1 at *;have IB:∀ (W:ZB),ZE prog 118 #[.string ⟨#[]⟩,.int .u8 (b2.toNat:Int)] W (fun e w'=>e=.returned (.int .i64 (-1))/\Below W W w'):=fun W=>(Tryz.strings_IndexByte ⟨#[]⟩ (b2.toNat:Int) W).mono fun e w' ⟨h1,h2⟩=>⟨h1,h2 ▸ Ac _ _⟩
     refine Bc kR kR ?_;repeat (quiet_step (exact Bd (IB _)))
     refine Cm ?_;intro wq hbq;replace hbq:=As hbq;go_wp2_with fail;rw [Exit.noGoto_ret];go_wp2_with fail;rw [Exit.noGoto_ret];go_ret;exact⟨rfl,zU.trans (hbq.mono zU.size)⟩
   ·obtain⟨E,hE⟩:∃ E,Utf8.encode r=E:=⟨_,rfl⟩
    have hE3:3<=E.size/\E.size<=4:=by
     rw [<- hE];unfold Utf8.encode;cases hv:Utf8.valid r;·exact (dC:3<=(Utf8.encode (-1)).size/\(Utf8.encode (-1)).size<=4)
     ·simp only [Np];rw [Ah oM,Ah oM];split;·exact⟨Bv 3,show 3<=4 by omega⟩
      ·exact⟨show 3<=4 by omega,Bv 4⟩
    have hE':=Aa hE;go_wp2_with fail;go_step3;go_wp2_with fail;go_loopg [9] 0 (fun g v wx=>wx=w/\v=.int .i64 ((E.size:Int) - 1));case atStart=>exact⟨rfl,rfl⟩
    case round =>obtain⟨rfl,rfl⟩:=hrel;go_wp2_with fail;rw [Exit.noGoto_ret];go_ret;exact⟨rfl,Ac _ _⟩
theorem Ipw (s:ByteArray) (k:Nat) (h:k<s.size):s.get! k=s[k]'h:=by simp [ByteArray.get!,getElem!_pos,h];rfl
theorem Ffi (s:ByteArray) (i:Nat) (h:i<s.size) (h128:128<=(s[i]'h).toNat) : 128<=(Utf8.decode s i).1/\(Utf8.decode s i).1<=1114111/\1<=(Utf8.decode s i).2/\i+(Utf8.decode s i).2<=s.size/\∀ j,i<=j->j<i+(Utf8.decode s i).2->128<=(s.get! j).toNat:=by
 have g0:128<=(s.get! i).toNat:=by rw [Ipw s i h];exact h128
 have one:∀ (r:Nat),128<=r->r<=1114111->128<=(r,1).1/\(r,1).1<=1114111/\1<=(r,1).2/\i+(r,1).2<=s.size/\∀ j,i<=j->j<i+(r,1).2->128<=(s.get! j).toNat:=fun r h1 h2 =>⟨h1,h2,Bv _,h,fun j hj1 hj2=>by have e:j=i:=(by dsimp only at hj2;omega);subst e;exact g0⟩
 have b0:=(s.get! i).toNat_lt;unfold Utf8.decode;simp only [Ia,Utf8.runeError];rw [Ah oM];split
 ·rename_i hc;simp only [Aw,Bl,D7] at hc;obtain⟨hb,hl1,hc1⟩:=hc;split
  ·refine⟨oM,oM,oM,oM,fun j hj1 hj2=>?_⟩;rcases (oM:j=i\/j=i+1) with rfl|rfl;·exact g0
   ·omega
  ·exact one _ dC dC
 ·split
  ·rename_i hc;simp only [Aw,Bl,D7] at hc;obtain⟨⟨hb,hl1,hc1⟩,hl2,hc2⟩:=hc;split
   ·refine⟨by simp_all;omega,oM,oM,oM,fun j hj1 hj2=>?_⟩;rcases (oM:j=i\/j=i+1\/j=i+2) with rfl|rfl|rfl;·exact g0
    ·omega
    ·omega
   ·exact one _ dC dC
  ·split
   ·rename_i hc;simp only [Aw,Bl,D7] at hc;obtain⟨⟨⟨hb,hl1,hc1⟩,hl2,hc2⟩,hl3,hc3⟩:=hc;split
    ·rename_i hv;simp only [Aw,Bl,Utf8.valid,Dy] at hv;refine⟨oM,oM,oM,oM,fun j hj1 hj2=>?_⟩;rcases (oM:j=i\/j=i+1\/j=i+2\/j=i+3) with rfl|rfl|rfl|rfl;·exact g0
     ·omega
     ·omega
     ·omega
    ·exact one _ dC dC
   ·exact one _ dC dC
theorem run_next_at {P:Program} {w:ZB} {B:Nat} {s:ByteArray} {pos:Nat} (hB:w.heap[B]?=some (.stringIter s pos)) (ty:ZJ) (h:pos<s.size) : (Instr.next (.pointer (some ⟨B,0,none⟩)) true ty).run P w = .ok (.tuple #[.bool true,↑pos,.int .i32 (Utf8.decode s pos).1]) (w.putObj B (.stringIter s (pos+(Utf8.decode s pos).2))):=by simp [Instr.next,getObj,setObj,Sem.run,hB,Result.andThen,h,goInt,World.putObj]
theorem Uz {P:Program} {w:ZB} {B:Nat} {s:ByteArray} {pos:Nat} (hB:w.heap[B]?=some (.stringIter s pos)) (ty:ZJ) (h:¬ pos<s.size) : (Instr.next (.pointer (some ⟨B,0,none⟩)) true ty).run P w=.ok (.tuple #[.bool false]) w:=by simp [Instr.next,getObj,Sem.run,hB,h]
theorem Yy {w w1:ZB} {B r:Nat} (h:Below B w w1) (hr:B<=r) (o:Obj):Below B w (w1.putObj r o) := ⟨h.os,h.tape,h.output,by simp [World.putObj];exact h.size,fun k hk=>by rw [World.putObj_heap_other oM];exact h.block k hk⟩
def Mwe (s:ByteArray) (w:ZB) (g:Nat) (wx:ZB):Prop := ∃ i:Nat,s.size<=i+g/\i<=s.size/\Below w w wx/\wx.heap[w.heap.size]?=some (.stringIter s i)/\Lib.NoAny s.data.toList [34,10] i
set_option maxRecDepth 1000000 in
theorem Xo (s:ByteArray) (w:ZB) (h8:s.size<=8) : ZE prog 231 #[.string s,.string ⟨#[34,10]⟩] w (Ret w (.int .i64 (Lib.indexAny s.data.toList [34,10]))):=by
 have h8z:ZH ((8:Int)<(s.size:Int))=false:=Ak oM;have SA:=fun (n:Int) (W:ZB)=>Any.strings_shouldUseASCIISet (P:=prog) (ρ:=Tryz.lays153_ren) { lays153 with } n W;have HI:=fun (r:Int) (W:ZB)=>Xm r W;have HI:=Aa HI;have HA:=Aa fun (r:Int) (W:ZB)=>Tryz.strings_IndexRune_ascii ⟨#[34,10]⟩ r W;have SA:=Aa SA;obtain⟨R,hR⟩:∃ R,Hid (Lib.indexAny s.data.toList [34,10]=R):=⟨_,Aa rfl⟩
 rw [hR.out];go_enter func231,ntmps231;go_wp2_with fail;refine (SA.out _ _).mono ?_;rintro e w' ⟨rfl,hw⟩;rw [hw,h8z];clear hw SA;go_wp2_with fail;go_loopg [9,10] s.size (fun g _ _ wx=>Mwe s w g wx);case atStart=>exact⟨0,oM,oM,(Ac _ _).alloc nR _,World.iter_heap w s 0,Lib.NoAny.zero _ _⟩
 case round =>
  obtain⟨i,hig,hile,hb,hit,hno⟩:=hrel;have HN:=Aa hno;have Hit:=Aa hit;have hsz:w.heap.size<wr.heap.size:=(aZ hit)
  clear hno;by_cases hi:i<s.size
  ·cases gk with
   |zero=>omega
   |succ g =>
    have hnx:=fun ty=>run_next_at (P:=prog) hit ty hi;have hbp:=fun o=>Yy hb (Bv w) o;have hip:=fun o=>World.putObj_heap_same (w:=wr) (o:=o) hsz;obtain⟨x,hx⟩:∃ x:UInt8,s[i]'hi=x:=⟨_,rfl⟩
    have Hx:Hid (s.data.toList[i]?=some x):=Aa (by rw [<- hx];exact Lib.data_getElem? s i hi);by_cases hx1:x.toNat<128
    ·have hd:=decode_ascii s i hi (by rw [hx];exact hx1);rw [hd,hx] at hnx;dsimp only at hnx;have hcon:=Lib.contains_iff_indexByte [34,10] x;have hback:((x.toNat:Int)).toNat.toUInt8=x:=sM;clear hit hd hx;cases hin:List.contains [34,10] x with
     |false =>
      rw [hin] at hcon;have hlt:ZH ((0:Int)<=Lib.indexByte [34,10] x)=false:=hcon.symm;clear hcon;go_wp2_with fail;refine (HA.out _ _ oM oM).mono ?_;rintro e w' ⟨rfl,hw⟩;rw [hw,hback];clear hw;go_wp2;go_roundg g;case measure=>omega
      case rel=>exact⟨i+1,oM,oM,hbp _,hip _,HN.out.succ Hx.out hin⟩
     |true =>rw [hin] at hcon;have hlt:ZH ((0:Int)<=Lib.indexByte [34,10] x)=true:=hcon.symm;clear hcon;go_wp2_with fail;refine (HA.out _ _ oM oM).mono ?_;rintro e w' ⟨rfl,hw⟩;rw [hw,hback];clear hw;go_wp2;go_ret;exact⟨Pu (by rw [<- hR.out,Lib.indexAny_hit HN.out Hx.out hin]),hbp _⟩
    ·have hd:=Ffi s i hi (by rw [hx];omega);obtain⟨d1,hd1⟩:∃ d,(Utf8.decode s i).1=d:=⟨_,rfl⟩
     obtain⟨d2,hd2⟩:∃ d,(Utf8.decode s i).2=d:=⟨_,rfl⟩
     rw [hd1,hd2] at hnx;rw [hd1,hd2] at hd;obtain⟨e1,e2,e3,e4,e5⟩:=hd;have HN2:Hid (Lib.NoAny s.data.toList [34,10] (i+d2)):=Aa fun j b hj hb'=>by
      by_cases hji:j<i;·exact HN.out j b hji hb'
      ·have h1:=e5 j oM hj;have h2:j<s.size:=oM;rw [Ipw s j h2] at h1;rw [Lib.data_getElem? s j h2] at hb';cases hb';generalize s[j]=c at h1;simp only [I8,A8,Az,Df,Di];rintro (rfl|rfl) <;> exact absurd h1 dC
     clear hit hx hd1 hd2 e5 Hx;go_wp2_with fail;refine (HI.out _ _ oM oM).mono ?_;rintro e w1 ⟨rfl,hb1⟩;have hB2:Below w w w1:=(hbp _).trans (hb1.mono (hbp _).size);have hI2:=(hb1.block w (by simp [World.putObj];exact hsz)).trans (hip _);clear hnx hbp hip;go_wp2;go_roundg g;case measure=>omega
     case rel=>exact⟨i+d2,oM,oM,hB2,hI2,HN2.out⟩
  ·obtain rfl:i=s.size:=oM;have hnx:=fun ty=>Uz (P:=prog) hit ty hi;clear hit;go_wp2;go_ret;exact⟨Pu (by rw [<- hR.out,Lib.indexAny_none (by rw [<- Lib.size_eq];exact HN.out)]),hb⟩
theorem Bst (s:List UInt8) (w:ZB) (hs:s.length<=1000000) : ZE prog 231 #[↑s,.string ⟨#[34,10]⟩] w (Ret w (.int .i64 (Lib.indexAny s [34,10]))):=by
 have hz:(⟨s.toArray⟩:ByteArray).size=s.length:=by simp [ByteArray.size]
 by_cases h8:s.length<=8;·have:=Xo ⟨s.toArray⟩ w oM;exact FD151
 ·have:=Tryz.strings_IndexAny_long (fun w=>by kernel_rfl) ⟨s.toArray⟩ ⟨#[34,10]⟩ w dC oM oM dC (fun j b hj=>by
   rcases j with _|_|j;·cases hj;decide
   ·cases hj;decide
   ·simp at hj)
  refine this.mono fun e w' ⟨h1,h2⟩=>⟨by simpa using h1,?_⟩
  rw [h2];exact ((Ac _ _).alloc nR _).alloc sM _
def yV (t:CH.Tok):ZC:=.agg #[↑t.kind,↑t.pos,↑t.n,↑t.text]
def rX:Except Nat (CH.Tok × Nat)->ZC
 |.error e=>.tuple #[.agg #[.int .i64 0,.int .i64 0,.int .i64 0,.string ⟨#[]⟩],.int .i64 0,↑e]
 |.ok (t,j)=>.tuple #[yV t,↑j,.int .i64 0]
theorem Ext:∀ l:List UInt8,Lib.indexAny l [34,10]=match l.findIdx? (fun c=>c==34||c==10) with|none=>-1|some n=>(n:Int):=by
 intro l;induction l with
 |nil=>rfl
 |cons b l ih =>
  rw [Lib.indexAny,List.findIdx?_cons,ih];have e:[34,10].contains b=(b==34||b==10):=by rw [En];simp
  rw [e];by_cases h:(b==34||b==10)=true;·simp [h]
  ·cases hf:l.findIdx? (fun c=>c==34||c==10) with
   |none=>simp [h]
   |some n =>have:¬ ((n:Int) = -1):=oM;simp [h,this]
theorem Hws:∀ (l:List UInt8) (acc:Nat),(∀ c∈l,CH.cls c=4)->Lib.decFrom acc l=some (l.foldl (fun n c=>n*10+(c.toNat - 48)) acc):=by
 intro l;induction l with
 |nil=>intro acc _;rfl
 |cons c l ih =>intro acc h;have hc:=qN c (h c sM);rw [Lib.decFrom,Lib.digitVal,Ar hc];exact ih _ fun x hx=>h x (by simp [hx])
theorem Fl8 (l:List UInt8) (h:∀ c∈l,CH.cls c=4) (hne:l≠[]):Lib.atoi l=some (CH.dec l:Int):=by
 cases l with
 |nil=>exact absurd rfl hne
 |cons b r =>
  have hb:=qN b (h b sM);have h1:(b==45)=false:=by rw [CH.beq_toNat];simp;omega
  have h2:(b==43)=false:=by rw [CH.beq_toNat];simp;omega
  rw [Lib.atoi,h1,h2];show (Lib.decNat (b::r)).map _=_;unfold Lib.decNat;rw [Hws _ 0 h];rfl
theorem Qj {P:Program} {fn:Func} {p u v:Tmp} {ty:ZJ} (h:fn.results=#[.cell p ty,.tmp u,.tmp v]) (tmps:Array ZC) (w:ZB) (a:Addr) (x:ZC) (hp:tmps.getD p ZA=.pointer (some a)) (hl:(loadVar ty a).run P w=.ok x w):(results fn tmps).run P w=.ok (.tuple #[x,tmps.getD u ZA,tmps.getD v ZA]) w:=by
 simp only [results,h];have hp':tmps[p]?.getD ZA=.pointer (some a):=by simpa using hp
 simp [asAddr];rw [hp'];simp [Result.andThen,hl]
theorem Nx {w:ZB} {g:Nat} (h:w.heap[g]?=some (.cells #[.int .i64 0,.int .i64 0,.int .i64 0,.string ⟨#[]⟩] 173 (0,0))) : w.there g 0 4/\w.cell? ⟨g,0,none⟩=some (.int .i64 0)/\w.cell? ⟨g,1,none⟩=some (.int .i64 0)/\w.cell? ⟨g,2,none⟩=some (.int .i64 0)/\w.cell? ⟨g,3,none⟩=some (.string ⟨#[]⟩) /\ w.frozen? ⟨g,0,none⟩=false/\w.frozen? ⟨g,1,none⟩=false/\w.frozen? ⟨g,2,none⟩=false/\w.frozen? ⟨g,3,none⟩=false:=by
 refine⟨fun j hj=>?_,Ab h 0,Ab h 1,Ab h 2,Ab h 3,A9 h 0,A9 h 1,A9 h 2,A9 h 3⟩;rw [Bh,Ab h j,A9 h j];rcases j with _|_|_|_|j;·simp
 ·simp
 ·simp
 ·simp
 ·omega
theorem Bsu (s:List UInt8) (k:Nat):Lib.hasPrefix (s.drop k) [61]=ZH (s[k]?=some 61):=by
 unfold Lib.hasPrefix;by_cases hk:k<s.length
 ·rw [H7 hk,Ad hk];by_cases h:s[k]=61;·rw [h];simp
  ·simp [List.isPrefixOf,h];exact fun e=>h e.symm
 ·rw [Kw oM,Gm oM];simp
theorem Mk6:(prog.info? 173).map (·.size)=some 4:=kR
theorem Gk {r:ZC} {w w1:ZB} {b:Nat} {cells:List ZC} {tmps:Array ZC} (hlen:cells.length=4) (hth:w1.there b 0 4) (hp:tmps.getD 4 ZA=.pointer (some ⟨b,0,none⟩)) (hb:Below w w w1) (hbw:w.heap.size<=b) (hv:Hid (.tuple #[.agg cells.toArray,tmps.getD 5 ZA,tmps.getD 6 ZA]=r)) : bodyPost prog Tryz.f179 (Ret w r) .ret { tmps:=tmps,defers:=[] } (w1.setCells b 0 cells):=by refine Ag (Qj (p:=4) (u:=5) (v:=6) (ty:=173) rfl _ _ ⟨b,0,none⟩ _ hp (Fg _ b 0 173 cells _ (Dc w1 _ 0 _ (by rw [hlen];exact hth)) underlying173 rfl (by rw [hlen];exact Mk6))) rfl ?_;exact⟨congrArg Ending.returned hv.out,Mn hbw _ _ _ hb⟩
theorem End (b i:Nat) (s:List UInt8) (w:ZB) (hs:s.length<=1000000) (hi:i<s.length) (hS:Scan b s w) : ZE prog 179 #[.pointer (some ⟨b,0,none⟩),↑i] w (Ret w (rX (CH.next s i))):=by
 obtain⟨r,hr⟩:∃ r,Hid (rX (CH.next s i)=r):=⟨_,Aa rfl⟩
 rw [hr.out];have hBa:∀ o,Below w w (w.alloc o):=fun o=>(Ac _ w).alloc nR _;have A:=Aa fun o=>B7b b i s (w.alloc o) hs oM (hS.below (hBa o));go_enter func179,ntmps179;go_wp2_with fail;refine (A.out _).mono ?_;rintro e w1 ⟨rfl,hb1⟩;clear A;have hblk:=hb1.block w sM;rw [Ap] at hblk;have hb:Below w w w1:=(hBa _).trans (hb1.mono sM);clear hb1 hBa;have hS1:=hS.below hb;have ht:=hS1.text;have hblt:=hS1.lt;have hbz:w.heap.size<w1.heap.size:=(aZ hblk)
 have keep:∀ w2,Below w1 w1 w2->w2.heap[w.heap.size]?=some (.cells #[.int .i64 0,.int .i64 0,.int .i64 0,.string ⟨#[]⟩] 173 (0,0)):=fun w2 h2=>(h2.block _ hbz).trans hblk;obtain⟨c,hc⟩:∃ c,Hid (dM s i=c):=⟨_,Aa rfl⟩
 rw [hc.out];have hBa:∀ o,Below w1 w1 (w1.alloc o):=fun o=>(Ac _ w1).alloc nR _;by_cases c3:c=3
 ·subst c3;have A:=Aa fun t=>Wt b i w1 3 s [3,4,5] (w1.alloc (.cells #[.int .i64 3,.int .i64 4,.int .i64 5] t)) hs oM dC (hS1.below (hBa _)) (Sy w1 [3,4,5] t);have g1:=iF s [3,4,5] i;have g2:=jw s [3,4,5] i oM;have hn:CH.next s i=if bU s [3,4,5] i - i > 24 then .error 2 else .ok (⟨1,i,0,(s.drop i).take (bU s [3,4,5] i - i)⟩,bU s [3,4,5] i):=by unfold CH.next;rw [if_pos hc.out]
  have Hn:=Aa hn;clear hn hS hS1;generalize bU s [3,4,5] i=q at *;go_wp2_with fail;refine (A.out _).mono ?_;rintro e w2 ⟨rfl,hb2⟩;clear A;have hb2':Below w1 w1 w2:=(hBa _).trans (hb2.mono sM);clear hb2 hBa;have hbb:=hb.trans (hb2'.mono hb.size);obtain⟨hth,k0,k1,k2,k3,f0,f1,f2,f3⟩:=Nx (keep w2 hb2');have ht2:w2.cell? ⟨b,0,none⟩=some ↑s:=(hb2'.cell (p:=⟨b,0,none⟩) hblt).trans ht;clear keep;by_cases h24:q - i > 24
  ·have d:ZH ((24:Int)<(q:Int) - (i:Int))=true:=by simp;omega
   have hn:=Hn.out;rw [Ar h24] at hn;clear Hn;have Hn:=Aa hn;clear hn;exact FD22
  ·have d:ZH ((24:Int)<(q:Int) - (i:Int))=false:=by simp;omega
   have hn:=Hn.out;rw [Ah h24] at hn;clear Hn;have Hn:=Aa hn;clear hn;go_wp2;refine Gk (r:=r) (cells:=[.int .i64 1,↑i,.int .i64 0,.string ((ByteArray.mk s.toArray).extract i q)]) ?_ hth ?_ hbb nR (Aa ?_) <;> try rfl
   rw [<- hr.out,Hn.out];simp only [Ga];rfl
 by_cases c4:c=4
 ·subst c4;have A:=Aa fun t=>Wt b i w1 1 s [4] (w1.alloc (.cells #[.int .i64 4] t)) hs oM dC (hS1.below (hBa _)) (Sy w1 [4] t);have g1:=iF s [4] i;have g2:=jw s [4] i oM;have hmem:=Aa (qp s [4] i);have g3:i<bU s [4] i:=by rw [nK s _ i hi (by rw [hc.out];rfl)];exact iF _ _ _
  have hn:CH.next s i=if bU s [4] i - i > 13\/dM s (bU s [4] i)=3\/dM s (bU s [4] i)=5 then .error 4
    else .ok (⟨2,i,CH.dec ((s.drop i).take (bU s [4] i - i)),(s.drop i).take (bU s [4] i - i)⟩,bU s [4] i):=by
   unfold CH.next;rw [if_neg (by rw [hc.out];decide),if_pos hc.out]
  have Hn:=Aa hn;clear hn;generalize bU s [4] i=q at *;go_wp2_with fail;refine (A.out _).mono ?_;rintro e w2 ⟨rfl,hb2⟩;clear A;have hb2':Below w1 w1 w2:=(hBa _).trans (hb2.mono sM);clear hb2 hBa;have hS2:=hS1.below hb2';clear hS hS1;have A:=Aa (B7b b q s w2 hs oM hS2);go_wp2_with fail;refine A.out.mono ?_;rintro e w3 ⟨rfl,hb3⟩;clear A;have fG:Below w1 w1 w3:=hb2'.trans (hb3.mono hb2'.size);have ht3:=(hS2.below hb3).text;clear hb3 hb2' hS2;have hbb:=hb.trans (fG.mono hb.size);obtain⟨hth,k0,k1,k2,k3,f0,f1,f2,f3⟩:=Nx (keep w3 fG);obtain⟨x,hx⟩:∃ x,dM s q=x:=⟨_,rfl⟩
  rw [hx] at Hn ⊢;by_cases h13:q - i > 13
  ·have d:ZH ((13:Int)<(q:Int) - (i:Int))=true:=by simp;omega
   rw [Ar (.inl h13)] at Hn;clear keep hx hmem;exact FD22
  have d:ZH ((13:Int)<(q:Int) - (i:Int))=false:=by simp;omega
  by_cases hx3:x=3
  ·have d3:((x:Int)==3)=true:=by simp;omega
   rw [Ar (.inr (.inl hx3))] at Hn;clear keep hx hmem;exact FD22
  have d3:((x:Int)==3)=false:=by simp;omega
  by_cases hx5:x=5
  ·have d5:((x:Int)==5)=true:=by simp;omega
   rw [Ar (.inr (.inr hx5))] at Hn;clear keep hx hmem;exact FD22
  have d5:((x:Int)==5)=false:=by simp;omega
  rw [Ah oM] at Hn;have hll:((s.drop i).take (q - i)).length=q - i:=by rw [Dz,Fa];omega
  have hne:(s.drop i).take (q - i)≠[]:=fun e=>by rw [e] at hll;simp at hll;omega
  have hdg:=Fl8 _ (fun c hc'=>by have:=hmem.out c hc';simpa using this) hne;have AT:=Aa (Tryz.strconv_Atoi ⟨((s.drop i).take (q - i)).toArray⟩ (CH.dec ((s.drop i).take (q - i))) (by show ((s.drop i).take (q - i)).toArray.size<=18;simp only [Hu,hll];omega) hdg w3);generalize hdd:CH.dec ((s.drop i).take (q - i))=dd at *;clear hmem hx hll hne hdg;go_wp2_with fail;simp only [Ga];refine AT.out.mono ?_;rintro e w4 ⟨rfl,t4,hw4⟩;clear AT;have hb4:Below w3 w3 w4:=by rw [hw4];exact Lib.bytesWorld_below _ _ _
  clear hw4;have vU:Below w1 w1 w4:=fG.trans (hb4.mono fG.size);have ht4:w4.cell? ⟨b,0,none⟩=some ↑s:=(hb4.cell (p:=⟨b,0,none⟩) (Ai hblt fG.size)).trans ht3;have FP:=hb.trans (vU.mono hb.size);clear hth k0 k1 k2 k3 f0 f1 f2 f3 hbb fG hb4 ht3;obtain⟨hth,k0,k1,k2,k3,f0,f1,f2,f3⟩:=Nx (keep w4 vU);clear keep;go_wp2;refine Gk (r:=r) (cells:=[.int .i64 2,↑i,↑dd,.string ((ByteArray.mk s.toArray).extract i q)]) ?_ hth ?_ FP nR (Aa ?_) <;> try rfl
  rw [<- hr.out,Hn.out];simp only [Ga];rfl
 by_cases c6:c=6
 ·subst c6;have hn:CH.next s i=match (s.drop (i+1)).findIdx? (fun c=>c==34||c==10) with
    |none=>.error 6
    |some n=>if (s.drop (i+1))[n]?=some 10 then .error 6 else if n > 400 then .error 2 else .ok (⟨3,i,0,(s.drop (i+1)).take n⟩,i+n+2):=by
   unfold CH.next;rw [if_neg (by rw [hc.out];decide),if_neg (by rw [hc.out];decide),if_pos hc.out]
   rfl
  have hrl:(s.drop (i+1)).length=s.length - (i+1):=Fa;have IA:=Aa (Bst (s.drop (i+1)) w1 oM);rw [Ext] at IA;clear hS hS1 hBa;go_wp2_with fail;simp only [Fk];refine IA.out.mono ?_;rintro e w2 ⟨rfl,hb2⟩;clear IA;have hbb:=hb.trans (hb2.mono hb.size);obtain⟨hth,k0,k1,k2,k3,f0,f1,f2,f3⟩:=Nx (keep w2 hb2);clear keep;cases hf:(s.drop (i+1)).findIdx? (fun c=>c==34||c==10) with
  |none =>rw [hf] at hn;have Hn:=Aa hn;clear hn hf;exact FD22
  |some n =>
   obtain⟨hnl,_,_⟩:=Gj.1 hf;replace hn:CH.next s i=if (s.drop (i+1))[n]?=some 10 then .error 6 else if n > 400 then .error 2 else .ok (⟨3,i,0,(s.drop (i+1)).take n⟩,i+n+2):=by rw [hn,hf]
   obtain⟨ch,hch⟩:∃ ch,(s.drop (i+1))[n]?=some ch:=⟨_,Ad hnl⟩
   rw [hch] at hn;have hgk:=I6 _ n hnl ch hch;generalize hR:s.drop (i+1)=R at *;dsimp only;have d0:ZH ((n:Int)<0)=false:=sM;by_cases h10:ch=10;·subst h10;have Hn:=Aa hn;rw [Ar rfl] at Hn;clear hn hf hch hR;exact FD22
   ·have d1:((ch.toNat:Int)==10)=false:=by have:=CH.beq_toNat ch 10;rw [Bo.2 h10] at this;simp at this ⊢;omega
    have Hn:=Aa hn;rw [Ah (fun e=>h10 (Ic e))] at Hn;clear hn hf hch hR;by_cases AY:n > 400
    ·have d4:ZH ((400:Int)<(n:Int))=true:=by simp;omega
     rw [Ar AY] at Hn;exact FD22
    ·have d4:ZH ((400:Int)<(n:Int))=false:=by simp;omega
     rw [Ah AY] at Hn;go_wp2;refine Gk (r:=r) (cells:=[.int .i64 3,↑i,.int .i64 0,.string ((ByteArray.mk R.toArray).extract 0 n)]) ?_ hth ?_ hbb nR (Aa ?_) <;> try rfl
     rw [<- hr.out,Hn.out];simp only [Ga,Il,Nat.sub_zero];rfl
 have hpre:Lib.hasPrefix (s.drop (i+1)) [61]=ZH (s[i+1]?=some 61):=Bsu s (i+1);by_cases c78:c=7\/c=8
 ·have hn:CH.next s i=if s[i+1]?=some 61 then .ok (⟨4,i,0,(s.drop i).take 2⟩,i+2) else if c=7 then .error 3 else .ok (⟨4,i,0,(s.drop i).take 1⟩,i+1):=by unfold CH.next;rw [hc.out,if_neg c3,if_neg c4,if_neg c6,if_pos c78]
  have HP:=Aa (Tryz.strings_HasPrefix ⟨(s.drop (i+1)).toArray⟩ ⟨#[61]⟩ w1);have hpre':Lib.hasPrefix (ByteArray.mk (s.drop (i+1)).toArray).data.toList (ByteArray.mk #[61]).data.toList=ZH (s[i+1]?=some 61):=hpre;rw [hpre'] at HP;obtain⟨hth,k0,k1,k2,k3,f0,f1,f2,f3⟩:=Nx (keep w1 (Ac _ _));clear hS hS1 hBa keep hpre hpre';by_cases h61:s[i+1]?=some 61
  ·have hl2:i+1<s.length:=(lS h61)
   rw [Ar h61] at hn;rw [Aj h61] at HP;have Hn:=Aa hn;clear hn h61;rcases c78 with rfl|rfl;all_goals
    go_wp2_with fail;simp only [Fk];refine HP.out.mono ?_;rintro e w2 ⟨rfl,hw2⟩;subst hw2;clear HP;go_wp2;refine Gk (r:=r) (cells:=[.int .i64 4,↑i,.int .i64 0,.string ((ByteArray.mk s.toArray).extract i (i+2))]) ?_ hth ?_ hb nR (Aa ?_) <;> try rfl
    rw [<- hr.out,Hn.out];simp only [Ga,Hw];rfl
  ·rw [Ah h61] at hn;rw [Ak h61] at HP;have Hn:=Aa hn;clear hn h61;rcases c78 with rfl|rfl;·rw [Ar rfl] at Hn;go_wp2_with fail;simp only [Fk];refine HP.out.mono ?_;rintro e w2 ⟨rfl,hw2⟩;subst hw2;clear HP;exact FD97
   ·rw [Ah dC] at Hn;go_wp2_with fail;simp only [Fk];refine HP.out.mono ?_;rintro e w2 ⟨rfl,hw2⟩;subst hw2;clear HP;exact FD74
 obtain⟨hth,k0,k1,k2,k3,f0,f1,f2,f3⟩:=Nx (keep w1 (Ac _ _));clear hS hS1 hBa keep hpre;by_cases c9:c=9
 ·subst c9;have hn:CH.next s i=.ok (⟨4,i,0,(s.drop i).take 1⟩,i+1):=by unfold CH.next;rw [hc.out,if_neg c3,if_neg c4,if_neg c6,if_neg c78,if_pos rfl]
  have Hn:=Aa hn;clear hn;exact FD74
 have hn:CH.next s i=.error 3:=by unfold CH.next;rw [hc.out,if_neg c3,if_neg c4,if_neg c6,if_neg c78,if_neg c9]
 have Hn:=Aa hn;clear hn;have d3:((c:Int)==3)=false:=by simp;omega
 have d4:((c:Int)==4)=false:=by simp;omega
 have d6:((c:Int)==6)=false:=by simp;omega
 have d7:((c:Int)==7)=false:=by simp;omega
 have d8:((c:Int)==8)=false:=by simp;omega
 have d9:((c:Int)==9)=false:=by simp;omega
 exact FD97
end
section
open Go.Lib Go.Proofs.Tryz Go.RowKit Go.Shelf CH
theorem Ggk (w:ZB) (o1 o2:Obj):((w.alloc o1).alloc o2).heap[w.heap.size]?=some o1/\((w.alloc o1).alloc o2).heap[w.heap.size+1]?=some o2:=by exact FD157
theorem Kl {P:Program} {fn:Func} {p:Tmp} {ty:ZJ} (h:fn.results=#[.cell p ty]) (tmps:Array ZC) (w:ZB) (a:Addr) (v:ZC) (hp:tmps.getD p ZA=.pointer (some a)) (hl:(loadVar ty a).run P w=.ok v w):(results fn tmps).run P w=.ok v w:=by
 simp only [results,h];have hp':tmps[p]?.getD ZA=.pointer (some a):=by simpa using hp
 simp [asAddr];rw [hp'];simpa [Result.andThen] using hl
def De (c:Nat) (s:List UInt8) (cs:Array ZC):Array ZC:=s.foldl (fun cs ch=>cs.setIfInBounds ch.toNat ↑c) cs
theorem Fy (c:Nat) (s:List UInt8):∀ cs:Array ZC,(De c s cs).size=cs.size:=by
 induction s with
 |nil=>intro cs;rfl
 |cons x r ih=>intro cs;unfold De at *;rw [List.foldl_cons,ih];simp
theorem Ch5 (c:Nat) (s:List UInt8) (x:UInt8) (cs:Array ZC):De c (s++[x]) cs=(De c s cs).setIfInBounds x.toNat ↑c:=by simp [De]
theorem Hs (c:Nat) (s:List UInt8):∀ cs:Array ZC,(∀ v∈cs,v.oneCell'=true)->∀ v∈De c s cs,v.oneCell'=true:=by
 induction s with
 |nil=>intro cs h;exact h
 |cons x r ih =>
  intro cs h;unfold De at *;rw [Nv];refine ih _ (fun v hv=>?_);rcases Array.mem_or_eq_of_mem_setIfInBounds hv with h1|h1;·exact h v h1
  ·rw [h1];rfl
theorem Nf (s:List UInt8) (c b:Nat) (cs:Array ZC) (w:ZB) (hlen:s.length<=1000000) (hb:w.heap[b]?=some (.cells cs 218 (0,0))) (hsz:cs.size=256) : ZE prog 227 #[↑s,↑c,.pointer (some ⟨b,0,none⟩)] w (fun e w'=>e=.returned (.tuple #[])/\w'.heap[b]?=some (.cells (De c s cs) 218 (0,0))/\aY (·=b) w w'):=by
 go_enter func227,ntmps227;go_wp2_with fail;go_loopw [5] (fun kv wr=>∃ k:Nat,k<=s.length/\kv=↑k/\wr.heap[b]?=some (.cells (De c (s.take k) cs) 218 (0,0))/\aY (·=b) w wr) (fun kv _=>s.length - (ZG kv).toNat);case atStart=>exact⟨0,Bg _,rfl,by simpa [De] using hb,aY.refl _ _⟩
 case round =>
  obtain⟨k,hk,rfl,hbk,hkp⟩:=hrel;by_cases hlt:k<s.length
  ·have hcs:(De c (s.take k) cs).size=256:=by rw [Fy];exact hsz
   obtain⟨ch,hch⟩:∃ ch,s[k]?=some ch:=⟨_,Ad hlt⟩
   have FM:ch.toNat<256:=Fb ch;obtain⟨u,hu⟩:∃ u,(De c (s.take k) cs)[ch.toNat]?=some u:=⟨_,Gu (by rw [hcs];exact FM)⟩
   have hgk:(⟨s.toArray⟩:ByteArray)[k]'(by show k<s.toArray.size;simpa using hlt)=ch:=by rw [Ad hlt] at hch;show s.toArray[k]'(by simpa using hlt)=ch;simpa using hch
   have FK:((ch.toNat:Nat):Int)<256:=oM;have hcell:wr.cell? ⟨b,ch.toNat,none⟩=some u:=by rw [Ab hbk];exact hu
   have hfro:wr.frozen? ⟨b,ch.toNat,none⟩=false:=A9 hbk _;generalize hcs':De c (s.take k) cs=cs' at *;clear hb;go_wp2_with fail;refine⟨⟨k+1,oM,by go_num,?_,hkp.setCell rfl _⟩,by simp [ZG];omega⟩;have:=Be wr b ch.toNat ↑c _ _ _ hbk;rw [this,Ee,hch,Gh,Ch5,hcs']
  ·have e:k=s.length:=oM;subst e;rw [Dw] at hbk;go_wp2;go_end0;exact⟨rfl,hbk,hkp⟩
noncomputable def Fc:Array ZC:=(De 9 [59,44,46,58,40,41,91,93,123,125,61,43,45] (De 8 [60,62] (De 7 [33] (De 6 [34] (De 2 [35] (De 1 [32,9,10] (De 5 [95] (De 4 [48,49,50,51,52,53,54,55,56,57] (De 3 [97,98,99,100,101,102,103,104,105,106,107,108,109,110,111,112,113,114,115,116,117,118,119,120,121,122,65,66,67,68,69,70,71,72,73,74,75,76,77,78,79,80,81,82,83,84,85,86,87,88,89,90] Tryz.zeroCells218)))))))))
theorem Fit (w:ZB):ZE prog 177 #[] w (fun e w'=>e=.returned (.agg Fc)/\Below w w w'):=by
 obtain⟨cs0,E0⟩:∃ x,Hid (x=Tryz.zeroCells218):=⟨_,Aa rfl⟩
 have z0:cs0.size=256:=by rw [E0.out];kernel_rfl
 have z00:=z0;have o0:∀ v∈cs0,v.oneCell'=true:=by rw [E0.out];exact fun v hv=>Kq.1 (by kernel_rfl:Tryz.zeroCells218.all (·.oneCell')=true) v hv
 go_enter func177,ntmps177;go_wp2_with fail;rw [<- E0.out];have hB:=Ggk w (.cells cs0 218) (.cells cs0 218);have b0:Below w w ((w.alloc (.cells cs0 218)).alloc (.cells cs0 218)):=((Ac _ w).alloc nR _).alloc sM _;have hs0:w.heap.size+1<((w.alloc (.cells cs0 218)).alloc (.cells cs0 218)).heap.size:=sM;generalize (w.alloc (.cells cs0 218)).alloc (.cells cs0 218)=w0 at *;obtain⟨r0,c0⟩:=hB;refine (Nf [97,98,99,100,101,102,103,104,105,106,107,108,109,110,111,112,113,114,115,116,117,118,119,120,121,122,65,66,67,68,69,70,71,72,73,74,75,76,77,78,79,80,81,82,83,84,85,86,87,88,89,90] 3 (w.heap.size+1) _ w0 dC c0 z0).mono ?_;rintro e w1 ⟨rfl,c1,k1⟩;have b1:=b0.trans (k1.below (B:=w.heap.size) (G9 (Et hs0)) (fun k e=>by rw [e];exact Ij _));have hs1:w.heap.size+1<w1.heap.size:=Ai hs0 k1.size;have r1:=(k1.block w (Et hs0) (Jb (Ez _))).trans r0;have z1:=(Fy 3 [97,98,99,100,101,102,103,104,105,106,107,108,109,110,111,112,113,114,115,116,117,118,119,120,121,122,65,66,67,68,69,70,71,72,73,74,75,76,77,78,79,80,81,82,83,84,85,86,87,88,89,90] cs0).trans z0;obtain⟨cs1,E1⟩:∃ x,Hid (x=De 3 [97,98,99,100,101,102,103,104,105,106,107,108,109,110,111,112,113,114,115,116,117,118,119,120,121,122,65,66,67,68,69,70,71,72,73,74,75,76,77,78,79,80,81,82,83,84,85,86,87,88,89,90] cs0):=⟨_,Aa rfl⟩
 rw [<- E1.out] at c1 z1;have o1:∀ v∈cs1,v.oneCell'=true:=by rw [E1.out];exact Hs _ _ _ o0
 clear o0;clear k1 b0 c0 r0 z0 hs0;go_wp2_with fail;refine (Nf [48,49,50,51,52,53,54,55,56,57] 4 (w.heap.size+1) _ w1 dC c1 z1).mono ?_;rintro e w2 ⟨rfl,c2,k2⟩;have b2:=b1.trans (k2.below (B:=w.heap.size) (G9 (Et hs1)) (fun k e=>by rw [e];exact Ij _));have hs2:w.heap.size+1<w2.heap.size:=Ai hs1 k2.size;have r2:=(k2.block w (Et hs1) (Jb (Ez _))).trans r1;have z2:=(Fy 4 [48,49,50,51,52,53,54,55,56,57] cs1).trans z1;obtain⟨cs2,E2⟩:∃ x,Hid (x=De 4 [48,49,50,51,52,53,54,55,56,57] cs1):=⟨_,Aa rfl⟩
 rw [<- E2.out] at c2 z2;have o2:∀ v∈cs2,v.oneCell'=true:=by rw [E2.out];exact Hs _ _ _ o1
 clear o1;clear k2 b1 c1 r1 z1 hs1;go_wp2_with fail;refine (Nf [95] 5 (w.heap.size+1) _ w2 dC c2 z2).mono ?_;rintro e w3 ⟨rfl,c3,k3⟩;have b3:=b2.trans (k3.below (B:=w.heap.size) (G9 (Et hs2)) (fun k e=>by rw [e];exact Ij _));have hs3:w.heap.size+1<w3.heap.size:=Ai hs2 k3.size;have r3:=(k3.block w (Et hs2) (Jb (Ez _))).trans r2;have z3:=(Fy 5 [95] cs2).trans z2;obtain⟨cs3,E3⟩:∃ x,Hid (x=De 5 [95] cs2):=⟨_,Aa rfl⟩
 rw [<- E3.out] at c3 z3;have o3:∀ v∈cs3,v.oneCell'=true:=by rw [E3.out];exact Hs _ _ _ o2
 clear o2;clear k3 b2 c2 r2 z2 hs2;go_wp2_with fail;refine (Nf [32,9,10] 1 (w.heap.size+1) _ w3 dC c3 z3).mono ?_;rintro e w4 ⟨rfl,c4,k4⟩;have b4:=b3.trans (k4.below (B:=w.heap.size) (G9 (Et hs3)) (fun k e=>by rw [e];exact Ij _));have hs4:w.heap.size+1<w4.heap.size:=Ai hs3 k4.size;have r4:=(k4.block w (Et hs3) (Jb (Ez _))).trans r3;have z4:=(Fy 1 [32,9,10] cs3).trans z3;obtain⟨cs4,E4⟩:∃ x,Hid (x=De 1 [32,9,10] cs3):=⟨_,Aa rfl⟩
 rw [<- E4.out] at c4 z4;have o4:∀ v∈cs4,v.oneCell'=true:=by rw [E4.out];exact Hs _ _ _ o3
 clear o3;clear k4 b3 c3 r3 z3 hs3;go_wp2_with fail;refine (Nf [35] 2 (w.heap.size+1) _ w4 dC c4 z4).mono ?_;rintro e w5 ⟨rfl,c5,k5⟩;have b5:=b4.trans (k5.below (B:=w.heap.size) (G9 (Et hs4)) (fun k e=>by rw [e];exact Ij _));have hs5:w.heap.size+1<w5.heap.size:=Ai hs4 k5.size;have r5:=(k5.block w (Et hs4) (Jb (Ez _))).trans r4;have z5:=(Fy 2 [35] cs4).trans z4;obtain⟨cs5,E5⟩:∃ x,Hid (x=De 2 [35] cs4):=⟨_,Aa rfl⟩
 rw [<- E5.out] at c5 z5;have o5:∀ v∈cs5,v.oneCell'=true:=by rw [E5.out];exact Hs _ _ _ o4
 clear o4;clear k5 b4 c4 r4 z4 hs4;go_wp2_with fail;refine (Nf [34] 6 (w.heap.size+1) _ w5 dC c5 z5).mono ?_;rintro e w6 ⟨rfl,c6,k6⟩;have b6:=b5.trans (k6.below (B:=w.heap.size) (G9 (Et hs5)) (fun k e=>by rw [e];exact Ij _));have hs6:w.heap.size+1<w6.heap.size:=Ai hs5 k6.size;have r6:=(k6.block w (Et hs5) (Jb (Ez _))).trans r5;have z6:=(Fy 6 [34] cs5).trans z5;obtain⟨cs6,E6⟩:∃ x,Hid (x=De 6 [34] cs5):=⟨_,Aa rfl⟩
 rw [<- E6.out] at c6 z6;have o6:∀ v∈cs6,v.oneCell'=true:=by rw [E6.out];exact Hs _ _ _ o5
 clear o5;clear k6 b5 c5 r5 z5 hs5;go_wp2_with fail;refine (Nf [33] 7 (w.heap.size+1) _ w6 dC c6 z6).mono ?_;rintro e w7 ⟨rfl,c7,k7⟩;have b7:=b6.trans (k7.below (B:=w.heap.size) (G9 (Et hs6)) (fun k e=>by rw [e];exact Ij _));have hs7:w.heap.size+1<w7.heap.size:=Ai hs6 k7.size;have r7:=(k7.block w (Et hs6) (Jb (Ez _))).trans r6;have z7:=(Fy 7 [33] cs6).trans z6;obtain⟨cs7,E7⟩:∃ x,Hid (x=De 7 [33] cs6):=⟨_,Aa rfl⟩
 rw [<- E7.out] at c7 z7;have o7:∀ v∈cs7,v.oneCell'=true:=by rw [E7.out];exact Hs _ _ _ o6
 clear o6;clear k7 b6 c6 r6 z6 hs6;go_wp2_with fail;refine (Nf [60,62] 8 (w.heap.size+1) _ w7 dC c7 z7).mono ?_;rintro e w8 ⟨rfl,c8,k8⟩;have b8:=b7.trans (k8.below (B:=w.heap.size) (G9 (Et hs7)) (fun k e=>by rw [e];exact Ij _));have hs8:w.heap.size+1<w8.heap.size:=Ai hs7 k8.size;have r8:=(k8.block w (Et hs7) (Jb (Ez _))).trans r7;have z8:=(Fy 8 [60,62] cs7).trans z7;obtain⟨cs8,E8⟩:∃ x,Hid (x=De 8 [60,62] cs7):=⟨_,Aa rfl⟩
 rw [<- E8.out] at c8 z8;have o8:∀ v∈cs8,v.oneCell'=true:=by rw [E8.out];exact Hs _ _ _ o7
 clear o7;clear k8 b7 c7 r7 z7 hs7;go_wp2_with fail;refine (Nf [59,44,46,58,40,41,91,93,123,125,61,43,45] 9 (w.heap.size+1) _ w8 dC c8 z8).mono ?_;rintro e w9 ⟨rfl,c9,k9⟩;have b9:=b8.trans (k9.below (B:=w.heap.size) (G9 (Et hs8)) (fun k e=>by rw [e];exact Ij _));have hs9:w.heap.size+1<w9.heap.size:=Ai hs8 k9.size;have r9:=(k9.block w (Et hs8) (Jb (Ez _))).trans r8;have z9:=(Fy 9 [59,44,46,58,40,41,91,93,123,125,61,43,45] cs8).trans z8;obtain⟨cs9,E9⟩:∃ x,Hid (x=De 9 [59,44,46,58,40,41,91,93,123,125,61,43,45] cs8):=⟨_,Aa rfl⟩
 rw [<- E9.out] at c9 z9;have o9:∀ v∈cs9,v.oneCell'=true:=by rw [E9.out];exact Hs _ _ _ o8
 clear o8;clear k9 b8 c8 r8 z8 hs8;have hra:w9.rangeAt (w+1) 0 cs9.toList:=fun j v hj=>by rw [Bh,Ab c9 j];simpa using hj
 have hi9:(prog.info? 218).map (·.size)=some cs9.toList.length:=by rw [J8,z9];kernel_rfl
 have hi9':(prog.info? 218).map (·.size)=some cs9.size:=by rw [z9];kernel_rfl
 have ho9:cs9.all (·.oneCell')=true:=Kq.2 o9;have hth:w9.there w 0 cs9.size:=fun j hj=>by rw [Bh,Ab r9 j,A9 r9 j];rw [z9] at hj;simp [Gu (show j<cs0.size by rw [z00];exact hj)]
 go_wp2_with (first|refine Bf rfl _ _ rfl (w+1) 0 rfl cs9.toList _ hra underlying218 rfl hi9 ?_|refine Ef rfl _ _ _ rfl w 0 cs9 rfl rfl hth hi9' ho9 ?_)
 refine Ag (Kl (p:=0) (ty:=218) rfl _ _ ⟨w,0,none⟩ _ rfl (Fg _ w 0 218 cs9.toList _ (Dc w9 _ 0 _ (by simpa using hth)) underlying218 rfl hi9)) rfl ?_;refine⟨?_,Mn nR _ _ _ b9⟩;rw [Array.toArray_toList,E9.out,E8.out,E7.out,E6.out,E5.out,E4.out,E3.out,E2.out,E1.out,E0.out];rfl
theorem Rb:Fc=((List.range 256).map fun n=>Value.int .i64 (CH.cls n.toUInt8:Nat)).toArray:=kR
theorem Zh (c:UInt8):Fc[c.toNat]?=some (.int .i64 (CH.cls c:Nat)):=by rw [Rb];simp [Fb c]
theorem Nd:Fc.size=256:=by rw [Rb];simp
theorem Xy:∀ v∈Fc,v.oneCell'=true:=by rw [Rb];intro v hv;simp at hv;obtain⟨n,_,rfl⟩:=hv;rfl
end
section
open Go.Lib Go.Proofs.Tryz Go.RowKit Go.Shelf Go.Sort CH
theorem Lg8 (l:List ZC):∀ (k0:Nat) (A:Array ZC) (j:Nat),((l.zipIdx k0).foldl (fun cs x=>cs.setIfInBounds (1+x.2) x.1) A)[j]?=if 1+k0<=j/\j<1+k0+l.length/\j<A.size then l[j - (1+k0)]? else A[j]?:=by
 induction l with
 |nil=>intro k0 A j;simp;omega
 |cons x l ih =>
  intro k0 A j;rw [List.zipIdx_cons,Nv,ih];simp only [Array.size_setIfInBounds,Ba];by_cases h1:j=1+k0
  ·subst h1;rw [Ah oM];by_cases h2:1+k0<A.size;·rw [Ar oM];simp [h2]
   ·rw [Ah oM];simp [h2]
  ·rw [Ii (by simpa using fun e=>h1 e.symm)];by_cases h2:1+(k0+1)<=j/\j<1+(k0+1)+l.length/\j<A.size;·rw [Ar h2,Ar oM,show j - (1+k0)=(j - (1+(k0+1)))+1 from by omega,Ew]
   ·rw [Ah h2,Ah oM]
noncomputable def Ln (s:List UInt8):Array ZC:=Array.foldl (fun cs x=>cs.setIfInBounds (1+x.snd) x.fst) (Tryz.zeroCells221.setIfInBounds 0 (Value.string ⟨s.toArray⟩)) Fc.zipIdx 0 256
theorem P6:Tryz.zeroCells221.size=257:=kR
theorem L2 (s:List UInt8) (j:Nat):(Ln s)[j]?=if j=0 then some ↑s else if j<257 then Fc[j - 1]? else none:=by
 have hz:=Nd;have h0:=P6;unfold Ln;rw [show (256:Nat)=Fc.zipIdx.size from by simp [hz],<- Array.foldl_toList,Array.toList_zipIdx,Lg8];simp only [Array.size_setIfInBounds,h0,J8,hz,Ia,Lh];by_cases hj:j=0;·subst hj;rw [Ah oM,Ar rfl];simp [h0]
 ·by_cases h2:j<257;·rw [Ar oM,Ah hj,Ar h2]
  ·rw [Ah oM,Ah hj,Ah h2];exact Io (by simp [h0];omega)
theorem Vu (s:List UInt8):(Ln s).size=257:=by
 have h1:=L2 s 256;have h2:=L2 s 257;have hx:Fc[255]?=some (Fc[255]'(by rw [Nd];decide)):=Gu _;rw [Ah dC,Ar dC,show 256 - 1=255 from rfl,hx] at h1;rw [Ah dC,Ah dC] at h2;have:=(aZ h1)
 have:=Array.getElem?_eq_none_iff.1 h2;omega
theorem Yh (s:List UInt8):∀ v∈Ln s,v.oneCell'=true:=by
 intro v hv;obtain⟨j,hj⟩:=Array.getElem?_of_mem hv;rw [L2] at hj;split at hj;·cases hj;rfl
 split at hj;·exact Xy v (Le hj)
 ·cases hj
theorem Ggr (s:List UInt8) (w:ZB):Scan w s (w.alloc (.cells (Ln s) 221)):=by
 refine⟨sM,?_,fun c=>?_⟩;·rw [Bz,L2,Ar rfl]
 ·rw [Bz,L2,Ah oM,Ar (by have:=Fb c;omega),Hw,Zh]
def Gd (t:CH.Tok):List ZC:=[↑t.kind,↑t.pos,↑t.n,↑t.text]
def Hv (base:Nat) (w:ZB) (v:ZC) (ts:List CH.Tok):Prop:=w.ownsRow base 173 4 v ts.length (ts.flatMap Gd)
theorem Ki8:(prog.info? 173).map (fun i=>(i.zero,i.size,i.bytes))=some (some (.agg #[.int .i64 0,.int .i64 0,.int .i64 0,.string ⟨#[]⟩]),4,40):=kR
theorem Hxk {w:ZB} {ops:Array Oper} {rest:List Oper} {o:Oper} {a:Act} {Q:Exit->Act->ZB->Prop} (hgd:o.guard=none) (s x:Operand) (ho:o.op=.call { callee:=.builtin .append,args:=#[s,x],argTypes:=#[169,169] }) (base:Nat) (v:ZC) (ts:List CH.Tok) (hs:a.eval s=v) (hown:Hv base w v ts) (g c:Nat) (t:CH.Tok) (hx:a.eval x=.slice (some ⟨g,0,none⟩) 1 c) (hcell:∀ j u,(Gd t)[j]?=some u->w.cell? ⟨g,j,none⟩=some u) (hlen:ts.length<=1099511627) (hbase:base<=w.heap.size) (h:∀ v' w',Hv base w' v' (ts++[t])->w.grownBy w' v.ownBlock->wpList prog ops Q rest (a.put o.dst v') w') : wpList prog ops Q (o::rest) a w:=by
 obtain⟨i,hi,hz0,hz1,hz2⟩:=I7 Ki8;refine wpList_append_own_at w hgd s x 169 ho base 173 i _ 4 40 underlying169 hi hz0 hz1 hz2 rfl dC v ts.length _ hs hown ⟨g,0,none⟩ 1 c (Gd t) hx rfl ?_ ?_ ?_ ?_ hbase ?_;·intro j u hj;rw [show (⟨g,0,none⟩:Addr).add j=⟨g,j,none⟩ from by simp [Addr.add];exact fun e=>e.symm];exact hcell j u hj
 ·intro u hu;simp [Gd] at hu;rcases hu with rfl|rfl|rfl|rfl <;> rfl
 ·exact FD143
 ·omega
 ·intro v' w' h1 h2 _ h4;exact h v' w' (by unfold Hv;simpa using h1) h2
theorem Hv.form {base:Nat} {w:ZB} {v:ZC} {ts:List CH.Tok} (h:Hv base w v ts):∃ a cap,v=.slice a ts.length cap/\ts.length<=cap/\cap<=9223372036854775807:=by
 obtain⟨hlen,⟨rfl,h0⟩|⟨g,cap,cur,rfl,hb,hg,hn,hc,hsz,htk⟩⟩:=h;·exact⟨none,0,by rw [h0],oM,oM⟩
 ·exact⟨_,cap,rfl,hn,by unfold maxLen at hc;omega⟩
theorem Hv.mono {base base':Nat} {w:ZB} {v:ZC} {ts:List CH.Tok} (h:Hv base w v ts) (hb:base'<=base):Hv base' w v ts:=by
 obtain⟨hlen,⟨h0,h1⟩|⟨g,cap,cur,h1,hb',h2⟩⟩:=h;·exact⟨hlen,.inl ⟨h0,h1⟩⟩
 ·exact⟨hlen,.inr ⟨g,cap,cur,h1,Af hb hb',h2⟩⟩
theorem Uf (s:List UInt8) (i e:Nat) (h:CH.next s i=.error e):1<=e:=by
 unfold CH.next at h;split at h;·exact FD144
 split at h;·exact FD144
 split at h
 ·split at h;·cases h;decide
  ·split at h;·cases h;decide
   split at h;·cases h;decide
   ·cases h
 split at h
 ·split at h;·cases h
  ·exact FD144
 split at h;·cases h
 ·cases h;decide
theorem Q3 {base:Nat} {w:ZB} {e:ZJ} {size:Nat} {v:ZC} {n:Nat} {xs:List ZC} (h:w.ownsRow base e size v n xs):∀ j,v.ownBlock=some j->base<=j:=by
 intro j hj;obtain⟨hlen,⟨rfl,h0⟩|⟨g,cap,cur,rfl,hb,hg,rest⟩⟩:=h;·cases hj
 ·simp only [Value.ownBlock,Fq] at hj;subst hj;exact hb
theorem Scan.low {b B:Nat} {s:List UInt8} {w w':ZB} (h:Scan b s w) (hb:Below B w w') (hlt:b<B):Scan b s w' := ⟨Ai h.lt hb.size,(hb.cell (p:=⟨b,0,none⟩) hlt).trans h.text,fun c=>(hb.cell (p:=⟨b,1+c.toNat,none⟩) hlt).trans (h.cls c)⟩
def Opn (w:ZB) (r:Except (Nat × Nat) (List CH.Tok)) (e:Ending) (w':ZB):Prop :=
 Below w w w'/\match r with
  |.error x=>e=.returned (.tuple #[.slice none 0 0,↑x.1,↑x.2])
  |.ok ts=>∃ v,e=.returned (.tuple #[v,.int .i64 0,.int .i64 0])/\Hv w w' v ts
theorem Bsd (s:List UInt8) (w:ZB) (hs2:s.length<=20000) : ZE prog 115 #[↑s] w (Opn w (CH.lex s)):=by
 obtain⟨r,hr⟩:∃ r,Hid (CH.lex s=r):=⟨_,Aa rfl⟩
 rw [hr.out];have d:ZH ((20000:Int)<(s.length:Int))=false:=by simp;omega
 have A:=Aa (Fit w);have hz:=Vu s;have hFs:(Array.foldl (fun cs x=>cs.setIfInBounds (1+x.snd) x.fst) (Tryz.zeroCells221.setIfInBounds 0 (Value.string ⟨s.toArray⟩)) Fc.zipIdx 0 256).size=257:=hz;have hsc:∀ w1:ZB,(storeCells ⟨w1,0,none⟩ (Array.foldl (fun cs x=>cs.setIfInBounds (1+x.snd) x.fst) (Tryz.zeroCells221.setIfInBounds 0 (Value.string ⟨s.toArray⟩)) Fc.zipIdx 0 256).toList).run prog (w1.alloc (.cells Tryz.zeroCells221 221))=.ok () (w1.alloc (.cells (Ln s) 221)):=fun w1 =>run_storeCells_new w1 221 Tryz.zeroCells221 (Ln s) (by rw [hz];kernel_rfl) (by rw [hz,P6]) (Kq.2 (Yh s));have hscan:=fun w1=>Ggr s w1;have z:=Nd;generalize hSC:Ln s=SC at *;generalize hCC:Fc=cc at *;clear hSC hCC;go_enter func115,ntmps115;go_wp2_with fail;refine A.out.mono ?_;clear A;rintro e w1 ⟨rfl,hb1⟩;go_wp2_with fail;generalize Array.foldl (fun cs x=>cs.setIfInBounds (1+x.snd) x.fst) (Tryz.zeroCells221.setIfInBounds 0 (Value.string ⟨s.toArray⟩)) cc.zipIdx 0 256=FF at *;have hS:=hscan w1;have hb2:=hb1.alloc hb1.size (.cells SC 221);have hsz:w1.heap.size<(w1.alloc (.cells SC 221)).heap.size:=sM;generalize w1.alloc (.cells SC 221)=W at *;clear hscan hsc hFs hz z;refine (Isd w1 0 s W oM (Bg _) hS).mono ?_;rintro e w2 ⟨rfl,hb3⟩;have hB2:Below w w w2:=hb2.trans (hb3.mono hb2.size);have hS2:=hS.below hb3;have hwB:=hb1.size;have hg0:=uV s 0 (Bg _);obtain⟨k0,hk0⟩:∃ k,Hid (CH.gap s 0=k):=⟨_,Aa rfl⟩
 rw [hk0.out] at hg0 ⊢;have hl0:Hid (lC s (s.length+1) k0 []=r):=Aa (by rw [<- hr.out,<- hk0.out];rfl);clear hS hb2 hb3 hsz hb1 hk0 hr;generalize hBB:w1.heap.size=B at *;clear hBB;go_wp2_with fail;go_loopw [6,7] (fun ov iv wr=>∃ (k f:Nat) (ts:List CH.Tok),k<=s.length/\iv=↑k/\Hid (lC s f k ts=r)/\s.length<f+k/\ts.length<=k/\Hv (B+1) wr ov ts/\Scan B s wr/\Below w w wr) (fun _ iv _=>s.length - (ZG iv).toNat);case atStart=>exact⟨k0,s.length+1,[],hg0,rfl,hl0,oM,Bg _,Jj _ _ _ _,hS2,hB2⟩
 case round =>
  obtain⟨k,f,ts,hk,rfl,hl,hf,hts,hO,hSr,hBr⟩:=hrel;obtain⟨av,cv,rfl,hcv1,hcv2⟩:=hO.form;by_cases hlt:k<s.length
  ·have d1:ZH ((k:Int)<(s.length:Int))=true:=by simp;omega
   obtain⟨f',rfl⟩:∃ f',f=f'+1:=⟨f - 1,oM⟩
   have A:=Aa (End B k s wr oM hlt hSr);cases hn:CH.next s k with
   |error e =>
    have he:=Uf s k e hn;rw [hn] at A;have hl':r=.error (e,k):=by rw [<- hl.out];unfold lC;rw [if_pos hlt,hn]
    clear hl hn;have z0:((e:Int)==0)=false:=by simp;omega
    have z1:((e:Int) != 0)=true:=by simp;omega
    go_wp2_with fail;refine A.out.mono ?_;rintro e2 w3 ⟨rfl,hb3⟩;clear A;dsimp only [rX];exact FD104
   |ok x =>
    obtain⟨t,j⟩:=x;obtain⟨hj1,hj2⟩:=vI s k hlt t j hn;rw [hn] at A;go_wp2_with fail;refine A.out.mono ?_;rintro e2 w3 ⟨rfl,hb3⟩;clear A;dsimp only [rX,yV];by_cases h5:ts.length=5000
    ·have z0:((ts.length:Int)==5000)=true:=by simp;omega
     have hl':r=.error (2,k):=by
      rw [<- hl.out];conv=>lhs;unfold lC;rw [if_pos hlt,hn]
      dsimp only;rw [Ar h5]
     clear hl hn hO hSr;exact FD104
    ·have z0:((ts.length:Int)==5000)=false:=by simp;omega
     have hl':lC s f' (CH.gap s j) (ts++[t])=r:=by
      rw [<- hl.out];conv=>rhs;unfold lC;rw [if_pos hlt,hn]
      dsimp only;rw [Ah h5]
     clear hl hn;have fG:Below w w w3:=hBr.trans (hb3.mono hBr.size);have hS3:=hSr.below hb3;have hO3:Hv (B+1) w3 (.slice av ts.length cv) ts:=Ff hO hb3;have hB3:=hS3.lt;clear hO hSr hb3;have hA:Below w3 w3 ((w3.alloc (.cells (Gd t).toArray 173)).alloc (.cells (Gd t).toArray 173)):=((Ac _ w3).alloc nR _).alloc sM _;have hO4:Hv (B+1) ((w3.alloc (.cells (Gd t).toArray 173)).alloc (.cells (Gd t).toArray 173)) (.slice av ts.length cv) ts:=H8 (H8 hO3 _) _;have hcell:∀ j u,(Gd t)[j]?=some u->((w3.alloc (.cells (Gd t).toArray 173)).alloc (.cells (Gd t).toArray 173)).cell? ⟨w3+1,j,none⟩=some u:=fun j u hj=>by have:=Bz (w3.alloc (.cells (Gd t).toArray 173)) (Gd t).toArray 173 (0,0) j;simpa using this.trans (by simpa using hj)
     have hsA:B+1<=((w3.alloc (.cells (Gd t).toArray 173)).alloc (.cells (Gd t).toArray 173)).heap.size:=by simp;omega
     have hblk:=Q3 hO4;go_wp2_with (refine Hxk rfl _ _ rfl (B+1) _ ts rfl hO4 (w3+1) 1 t rfl hcell oM hsA ?_;intro v5 w5 hO5 hg5;have hb5:=Aa ((Ac (B+1) _).grown hg5 hsA hblk);clear hg5)
     have xU:=hb5.out;have hS5:Scan B s w5:=(hS3.below hA).low xU (Ez _);have hb6:Below w w w5:=(fG.trans (hA.mono fG.size)).trans (xU.mono oM);refine (Isd B j s w5 oM hj2 hS5).mono ?_;rintro e3 w6 ⟨rfl,hb7⟩;have hO6:Hv (B+1) w6 v5 (ts++[t]):=Ff hO5 hb7;have hS6:=hS5.below hb7;have hb8:=hb6.trans (hb7.mono hb6.size);have hg1:=yw s j hj2;have hg2:=uV s j hj2;have HL:=Aa hl';clear hb5 xU hS5 hb6 hb7 hO5 hO4 hO3 hS3 hA hcell hsA hblk fG hl';generalize hG:CH.gap s j=G at *;go_wp2;go_roundw;case rel=>exact⟨G,f',ts++[t],hg2,rfl,HL,oM,by simp;omega,hO6,hS6,hb8⟩
     case measure=>simp [ZG];omega
  ·have d1:ZH ((k:Int)<(s.length:Int))=false:=by simp;omega
   have hl':r=.ok ts:=by
    rw [<- hl.out];cases f with
    |zero=>rfl
    |succ f'=>unfold lC;rw [if_neg hlt]
   clear hl;go_wp2;refine Ag (results_tmp3 rfl _ _ _) rfl ?_;refine⟨hBr,?_⟩;rw [hl'];exact⟨_,rfl,hO.mono oM⟩
theorem Hv.cellAt {base:Nat} {w:ZB} {a:Option Addr} {n cap:Nat} {t:CH.Tok} (h:Hv base w (.slice a n cap) [t]) : ∃ g,a=some ⟨g,0,none⟩/\w.cell? ⟨g,0,none⟩=some ↑t.kind/\w.cell? ⟨g,3,none⟩=some ↑t.text:=by
 have h':=h;obtain⟨hlen,⟨e,h0⟩|⟨g,cap',cur,e,hb,hg,hn,hc,hsz,htk⟩⟩:=h;·simp at h0
 ·injection e with e1 e2 e3;subst e1;subst e2;subst e3;refine⟨g,rfl,?_,?_⟩;·exact Ig h' 0 sM
  ·exact Ig h' 3 sM
theorem Cy (a b:List UInt8):((⟨a.toArray⟩:ByteArray)==⟨b.toArray⟩)=(a==b):=by
 show (a.toArray==b.toArray)=(a==b)
 simp
theorem Leo (s:List UInt8):∀ (f i:Nat) (out:List CH.Tok) (x:Nat × Nat),lC s f i out=.error x->1<=x.1:=by
 intro f;induction f with
 |zero=>intro i out x h;cases h
 |succ f ih =>
  intro i out x h;unfold lC at h;split at h
  ·split at h;·rename_i e he;cases h;exact Uf s i e he
   ·split at h;·cases h;exact (dC:1<=2)
    ·exact ih _ _ _ h
  ·cases h
theorem Box (s:List UInt8) (x:Nat × Nat) (h:CH.lex s=.error x):1<=x.1:=Leo s _ _ _ _ h
theorem Pi (s:List UInt8) (w:ZB) (hs:s.length<=20000) : ZE prog 48 #[↑s] w (Ret w (.bool (CH.ident s))):=by
 obtain⟨r,hr⟩:∃ r,CH.ident s=r:=⟨_,rfl⟩
 rw [hr];unfold CH.ident at hr;rw [Aj hs,a_Bool_true_and] at hr;replace hr:=Aa hr;have A:=Aa (Bsd s w hs);go_enter func48,ntmps48;exact FD4
theorem Oy (s:List UInt8) (w:ZB) (hs:s.length<=20000) : ZE prog 155 #[↑s] w (Ret w (.bool (CH.ident s))):=by
 obtain⟨r,hr⟩:∃ r,CH.ident s=r:=⟨_,rfl⟩
 rw [hr];unfold CH.ident at hr;rw [Aj hs,a_Bool_true_and] at hr;replace hr:=Aa hr;have A:=Aa (Bsd s w hs);go_enter func155,ntmps155;exact FD4
theorem Tj (s:List UInt8) (w:ZB) (hs:s.length<=20000) : ZE prog 220 #[↑s] w (Ret w (.bool (CH.ident s))):=by
 obtain⟨r,hr⟩:∃ r,CH.ident s=r:=⟨_,rfl⟩
 rw [hr];unfold CH.ident at hr;rw [Aj hs,a_Bool_true_and] at hr;replace hr:=Aa hr;have A:=Aa (Bsd s w hs);go_enter func220,ntmps220;exact FD4
def I01 (w:ZB) (n:Nat) (r:ByteArray->ZC) (e:Ending) (w':ZB):Prop:=∃ b:ByteArray,e=.returned (r b)/\b.size<=n/\Below w w w'
theorem Tn (t:Int) (w:ZB):ZE prog 270 #[↑t] w (fun e w'=>e=.returned (.bool (aW t))/\w'=w):=by
 obtain⟨r,hr⟩:∃ r,Hid (aW t=r):=⟨_,Aa rfl⟩
 rw [hr.out];by_cases h0:0<=t
 ·have d0:ZH (0<=t)=true:=by simpa using h0
  exact FD142
 ·have d0:ZH (0<=t)=false:=by simpa using h0
  exact FD142
theorem Inb (n:Nat) (w:ZB) (hG:Gl w) (hn:n<=1000000000):ZE prog 271 #[↑n] w (I01 w 50 fun b=>.string b):=by have A:=Aa (Hd ((n:Int) / 10) w oM oM hG);have A2:=fun w=>Hd ((n:Int) % 10) w oM oM;go_enter func271,ntmps271;go_wp2_with fail;refine A.out.mono ?_;rintro e w1 ⟨rfl,hb1⟩;have A3:=Aa (A2 w1 (hG.below hb1));clear A A2;go_wp2_with fail;refine A3.out.mono ?_;rintro e w2 ⟨rfl,hb2⟩;clear A3;have hl1:=Lib.itoa_length_le ((n:Int) / 10) oM oM;have hl2:=Lib.itoa_length_le ((n:Int) % 10) oM oM;generalize Lib.itoa ((n:Int) / 10)=l1 at *;generalize Lib.itoa ((n:Int) % 10)=l2 at *;go_wp2;go_ret;refine⟨_,rfl,?_,hb1.trans (hb2.mono hb1.size)⟩;simp [ByteArray.size];omega
theorem Zg (t:Int) (w:ZB) (hG:Gl w):ZE prog 217 #[↑t] w (I01 w 200 fun b=>.tuple #[.string b,.int .i64 (if aW t then 0 else 1)]):=by
 have A:=Aa (Tn t w);cases hi:aW t with
 |false =>rw [hi] at A;go_enter func217,ntmps217;go_wp2_with fail;refine A.out.mono ?_;rintro e w1 ⟨rfl,rfl⟩;clear A;go_wp2;refine Ag (Am rfl _ _ _) rfl ?_;exact⟨_,rfl,Bg _,Ac _ _⟩
 |true =>
  rw [hi] at A;obtain⟨n,rfl,hn⟩:∃ n:Nat,t=n/\n<=144001439:=by unfold aW at hi;simp at hi;exact⟨t.toNat,oM,oM⟩
  clear hi;have A1:=Aa fun w=>Hd ((n:Int) / 1440) w oM oM;have A2:=Aa (Inb (n % 1440 / 60));have A3:=Aa (Inb (n % 60));have e2:((n % 1440 / 60:Nat):Int)=(n:Int) % 1440 / 60:=oM;have e3:((n % 60:Nat):Int)=(n:Int) % 60:=oM;rw [e2] at A2;rw [e3] at A3;clear e2 e3;go_enter func217,ntmps217;go_wp2_with fail;refine A.out.mono ?_;rintro e w1 ⟨rfl,rfl⟩;clear A;go_wp2_with fail;refine (A1.out _ hG).mono ?_;rintro e w2 ⟨rfl,hb2⟩;have hG2:=hG.below hb2;clear A1;have hl1:=Lib.itoa_length_le ((n:Int) / 1440) oM oM;generalize Lib.itoa ((n:Int) / 1440)=l1 at *;go_wp2_with fail;refine (A2.out _ hG2 oM).mono ?_;rintro e w3 ⟨b3,rfl,hs3,hb3⟩;have hG3:=hG2.below hb3;clear A2;go_wp2_with fail;refine (A3.out _ hG3 oM).mono ?_;rintro e w4 ⟨b4,rfl,hs4,hb4⟩;clear A3;go_wp2;refine Ag (Am rfl _ _ _) rfl ?_;refine⟨_,rfl,?_,(hb2.trans (hb3.mono hb2.size)).trans (hb4.mono (Af hb2.size hb3.size))⟩;show (((ByteArray.mk l1.toArray++ByteArray.mk #[47])++b3++ByteArray.mk #[58])++b4).size<=200;simp only [Jc];have e1:(ByteArray.mk l1.toArray).size=l1.length:=by simp [ByteArray.size]
  have e2:(ByteArray.mk #[47]).size=1:=rfl;have e3:(ByteArray.mk #[58]).size=1:=rfl;omega
theorem U5 (t:Int) (w:ZB) (hG:Gl w):ZE prog 157 #[↑t] w (Ret w (.bool (aW t))):=by
 have A:=Aa (Zg t w hG);go_enter func157,ntmps157;go_wp2_with fail;refine A.out.mono ?_;rintro e w1 ⟨b,rfl,hs,hb⟩;clear A;cases hi:aW t with
 |false =>go_wp2;go_ret;exact⟨by rw [hi];rfl,hb⟩
 |true =>go_wp2;go_ret;exact⟨by rw [hi];rfl,hb⟩
def Cn {α:Type} [BEq α] (k:α):List (α × ZC)->Nat->Option (Nat × ZC)
 |[],_=>none
 |(a,v)::l,i=>if k==a then some (i,v) else Cn k l (i+1)
def Wo {α:Type} (emb:α->ZC) (r:Nat) (w:ZB) (kvs:List (α × ZC)):Prop := ∃ (es:Array MapEntry) (clock:Nat),w.heap[r]?=some (.map es clock)/\es.toList.map (fun e=>(e.key,e.val))=kvs.map (fun p=>(emb p.1,p.2))
theorem V0 {α:Type} [BEq α] (emb:α->ZC) (kind:TypeDesc) (hs:∀ a b,Instr.sameNow kind (emb a) (emb b)=some (a==b)) (k:α) : ∀ (kvs:List (α × ZC)) (es:List MapEntry) (i:Nat),es.map (fun e=>(e.key,e.val))=kvs.map (fun p=>(emb p.1,p.2))->Instr.findNow kind (emb k) es i=some (Cn k kvs i):=by
 intro kvs;induction kvs with
 |nil =>
  intro es i h;have:es=[]:=by simpa using h
  subst this;rfl
 |cons p l ih =>
  intro es i h;obtain⟨a,v⟩:=p;cases es with
  |nil=>simp at h
  |cons e es =>
   simp only [F9,List.cons.injEq,G7] at h;obtain⟨⟨hk,hv⟩,hr⟩:=h;rw [Instr.findNow,hk,hs,Cn];cases hb:(k==a) with
   |true=>simp [hv]
   |false=>simpa using ih es (i+1) hr
structure kL {α:Type} [BEq α] (P:Program) (K:ZJ) (emb:α->ZC) (kind:TypeDesc):Prop where
 under:P.underlying K=some kind
 same:∀ a b,Instr.sameNow kind (emb a) (emb b)=some (a==b)
 check:∀ (w:ZB) (e:Bool) (a:α),(Instr.checkKey e 10000 K (emb a)).run P w=.ok () w
theorem Dr {α:Type} [BEq α] {P:Program} {T K E:ZJ} {emb:α->ZC} {kind:TypeDesc} (hK:kL P K emb kind) (hT:P.underlying T=some (.map K E)) (z:ZC) (hz:∀ w,(zeroValue E).run P w=.ok z w) {r:Nat} {w:ZB} {kvs:List (α × ZC)} (h:Wo emb r w kvs) (k:α) : (Instr.lookup T (.map (some r)) (emb k) false).run P w=.ok (((Cn k kvs 0).map (·.2)).getD z) w:=by
 obtain⟨es,clock,hb,hes⟩:=h;have hf:=V0 emb kind hK.same k kvs es.toList 0 hes;cases hq:Cn k kvs 0 with
 |none =>rw [hq] at hf;simp [Instr.lookup,Eh hT,Gz hb,hK.check,Instr.findKey,Eh hK.under,hf,hz,Result.andThen]
 |some p =>rw [hq] at hf;simp [Instr.lookup,Eh hT,Gz hb,hK.check,Instr.findKey,Eh hK.under,hf,Result.andThen]
theorem Fm {α:Type} [BEq α] {P:Program} {T K E:ZJ} {emb:α->ZC} {kind:TypeDesc} (hK:kL P K emb kind) (hT:P.underlying T=some (.map K E)) {r:Nat} {w:ZB} {kvs:List (α × ZC)} (h:Wo emb r w kvs) (k:α) (v:ZC) (hn:Cn k kvs 0=none) : ∃ o,(Instr.mapUpdate T (.map (some r)) (emb k) v).run P w=.ok () (w.putObj r o)/\Wo emb r (w.putObj r o) (kvs++[(k,v)]):=by
 obtain⟨es,clock,hb,hes⟩:=h;have hf:=V0 emb kind hK.same k kvs es.toList 0 hes;rw [hn] at hf;have hlt:r<w.heap.size:=(aZ hb)
 refine⟨.map (es.push { key:=emb k,val:=v,born:=clock }) (clock+1),?_,es.push { key:=emb k,val:=v,born:=clock },clock+1,World.putObj_heap_same hlt,?_⟩;·exact FD137
 ·simp [hes]
theorem R8 {α:Type} (emb:α->ZC) (w:ZB):Wo emb w (w.alloc (.map #[] 0)) []:=⟨#[],0,Ap _ _,rfl⟩
theorem Wo.below {α:Type} {emb:α->ZC} {r:Nat} {w w':ZB} {kvs:List (α × ZC)} (h:Wo emb r w kvs) (hb:Below w w w'):Wo emb r w' kvs:=by exact FD158
theorem Wo.lt {α:Type} {emb:α->ZC} {r:Nat} {w:ZB} {kvs:List (α × ZC)} (h:Wo emb r w kvs):r<w.heap.size:=by obtain⟨es,clock,h1,_⟩:=h;exact (aZ h1)
theorem Bw {w w1:ZB} {B r:Nat} (h:Below B w w1) (hr:B<=r) (o:Obj):Below B w (w1.putObj r o) := ⟨h.os,h.tape,h.output,by simp [World.putObj];exact h.size,fun k hk=>by rw [World.putObj_heap_other oM];exact h.block k hk⟩
theorem Q1:kL prog 9 aA .string where
 under:=underlying9
 same a b:=by
  show some ((⟨a.toArray⟩:ByteArray)==⟨b.toArray⟩)=_
  rw [Cy]
 check w e a:=MapKept.run_checkKey underlying9 (by trivial) e 9999
abbrev aJ (n:Int):ZC:=↑n
theorem M8:kL prog 3 aJ (.int .i64) where
 under:=underlying3
 same a b:=by simp [Instr.sameNow]
 check w e a:=MapKept.run_checkKey underlying3 (by trivial) e 9999
end
end Go.Proofs.YtdgmgjeoikcgbaaGreatDoor
namespace CH
theorem Qv (ls:List Str) (x:Str):dX (ls++[x])=(dX ls&&!ls.contains x):=by
 induction ls with
 |nil=>rfl
 |cons y l ih =>
  rw [Dv,dX,dX,ih];have e1:(l++[x]).contains y=(l.contains y||y==x):=by rw [En];simp
  have e2:(y::l).contains x=(x==y||l.contains x):=by rw [En];simp
  have e3:(x==y)=(y==x):=by rw [En];simp;exact⟨fun h=>h.symm,fun h=>h.symm⟩
  rw [e1,e2,e3];cases l.contains y <;> cases dX l <;> cases l.contains x <;> cases (y==x) <;> rfl
theorem iW (ls:List Str) (x:Str):aO (ls++[x])=(aO ls&&(isName x&&!ls.contains x)):=by unfold aO;rw [I9,Qv];simp only [Jt,Mc,I5];cases ls.all isName <;> cases dX ls <;> cases isName x <;> rfl
theorem kC (l1 l2:List Str) (h:aO (l1++l2)=true):aO l1=true:=by
 induction l2 generalizing l1 with
 |nil=>simpa using h
 |cons x l ih =>have:=ih (l1++[x]) (by simpa using h);rw [iW] at this;simp at this;exact this.1
theorem jS (ls:List Str) (k:Nat) (h:aO (ls.take k)=false):aO ls=false:=by
 cases hb:aO ls with
 |false=>rfl
 |true =>rw [<- Ep k ls] at hb;rw [kC _ _ hb] at h;cases h
end CH
namespace Go.Proofs.YtdgmgjeoikcgbaaGreatDoor
open Go.RowKit Go.Lib Go.Shelf Go.Sort CH
theorem Gen (n m:Int) (w:ZB):ZE Tryz.prog 110 #[↑n,↑m] w (fun e w'=>e=.returned (.bool (CH.within n m))/\w'=w):=by
 obtain⟨r,hr⟩:∃ r,Hid (CH.within n m=r):=⟨_,Aa rfl⟩
 rw [hr.out];by_cases h0:0<=n
 ·have d0:ZH (0<=n)=true:=by simpa using h0
  go_enter Tryz.func110,Tryz.ntmps110;exact FD43
 ·have d0:ZH (0<=n)=false:=by simpa using h0
  go_enter Tryz.func110,Tryz.ntmps110;exact FD43
abbrev wQ (r:Nat) (w:ZB) (ks:List (List UInt8)):Prop:=Wo aA r w (ks.map fun l=>(l,.bool true))
theorem Vv (l:List UInt8):∀ (ks:List (List UInt8)) (i:Nat),((Cn l (ks.map fun l=>(l,Value.bool true)) i).map (·.2)).getD (.bool false)=.bool (ks.contains l)/\((Cn l (ks.map fun l=>(l,Value.bool true)) i).isSome=ks.contains l):=by
 intro ks;induction ks with
 |nil=>intro i;exact⟨rfl,rfl⟩
 |cons x ks ih =>
  intro i;rw [F9,Cn,List.contains_cons];cases h:(l==x) with
  |true=>simp
  |false=>simpa using ih (i+1)
theorem Cli {P:Program} {E:ZJ} {z:ZC} (h:(P.info? E).bind (·.zero)=some z) (w:ZB):(zeroValue E).run P w=.ok z w:=by
 cases hq:P.info? E with
 |none=>simp [hq] at h
 |some i =>simp [hq] at h;simp [zeroValue,typeInfo,hq,h,Result.andThen]
theorem Wr (w:ZB):(zeroValue 4).run Tryz.prog w=.ok (.bool false) w:=Cli kR w
theorem Zu (v:ZC) (ls:List (List UInt8)) (w:ZB) (hv:Strs w w v ls) (hl:ls.length<=100000) (hll:∀ l∈ls,l.length<=100000) : ZE Tryz.prog 108 #[v] w (Ret w (.bool (aO ls))):=by
 obtain⟨a,cap,rfl,hc1,hc2,hcell⟩:=hv;have hmm:=@Iz Tryz.prog;generalize hn:ls.length=n at *;go_enter Tryz.func108,Tryz.ntmps108;go_wp2_with fail;clear hmm;have hM0:=R8 aA w;have hb0:=(Ac _ w).alloc nR (.map #[] 0);generalize hw0:w.alloc (.map #[] 0)=w0 at *;go_loopw [9] (fun iv wr=>∃ k:Nat,k<=n/\iv=↑k/\Hid (aO (ls.take k)=true)/\wQ w wr (ls.take k)/\Below w w wr) (fun iv _=>n - (ZG iv).toNat);case atStart=>exact⟨0,Bg _,rfl,Aa rfl,hM0,hb0⟩
 case round =>
  obtain⟨k,hk,rfl,hu,hM,hb⟩:=hrel;by_cases hlt:k<n
  ·obtain⟨x,hx⟩:∃ x,ls[k]?=some x:=⟨_,Ad oM⟩
   have hxl:=hll x (Aq hx);obtain⟨b,off,rfl,hblt,hcs⟩:=hcell (fun e=>by rw [e] at hn;simp at hn;omega);have hck:=(hb.cell (p:=⟨b,off+k,none⟩) hblt).trans (hcs k x hx);have hts:ls.take (k+1)=ls.take k++[x]:=by rw [Ee,hx];rfl
   have hno:aO (ls.take (k+1))=(CH.isName x&&!(ls.take k).contains x):=by rw [hts,iW,hu.out];rfl
   have A:=Aa (Ue x wr oM);have hlk:=Dr Q1 Tryz.underlying166 (.bool false) Wr hM x;rw [(Vv x (ls.take k) 0).1] at hlk;have hko:((ls.take k).map fun l=>(l,Value.bool true))++[(x,.bool true)]=(ls.take (k+1)).map fun l=>(l,Value.bool true):=by rw [hts,F8];rfl
   have hup:=fun (h:(ls.take k).contains x=false)=>Fm Q1 Tryz.underlying166 hM x (.bool true) (by
    cases hq:Cn x ((ls.take k).map fun l=>(l,Value.bool true)) 0 with
    |none=>rfl
    |some p =>have:=(Vv x (ls.take k) 0).2;rw [hq,h] at this;cases this)
   rw [hko] at hup;have HN:=Aa hno;have HU:=Aa hup;have HT:=Aa (jS ls (k+1));have HF:=Aa hcell;have HC:=Aa hcs;have HA:=Aa hll;clear hno hup hts hko hcell hcs hll hx;cases hin:CH.isName x with
   |false =>rw [hin] at A;have hr':aO ls=false:=HT.out (by rw [HN.out,hin];rfl);exact FD160
   |true =>
    rw [hin] at A;cases hct:(ls.take k).contains x with
    |true =>have hr':aO ls=false:=HT.out (by rw [HN.out,hin,hct];rfl);rw [hct] at hlk;exact FD160
    |false =>
     have hr':aO (ls.take (k+1))=true:=by rw [HN.out,hin,hct];rfl
     have HR:=Aa hr';rw [hct] at hlk;obtain⟨o,ho,hM'⟩:=HU.out hct;clear hr' HN HT HU;go_wp2_with fail;refine A.out.mono ?_;rintro e w1 ⟨rfl,rfl⟩;clear A;go_wp2;go_roundw;case rel=>exact⟨k+1,oM,by go_num,HR,hM',Bw hb nR _⟩
     case measure=>simp [ZG];omega
  ·have e:k=n:=oM;subst e;have hr':aO ls=true:=by rw [<- hu.out,<- hn,Dw]
   exact FD67
end Go.Proofs.YtdgmgjeoikcgbaaGreatDoor
namespace Go.Proofs.YtdgmgjeoikcgbaaGreatDoor
section
open Go.Lib Go.Proofs.Tryz Go.RowKit Go.Shelf Go.Sort CH
def CQ (B:Nat) (w:ZB) (cs:List ZC) (l:fF):Prop := ∃ vm vp,cs=[aA l.id,vm,vp,aJ l.quota,aJ l.uses,aJ l.start,aJ l.aF]/\Strs B w vm l.measures/\Strs B w vp l.aG
def Fd (ls:List (List UInt8)):Prop:=ls.length<=100000/\∀ l∈ls,l.length<=10000
theorem Strs.form {B:Nat} {w:ZB} {v:ZC} {ls:List (List UInt8)} (h:Strs B w v ls):∃ a cap,v=.slice a ls.length cap/\ls.length<=cap/\cap<=9223372036854775807:=by exact FD134
theorem Boo (cs:List ZC) (l:fF) (w:ZB) (hl:CQ w w cs l) (hid:l.id.length<=10000) (hm:Fd l.measures) (hp:Fd l.aG) : ZE prog 45 #[.agg cs.toArray] w (Ret w (.bool (aP l))):=by
 obtain⟨vm,vp,rfl,hvm,hvp⟩:=hl;obtain⟨r,hr⟩:∃ r,Hid (aP l=r):=⟨_,Aa rfl⟩
 rw [hr.out];obtain⟨am,cm,rfl,_,_⟩:=hvm.form;obtain⟨ap,cp,rfl,_,_⟩:=hvp.form;have hb0:=fun o=>(Ac _ w).alloc nR o;have A1:=Aa fun o=>Zu _ l.measures (w.alloc o) ((hvm.below (hb0 o) nR).mono (hb0 o).size) hm.1 (fun x hx=>Af (hm.2 x hx) dC);have A2:=Aa fun (w1:ZB) (hb:Below w w w1)=>Zu _ l.aG w1 ((hvp.below hb nR).mono hb.size) hp.1 (fun x hx=>Af (hp.2 x hx) dC);have A3:=Aa fun (w1:ZB)=>Ue l.id w1 oM;have W:=Aa fun (n m:Int) (w1:ZB)=>Gen n m w1;generalize hnm:l.measures.length=nm at *;generalize hnp:l.aG.length=np at *;go_enter func45,ntmps45;go_wp2_with fail;refine (A1.out _).mono ?_;rintro e w1 ⟨rfl,hb1⟩;have hblk1:=(hb1.block w sM).trans (Ap w _);have hB1:Below w w w1:=(hb0 _).trans (hb1.mono sM);have hlt1:w.heap.size<w1.heap.size:=(aZ hblk1)
 clear hb1 A1 hb0;have DZ:w1.cell? ⟨w,0,none⟩=some (aA l.id):=Ab hblk1 0;have DX:w1.cell? ⟨w,1,none⟩=some (.slice am nm cm):=Ab hblk1 1;have DW:w1.cell? ⟨w,2,none⟩=some (.slice ap np cp):=Ab hblk1 2;have DR:w1.cell? ⟨w,3,none⟩=some (aJ l.quota):=Ab hblk1 3;have DN:w1.cell? ⟨w,4,none⟩=some (aJ l.uses):=Ab hblk1 4;have DL:w1.cell? ⟨w,5,none⟩=some (aJ l.start):=Ab hblk1 5;have DK:w1.cell? ⟨w,6,none⟩=some (aJ l.aF):=Ab hblk1 6;cases h1:aO l.measures with
 |false =>
  clear A2;have HL:Hid ((aO l.measures&&aO l.aG&&(ZH (0<l.measures.length)&&ZH (l.measures.length<=12)&&ZH (l.aG.length<=60)))=false):=Aa (by rw [h1];rfl);go_wp2_with fail;cases hi:CH.isName l.id with
  |false =>have A:=A3.out w1;rw [hi] at A;replace A:=Aa A;clear A3 W;refine (A.out).mono ?_;rintro e w9 ⟨rfl,hw9⟩;rw [hw9];clear hw9 w9;clear A;go_wp2;go_ret;exact⟨by rw [<- hr.out];simp [aP,hi],hB1⟩
  |true =>have A:=A3.out w1;rw [hi] at A;replace A:=Aa A;clear A3;refine (A.out).mono ?_;rintro e w9 ⟨rfl,hw9⟩;rw [hw9];clear hw9 w9;clear A;clear W;go_wp2;go_ret;exact⟨by rw [<- hr.out];simp [aP,hi,HL.out],hB1⟩
 |true =>
  go_wp2_with fail;refine (A2.out w1 hB1).mono ?_;rintro e w2 ⟨rfl,hb2⟩;have hblk2:=(hb2.block w hlt1).trans hblk1;have hB2:Below w w w2:=hB1.trans (hb2.mono hB1.size);clear hb2 A2 DZ DX DW DR DN DL DK;have JB:w2.cell? ⟨w,0,none⟩=some (aA l.id):=Ab hblk2 0;have JA:w2.cell? ⟨w,1,none⟩=some (.slice am nm cm):=Ab hblk2 1;have IZ:w2.cell? ⟨w,2,none⟩=some (.slice ap np cp):=Ab hblk2 2;have IY:w2.cell? ⟨w,3,none⟩=some (aJ l.quota):=Ab hblk2 3;have IX:w2.cell? ⟨w,4,none⟩=some (aJ l.uses):=Ab hblk2 4;have IW:w2.cell? ⟨w,5,none⟩=some (aJ l.start):=Ab hblk2 5;have IU:w2.cell? ⟨w,6,none⟩=some (aJ l.aF):=Ab hblk2 6;cases h2:aO l.aG with
  |false =>have HL:Hid ((aO l.measures&&aO l.aG&&(ZH (0<l.measures.length)&&ZH (l.measures.length<=12)&&ZH (l.aG.length<=60)))=false):=Aa (by rw [h1,h2];rfl);exact FD14
  |true =>
   by_cases h3:0<nm
   ·have d3:ZH ((0:Int)<(nm:Int))=true:=by simp;omega
    by_cases h4:nm<=12
    ·have d4:ZH ((nm:Int)<=(12:Int))=true:=by simp;omega
     by_cases h5:np<=60
     ·have d5:ZH ((np:Int)<=(60:Int))=true:=by simp;omega
      have HL:Hid ((aO l.measures&&aO l.aG&&(ZH (0<l.measures.length)&&ZH (l.measures.length<=12)&&ZH (l.aG.length<=60)))=true):=Aa (by rw [h1,h2,hnm,hnp,Aj h3,Aj h4,Aj h5];rfl);go_wp2_with fail;cases hi:CH.isName l.id with
      |false =>exact FD73
      |true =>
       have A:=A3.out w2;rw [hi] at A;replace A:=Aa A;clear A3;refine (A.out).mono ?_;rintro e w9 ⟨rfl,hw9⟩;rw [hw9];clear hw9 w9;clear A;cases hw0:CH.within l.quota 1000000000 with
       |false =>have A:=W.out l.quota 1000000000 w2;rw [hw0] at A;replace A:=Aa A;clear W;go_wp2_with fail;refine (A.out).mono ?_;rintro e w9 ⟨rfl,hw9⟩;rw [hw9];clear hw9 w9;clear A;go_wp2;go_ret;exact⟨by rw [<- hr.out];simp [aP,hi,HL.out,hw0],hB2⟩
       |true =>
        have A:=W.out l.quota 1000000000 w2;rw [hw0] at A;replace A:=Aa A;go_wp2_with fail;refine (A.out).mono ?_;rintro e w9 ⟨rfl,hw9⟩;rw [hw9];clear hw9 w9;clear A;cases hw1:CH.within l.uses 1000 with
        |false =>have A:=W.out l.uses 1000 w2;rw [hw1] at A;replace A:=Aa A;clear W;go_wp2_with fail;refine (A.out).mono ?_;rintro e w9 ⟨rfl,hw9⟩;rw [hw9];clear hw9 w9;clear A;go_wp2;go_ret;exact⟨by rw [<- hr.out];simp [aP,hi,HL.out,hw0,hw1],hB2⟩
        |true =>
         have A:=W.out l.uses 1000 w2;rw [hw1] at A;replace A:=Aa A;go_wp2_with fail;refine (A.out).mono ?_;rintro e w9 ⟨rfl,hw9⟩;rw [hw9];clear hw9 w9;clear A;cases hw2:CH.within l.start 144001439 with
         |false =>have A:=W.out l.start 144001439 w2;rw [hw2] at A;replace A:=Aa A;clear W;go_wp2_with fail;refine (A.out).mono ?_;rintro e w9 ⟨rfl,hw9⟩;rw [hw9];clear hw9 w9;clear A;go_wp2;go_ret;exact⟨by rw [<- hr.out];simp [aP,hi,HL.out,hw0,hw1,hw2],hB2⟩
         |true =>
          have A:=W.out l.start 144001439 w2;rw [hw2] at A;replace A:=Aa A;go_wp2_with fail;refine (A.out).mono ?_;rintro e w9 ⟨rfl,hw9⟩;rw [hw9];clear hw9 w9;clear A;cases hw3:CH.within l.aF 144001439 with
          |false =>have A:=W.out l.aF 144001439 w2;rw [hw3] at A;replace A:=Aa A;clear W;go_wp2_with fail;refine (A.out).mono ?_;rintro e w9 ⟨rfl,hw9⟩;rw [hw9];clear hw9 w9;clear A;go_wp2;go_ret;exact⟨by rw [<- hr.out];simp [aP,hi,HL.out,hw0,hw1,hw2,hw3],hB2⟩
          |true =>have A:=W.out l.aF 144001439 w2;rw [hw3] at A;replace A:=Aa A;go_wp2_with fail;refine (A.out).mono ?_;rintro e w9 ⟨rfl,hw9⟩;rw [hw9];clear hw9 w9;clear A;go_wp2;go_ret;refine⟨?_,hB2⟩;rw [<- hr.out];simp [aP,hi,HL.out,hw0,hw1,hw2,hw3]
     ·have d5:ZH ((np:Int)<=(60:Int))=false:=by simp;omega
      have HL:Hid ((aO l.measures&&aO l.aG&&(ZH (0<l.measures.length)&&ZH (l.measures.length<=12)&&ZH (l.aG.length<=60)))=false):=Aa (by rw [h1,h2,hnp,Ak h5];simp);exact FD14
    ·have d4:ZH ((nm:Int)<=(12:Int))=false:=by simp;omega
     have HL:Hid ((aO l.measures&&aO l.aG&&(ZH (0<l.measures.length)&&ZH (l.measures.length<=12)&&ZH (l.aG.length<=60)))=false):=Aa (by rw [h1,h2,hnm,Ak h4];simp);exact FD14
   ·have d3:ZH ((0:Int)<(nm:Int))=false:=by simp;omega
    have HL:Hid ((aO l.measures&&aO l.aG&&(ZH (0<l.measures.length)&&ZH (l.measures.length<=12)&&ZH (l.aG.length<=60)))=false):=Aa (by rw [h1,h2,hnm,Ak h3];simp);exact FD14
end
end Go.Proofs.YtdgmgjeoikcgbaaGreatDoor
