/-
  ChainOrder: the proof, part 5 of 28.
-/
import Derived.Test.YtpkjhpenpfcpfaaGreatDoorP03
import Derived.RangeFuncRecord
set_option linter.unusedSimpArgs false
set_option linter.unusedVariables false
set_option maxHeartbeats 40000000
set_option maxRecDepth 100000
open Go renaming undef -> ZA, World -> ZB, Value -> ZC, Calls -> ZE, TypeId -> ZJ
open Go.RowKit renaming intOf -> ZG
open Decidable renaming decide -> ZH
namespace Go.Proofs.YtpkjhpenpfcpfaaGreatDoor
section
open Go.Lib Go.Proofs.Tryz Go.RowKit Go.Shelf Go.Sort CH
set_option maxRecDepth 1000000 in
theorem Xv (r:Int) (w:ZB) (h0:128<=r) (h1:r<=1114111) : ZE prog 268 #[.string ⟨#[34,10]⟩,.int .i32 r] w (Ret w (.int .i64 (-1))):=by
 by_cases he:r=65533
 ·subst he;go_enter func268,ntmps268;go_wp2_with fail;go_loopg [5,6] 2 (fun g _ _ wx=>∃ i:Nat,i+g=2/\wx=w.iter ⟨#[34,10]⟩ i);case atStart=>exact⟨0,rfl,rfl⟩
  case round =>
   obtain⟨i,hig,rfl⟩:=hrel;rcases gk with _|_|_|g;·obtain rfl:i=2:=oM;have hnx:=fun ty=>run_next_end (P:=prog) w ⟨#[34,10]⟩ 2 ty dC;go_wp2;go_ret;exact⟨rfl,(Ac _ _).alloc nR _⟩
   ·obtain rfl:i=1:=oM;have hnx:=fun ty=>run_next_ascii (P:=prog) w ⟨#[34,10]⟩ 1 ty dC dC;go_wp2;go_roundg 0;case measure=>omega
    case rel=>exact⟨2,oM,rfl⟩
   ·obtain rfl:i=0:=oM;have hnx:=fun ty=>run_next_ascii (P:=prog) w ⟨#[34,10]⟩ 0 ty dC dC;go_wp2;go_roundg 1;case measure=>omega
    case rel=>exact⟨1,oM,rfl⟩
   ·omega
 ·have V:=Tryz.utf8_ValidRune r w;obtain⟨v,hv⟩:∃ v,Lib.validRune r=v:=⟨_,rfl⟩
  rw [hv] at V;have hb1:(r==65533)=false:=by simpa using he
  have hb2:ZH (r<128)=false:=by simp;omega
  cases v with
  |false =>clear hv;go_enter func268,ntmps268;go_wp2_with fail;refine V.mono ?_;rintro e w' ⟨rfl,hw⟩;rw [hw];clear V hw;exact FD29
  |true =>
   clear hv;go_enter func268,ntmps268;go_wp2_with fail;refine V.mono ?_;rintro e w' ⟨rfl,hw⟩;rw [hw];clear V hw;by_cases hlt:r<2048
   ·have hen:Utf8.encode r=⟨#[UInt8.ofNat (192+r.toNat / 64),UInt8.ofNat (128+r.toNat % 64)]⟩:=by
     have hval:Utf8.valid r=true:=by simp [Utf8.valid];omega
     unfold Utf8.encode;simp only [hval,Np];rw [Af oM,Ap oM]
    generalize UInt8.ofNat (192+r.toNat / 64)=b1 at hen;obtain⟨b2,hb2'⟩:∃ b2,UInt8.ofNat (128+r.toNat % 64)=b2:=⟨_,rfl⟩
    have hb3:128<=b2.toNat:=by rw [<- hb2'];simp [UInt8.toNat_ofNat'];omega
    rw [hb2'] at hen;clear hb2';have hne:((10:Int) != (b2.toNat:Int))=true:=by simp;omega
    go_wp2_with fail;go_step3;go_wp2_with fail;go_loopg [9] 0 (fun g v wx=>wx=w/\v=.int .i64 1);case atStart=>exact⟨rfl,rfl⟩
    case round =>
     obtain⟨rfl,rfl⟩:=hrel;go_wp2_with fail;go_step3;go_wp2_with fail;have hx1:∀ h,(⟨#[34,10]⟩:ByteArray)[1]'h=10:=fun _=>rfl;have hx2:∀ h,(⟨#[b1,b2]⟩:ByteArray)[1]'h=b2:=fun _=>rfl;refine Ba kR kR ?_;repeat (quiet_step (fail))
     refine Cj ?_;intro wq hbq;replace hbq:=As hbq;go_wp2_with fail;have hw2:IntKind.i64.wrap 2=2:=dC;have zJ:=hbq;clear hbq;generalize wq=wq1 at *;have IB:∀ (W:ZB),ZE prog 117 #[.string ⟨#[]⟩,.int .u8 (b2.toNat:Int)] W (fun e w'=>e=.returned (.int .i64 (-1))/\Below W W w'):=fun W=>(Tryz.strings_IndexByte ⟨#[]⟩ (b2.toNat:Int) W).mono fun e w' ⟨h1,h2⟩=>⟨h1,h2 ▸ Ac _ _⟩
     refine Ba kR kR ?_;repeat (quiet_step (exact Bg (IB _)))
     refine Cj ?_;intro wq hbq;replace hbq:=As hbq;go_wp2_with fail;rw [Exit.noGoto_ret];go_wp2_with fail;rw [Exit.noGoto_ret];go_ret;exact⟨rfl,zJ.trans (hbq.mono zJ.size)⟩
   ·obtain⟨E,hE⟩:∃ E,Utf8.encode r=E:=⟨_,rfl⟩
    have hE3:3<=E.size/\E.size<=4:=by
     rw [<- hE];unfold Utf8.encode;cases hv:Utf8.valid r;·exact (dC:3<=(Utf8.encode (-1)).size/\(Utf8.encode (-1)).size<=4)
     ·simp only [Np];rw [Af oM,Af oM];split;·exact⟨Bo 3,show 3<=4 by omega⟩
      ·exact⟨show 3<=4 by omega,Bo 4⟩
    have hE':=Aa hE;go_wp2_with fail;go_step3;go_wp2_with fail;go_loopg [9] 0 (fun g v wx=>wx=w/\v=.int .i64 ((E.size:Int) - 1));case atStart=>exact⟨rfl,rfl⟩
    case round =>obtain⟨rfl,rfl⟩:=hrel;go_wp2_with fail;rw [Exit.noGoto_ret];go_ret;exact⟨rfl,Ac _ _⟩
theorem Ipc (s:ByteArray) (k:Nat) (h:k<s.size):s.get! k=s[k]'h:=by simp [ByteArray.get!,getElem!_pos,h];rfl
theorem Feb (s:ByteArray) (i:Nat) (h:i<s.size) (h128:128<=(s[i]'h).toNat) : 128<=(Utf8.decode s i).1/\(Utf8.decode s i).1<=1114111/\1<=(Utf8.decode s i).2/\i+(Utf8.decode s i).2<=s.size/\∀ j,i<=j->j<i+(Utf8.decode s i).2->128<=(s.get! j).toNat:=by
 have g0:128<=(s.get! i).toNat:=by rw [Ipc s i h];exact h128
 have one:∀ (r:Nat),128<=r->r<=1114111->128<=(r,1).1/\(r,1).1<=1114111/\1<=(r,1).2/\i+(r,1).2<=s.size/\∀ j,i<=j->j<i+(r,1).2->128<=(s.get! j).toNat:=fun r h1 h2 =>⟨h1,h2,Bo _,h,fun j hj1 hj2=>by have e:j=i:=(by dsimp only at hj2;omega);subst e;exact g0⟩
 have b0:=(s.get! i).toNat_lt;unfold Utf8.decode;simp only [Hu,Utf8.runeError];rw [Af oM];split
 ·rename_i hc;simp only [Ar,Bl,Dz] at hc;obtain⟨hb,hl1,hc1⟩:=hc;split
  ·refine⟨oM,oM,oM,oM,fun j hj1 hj2=>?_⟩;rcases (oM:j=i\/j=i+1) with rfl|rfl;·exact g0
   ·omega
  ·exact one _ dC dC
 ·split
  ·rename_i hc;simp only [Ar,Bl,Dz] at hc;obtain⟨⟨hb,hl1,hc1⟩,hl2,hc2⟩:=hc;split
   ·refine⟨by simp_all;omega,oM,oM,oM,fun j hj1 hj2=>?_⟩;rcases (oM:j=i\/j=i+1\/j=i+2) with rfl|rfl|rfl;·exact g0
    ·omega
    ·omega
   ·exact one _ dC dC
  ·split
   ·rename_i hc;simp only [Ar,Bl,Dz] at hc;obtain⟨⟨⟨hb,hl1,hc1⟩,hl2,hc2⟩,hl3,hc3⟩:=hc;split
    ·rename_i hv;simp only [Ar,Bl,Utf8.valid,Dq] at hv;refine⟨oM,oM,oM,oM,fun j hj1 hj2=>?_⟩;rcases (oM:j=i\/j=i+1\/j=i+2\/j=i+3) with rfl|rfl|rfl|rfl;·exact g0
     ·omega
     ·omega
     ·omega
    ·exact one _ dC dC
   ·exact one _ dC dC
theorem run_next_at {P:Program} {w:ZB} {B:Nat} {s:ByteArray} {pos:Nat} (hB:w.heap[B]?=some (.stringIter s pos)) (ty:ZJ) (h:pos<s.size) : (Instr.next (.pointer (some ⟨B,0,none⟩)) true ty).run P w = .ok (.tuple #[.bool true,↑pos,.int .i32 (Utf8.decode s pos).1]) (w.putObj B (.stringIter s (pos+(Utf8.decode s pos).2))):=by simp [Instr.next,getObj,setObj,Sem.run,hB,Result.andThen,h,goInt,World.putObj]
theorem U6 {P:Program} {w:ZB} {B:Nat} {s:ByteArray} {pos:Nat} (hB:w.heap[B]?=some (.stringIter s pos)) (ty:ZJ) (h:¬ pos<s.size) : (Instr.next (.pointer (some ⟨B,0,none⟩)) true ty).run P w=.ok (.tuple #[.bool false]) w:=by simp [Instr.next,getObj,Sem.run,hB,h]
theorem Zc {w w1:ZB} {B r:Nat} (h:Below B w w1) (hr:B<=r) (o:Obj):Below B w (w1.putObj r o) := ⟨h.os,h.tape,h.output,by simp [World.putObj];exact h.size,fun k hk=>by rw [World.putObj_heap_other oM];exact h.block k hk⟩
def Nif (s:ByteArray) (w:ZB) (g:Nat) (wx:ZB):Prop := ∃ i:Nat,s.size<=i+g/\i<=s.size/\Below w w wx/\wx.heap[w.heap.size]?=some (.stringIter s i)/\Lib.NoAny s.data.toList [34,10] i
set_option maxRecDepth 1000000 in
theorem Xx (s:ByteArray) (w:ZB) (h8:s.size<=8) : ZE prog 215 #[.string s,.string ⟨#[34,10]⟩] w (Ret w (.int .i64 (Lib.indexAny s.data.toList [34,10]))):=by
 have h8z:ZH ((8:Int)<(s.size:Int))=false:=Aq oM;have SA:=fun (n:Int) (W:ZB)=>Any.strings_shouldUseASCIISet (P:=prog) (ρ:=Tryz.lays153_ren) { lays153 with } n W;have HI:=fun (r:Int) (W:ZB)=>Xv r W;have HI:=Aa HI;have HA:=Aa fun (r:Int) (W:ZB)=>Tryz.strings_IndexRune_ascii ⟨#[34,10]⟩ r W;have SA:=Aa SA;obtain⟨R,hR⟩:∃ R,Hid (Lib.indexAny s.data.toList [34,10]=R):=⟨_,Aa rfl⟩
 rw [hR.out];go_enter func215,ntmps215;go_wp2_with fail;refine (SA.out _ _).mono ?_;rintro e w' ⟨rfl,hw⟩;rw [hw,h8z];clear hw SA;go_wp2_with fail;go_loopg [9,10] s.size (fun g _ _ wx=>Nif s w g wx);case atStart=>exact⟨0,oM,oM,(Ac _ _).alloc nR _,World.iter_heap w s 0,Lib.NoAny.zero _ _⟩
 case round =>
  obtain⟨i,hig,hile,hb,hit,hno⟩:=hrel;have HN:=Aa hno;have Hit:=Aa hit;have hsz:w.heap.size<wr.heap.size:=(aZ hit)
  clear hno;by_cases hi:i<s.size
  ·cases gk with
   |zero=>omega
   |succ g =>
    have hnx:=fun ty=>run_next_at (P:=prog) hit ty hi;have hbp:=fun o=>Zc hb (Bo w) o;have hip:=fun o=>World.putObj_heap_same (w:=wr) (o:=o) hsz;obtain⟨x,hx⟩:∃ x:UInt8,s[i]'hi=x:=⟨_,rfl⟩
    have Hx:Hid (s.data.toList[i]?=some x):=Aa (by rw [<- hx];exact Lib.data_getElem? s i hi);by_cases hx1:x.toNat<128
    ·have hd:=decode_ascii s i hi (by rw [hx];exact hx1);rw [hd,hx] at hnx;dsimp only at hnx;have hcon:=Lib.contains_iff_indexByte [34,10] x;have hback:((x.toNat:Int)).toNat.toUInt8=x:=sM;clear hit hd hx;cases hin:List.contains [34,10] x with
     |false =>
      rw [hin] at hcon;have hlt:ZH ((0:Int)<=Lib.indexByte [34,10] x)=false:=hcon.symm;clear hcon;go_wp2_with fail;refine (HA.out _ _ oM oM).mono ?_;rintro e w' ⟨rfl,hw⟩;rw [hw,hback];clear hw;go_wp2;go_roundg g;case measure=>omega
      case rel=>exact⟨i+1,oM,oM,hbp _,hip _,HN.out.succ Hx.out hin⟩
     |true =>rw [hin] at hcon;have hlt:ZH ((0:Int)<=Lib.indexByte [34,10] x)=true:=hcon.symm;clear hcon;go_wp2_with fail;refine (HA.out _ _ oM oM).mono ?_;rintro e w' ⟨rfl,hw⟩;rw [hw,hback];clear hw;go_wp2;go_ret;exact⟨Vl (by rw [<- hR.out,Lib.indexAny_hit HN.out Hx.out hin]),hbp _⟩
    ·have hd:=Feb s i hi (by rw [hx];omega);obtain⟨d1,hd1⟩:∃ d,(Utf8.decode s i).1=d:=⟨_,rfl⟩
     obtain⟨d2,hd2⟩:∃ d,(Utf8.decode s i).2=d:=⟨_,rfl⟩
     rw [hd1,hd2] at hnx;rw [hd1,hd2] at hd;obtain⟨e1,e2,e3,e4,e5⟩:=hd;have HN2:Hid (Lib.NoAny s.data.toList [34,10] (i+d2)):=Aa fun j b hj hb'=>by
      by_cases hji:j<i;·exact HN.out j b hji hb'
      ·have h1:=e5 j oM hj;have h2:j<s.size:=oM;rw [Ipc s j h2] at h1;rw [Lib.data_getElem? s j h2] at hb';cases hb';generalize s[j]=c at h1;simp only [Il,A8,Bc,Dj,Df];rintro (rfl|rfl) <;> exact absurd h1 dC
     clear hit hx hd1 hd2 e5 Hx;go_wp2_with fail;refine (HI.out _ _ oM oM).mono ?_;rintro e w1 ⟨rfl,hb1⟩;have hB2:Below w w w1:=(hbp _).trans (hb1.mono (hbp _).size);have hI2:=(hb1.block w (by simp [World.putObj];exact hsz)).trans (hip _);clear hnx hbp hip;go_wp2;go_roundg g;case measure=>omega
     case rel=>exact⟨i+d2,oM,oM,hB2,hI2,HN2.out⟩
  ·obtain rfl:i=s.size:=oM;have hnx:=fun ty=>U6 (P:=prog) hit ty hi;clear hit;go_wp2;go_ret;exact⟨Vl (by rw [<- hR.out,Lib.indexAny_none (by rw [<- Lib.size_eq];exact HN.out)]),hb⟩
theorem Bxa (s:List UInt8) (w:ZB) (hs:s.length<=1000000) : ZE prog 215 #[↑s,.string ⟨#[34,10]⟩] w (Ret w (.int .i64 (Lib.indexAny s [34,10]))):=by
 have hz:(⟨s.toArray⟩:ByteArray).size=s.length:=by simp [ByteArray.size]
 by_cases h8:s.length<=8;·have:=Xx ⟨s.toArray⟩ w oM;simpa using this
 ·have:=Tryz.strings_IndexAny_long (fun w=>by kernel_rfl) ⟨s.toArray⟩ ⟨#[34,10]⟩ w dC oM oM dC (fun j b hj=>by
   rcases j with _|_|j;·cases hj;decide
   ·cases hj;decide
   ·simp at hj)
  refine this.mono fun e w' ⟨h1,h2⟩=>⟨by simpa using h1,?_⟩
  rw [h2];exact ((Ac _ _).alloc nR _).alloc sM _
def yS (t:CH.Tok):ZC:=.agg #[↑t.kind,↑t.pos,↑t.n,↑t.text]
def rO:Except Nat (CH.Tok × Nat)->ZC
 |.error e=>.tuple #[.agg #[.int .i64 0,.int .i64 0,.int .i64 0,.string ⟨#[]⟩],.int .i64 0,↑e]
 |.ok (t,j)=>.tuple #[yS t,↑j,.int .i64 0]
theorem Ev0:∀ l:List UInt8,Lib.indexAny l [34,10]=match l.findIdx? (fun c=>c==34||c==10) with|none=>-1|some n=>(n:Int):=by
 intro l;induction l with
 |nil=>rfl
 |cons b l ih =>
  rw [Lib.indexAny,List.findIdx?_cons,ih];have e:[34,10].contains b=(b==34||b==10):=by rw [Ei];simp
  rw [e];by_cases h:(b==34||b==10)=true;·simp [h]
  ·cases hf:l.findIdx? (fun c=>c==34||c==10) with
   |none=>simp [h]
   |some n =>have:¬ ((n:Int) = -1):=oM;simp [h,this]
theorem Hvr:∀ (l:List UInt8) (acc:Nat),(∀ c∈l,CH.cls c=4)->Lib.decFrom acc l=some (l.foldl (fun n c=>n*10+(c.toNat - 48)) acc):=by
 intro l;induction l with
 |nil=>intro acc _;rfl
 |cons c l ih =>intro acc h;have hc:=qG c (h c sM);rw [Lib.decFrom,Lib.digitVal,Ap hc];exact ih _ fun x hx=>h x (by simp [hx])
theorem Fm8 (l:List UInt8) (h:∀ c∈l,CH.cls c=4) (hne:l≠[]):Lib.atoi l=some (CH.dec l:Int):=by
 cases l with
 |nil=>exact absurd rfl hne
 |cons b r =>
  have hb:=qG b (h b sM);have h1:(b==45)=false:=by rw [CH.beq_toNat];simp;omega
  have h2:(b==43)=false:=by rw [CH.beq_toNat];simp;omega
  rw [Lib.atoi,h1,h2];show (Lib.decNat (b::r)).map _=_;unfold Lib.decNat;rw [Hvr _ 0 h];rfl
theorem Ql {P:Program} {fn:Func} {p u v:Tmp} {ty:ZJ} (h:fn.results=#[.cell p ty,.tmp u,.tmp v]) (tmps:Array ZC) (w:ZB) (a:Addr) (x:ZC) (hp:tmps.getD p ZA=.pointer (some a)) (hl:(loadVar ty a).run P w=.ok x w):(results fn tmps).run P w=.ok (.tuple #[x,tmps.getD u ZA,tmps.getD v ZA]) w:=by
 simp only [results,h];have hp':tmps[p]?.getD ZA=.pointer (some a):=by simpa using hp
 simp [asAddr];rw [hp'];simp [Result.andThen,hl]
theorem M9 {w:ZB} {g:Nat} (h:w.heap[g]?=some (.cells #[.int .i64 0,.int .i64 0,.int .i64 0,.string ⟨#[]⟩] 172 (0,0))) : w.there g 0 4/\w.cell? ⟨g,0,none⟩=some (.int .i64 0)/\w.cell? ⟨g,1,none⟩=some (.int .i64 0)/\w.cell? ⟨g,2,none⟩=some (.int .i64 0)/\w.cell? ⟨g,3,none⟩=some (.string ⟨#[]⟩) /\ w.frozen? ⟨g,0,none⟩=false/\w.frozen? ⟨g,1,none⟩=false/\w.frozen? ⟨g,2,none⟩=false/\w.frozen? ⟨g,3,none⟩=false:=by
 refine⟨fun j hj=>?_,Ab h 0,Ab h 1,Ab h 2,Ab h 3,Bi h 0,Bi h 1,Bi h 2,Bi h 3⟩;rw [Bh,Ab h j,Bi h j];rcases j with _|_|_|_|j;·simp
 ·simp
 ·simp
 ·simp
 ·omega
theorem Byd (s:List UInt8) (k:Nat):Lib.hasPrefix (s.drop k) [61]=ZH (s[k]?=some 61):=by
 unfold Lib.hasPrefix;by_cases hk:k<s.length
 ·rw [Gx hk,Ad hk];by_cases h:s[k]=61;·rw [h];simp
  ·simp [List.isPrefixOf,h];exact fun e=>h e.symm
 ·rw [Ky oM,Gm oM];simp
theorem Mrb:(prog.info? 172).map (·.size)=some 4:=kR
theorem Gd {r:ZC} {w w1:ZB} {b:Nat} {cells:List ZC} {tmps:Array ZC} (hlen:cells.length=4) (hth:w1.there b 0 4) (hp:tmps.getD 4 ZA=.pointer (some ⟨b,0,none⟩)) (hb:Below w w w1) (hbw:w.heap.size<=b) (hv:Hid (.tuple #[.agg cells.toArray,tmps.getD 5 ZA,tmps.getD 6 ZA]=r)) : bodyPost prog Tryz.f154 (Ret w r) .ret { tmps:=tmps,defers:=[] } (w1.setCells b 0 cells):=by refine Ah (Ql (p:=4) (u:=5) (v:=6) (ty:=172) rfl _ _ ⟨b,0,none⟩ _ hp (G7 _ b 0 172 cells _ (Ee w1 _ 0 _ (by rw [hlen];exact hth)) underlying172 rfl (by rw [hlen];exact Mrb))) rfl ?_;exact⟨congrArg Ending.returned hv.out,Mj hbw _ _ _ hb⟩
theorem Dup (b i:Nat) (s:List UInt8) (w:ZB) (hs:s.length<=1000000) (hi:i<s.length) (hS:Scan b s w) : ZE prog 154 #[.pointer (some ⟨b,0,none⟩),↑i] w (Ret w (rO (CH.next s i))):=by
 obtain⟨r,hr⟩:∃ r,Hid (rO (CH.next s i)=r):=⟨_,Aa rfl⟩
 rw [hr.out];have hBa:∀ o,Below w w (w.alloc o):=fun o=>(Ac _ w).alloc nR _;have A:=Aa fun o=>Cat b i s (w.alloc o) hs oM (hS.below (hBa o));go_enter func154,ntmps154;go_wp2_with fail;refine (A.out _).mono ?_;rintro e w1 ⟨rfl,hb1⟩;clear A;have hblk:=hb1.block w sM;rw [Au] at hblk;have hb:Below w w w1:=(hBa _).trans (hb1.mono sM);clear hb1 hBa;have hS1:=hS.below hb;have ht:=hS1.text;have hblt:=hS1.lt;have hbz:w.heap.size<w1.heap.size:=(aZ hblk)
 have keep:∀ w2,Below w1 w1 w2->w2.heap[w.heap.size]?=some (.cells #[.int .i64 0,.int .i64 0,.int .i64 0,.string ⟨#[]⟩] 172 (0,0)):=fun w2 h2=>(h2.block _ hbz).trans hblk;obtain⟨c,hc⟩:∃ c,Hid (dK s i=c):=⟨_,Aa rfl⟩
 rw [hc.out];have hBa:∀ o,Below w1 w1 (w1.alloc o):=fun o=>(Ac _ w1).alloc nR _;by_cases c3:c=3
 ·subst c3;have A:=Aa fun t=>Vv b i w1 3 s [3,4,5] (w1.alloc (.cells #[.int .i64 3,.int .i64 4,.int .i64 5] t)) hs oM dC (hS1.below (hBa _)) (R9 w1 [3,4,5] t);have g1:=iC s [3,4,5] i;have g2:=jl s [3,4,5] i oM;have hn:CH.next s i=if bU s [3,4,5] i - i > 24 then .error 2 else .ok (⟨1,i,0,(s.drop i).take (bU s [3,4,5] i - i)⟩,bU s [3,4,5] i):=by unfold CH.next;rw [if_pos hc.out]
  have Hn:=Aa hn;clear hn hS hS1;generalize bU s [3,4,5] i=q at *;go_wp2_with fail;refine (A.out _).mono ?_;rintro e w2 ⟨rfl,hb2⟩;clear A;have hb2':Below w1 w1 w2:=(hBa _).trans (hb2.mono sM);clear hb2 hBa;have hbb:=hb.trans (hb2'.mono hb.size);obtain⟨hth,k0,k1,k2,k3,f0,f1,f2,f3⟩:=M9 (keep w2 hb2');have ht2:w2.cell? ⟨b,0,none⟩=some ↑s:=(hb2'.cell (p:=⟨b,0,none⟩) hblt).trans ht;clear keep;by_cases h24:q - i > 24
  ·have d:ZH ((24:Int)<(q:Int) - (i:Int))=true:=by simp;omega
   have hn:=Hn.out;rw [Ap h24] at hn;clear Hn;have Hn:=Aa hn;clear hn;exact FD19
  ·have d:ZH ((24:Int)<(q:Int) - (i:Int))=false:=by simp;omega
   have hn:=Hn.out;rw [Af h24] at hn;clear Hn;have Hn:=Aa hn;clear hn;go_wp2;refine Gd (r:=r) (cells:=[.int .i64 1,↑i,.int .i64 0,.string ((ByteArray.mk s.toArray).extract i q)]) ?_ hth ?_ hbb nR (Aa ?_) <;> try rfl
   rw [<- hr.out,Hn.out];simp only [Fx];rfl
 by_cases c4:c=4
 ·subst c4;have A:=Aa fun t=>Vv b i w1 1 s [4] (w1.alloc (.cells #[.int .i64 4] t)) hs oM dC (hS1.below (hBa _)) (R9 w1 [4] t);have g1:=iC s [4] i;have g2:=jl s [4] i oM;have hmem:=Aa (qg s [4] i);have g3:i<bU s [4] i:=by rw [nG s _ i hi (by rw [hc.out];rfl)];exact iC _ _ _
  have hn:CH.next s i=if bU s [4] i - i > 13\/dK s (bU s [4] i)=3\/dK s (bU s [4] i)=5 then .error 4
    else .ok (⟨2,i,CH.dec ((s.drop i).take (bU s [4] i - i)),(s.drop i).take (bU s [4] i - i)⟩,bU s [4] i):=by
   unfold CH.next;rw [if_neg (by rw [hc.out];decide),if_pos hc.out]
  have Hn:=Aa hn;clear hn;generalize bU s [4] i=q at *;go_wp2_with fail;refine (A.out _).mono ?_;rintro e w2 ⟨rfl,hb2⟩;clear A;have hb2':Below w1 w1 w2:=(hBa _).trans (hb2.mono sM);clear hb2 hBa;have hS2:=hS1.below hb2';clear hS hS1;have A:=Aa (Cat b q s w2 hs oM hS2);go_wp2_with fail;refine A.out.mono ?_;rintro e w3 ⟨rfl,hb3⟩;clear A;have fF:Below w1 w1 w3:=hb2'.trans (hb3.mono hb2'.size);have ht3:=(hS2.below hb3).text;clear hb3 hb2' hS2;have hbb:=hb.trans (fF.mono hb.size);obtain⟨hth,k0,k1,k2,k3,f0,f1,f2,f3⟩:=M9 (keep w3 fF);obtain⟨x,hx⟩:∃ x,dK s q=x:=⟨_,rfl⟩
  rw [hx] at Hn ⊢;by_cases h13:q - i > 13
  ·have d:ZH ((13:Int)<(q:Int) - (i:Int))=true:=by simp;omega
   rw [Ap (.inl h13)] at Hn;clear keep hx hmem;exact FD19
  have d:ZH ((13:Int)<(q:Int) - (i:Int))=false:=by simp;omega
  by_cases hx3:x=3
  ·have d3:((x:Int)==3)=true:=by simp;omega
   rw [Ap (.inr (.inl hx3))] at Hn;clear keep hx hmem;exact FD19
  have d3:((x:Int)==3)=false:=by simp;omega
  by_cases hx5:x=5
  ·have d5:((x:Int)==5)=true:=by simp;omega
   rw [Ap (.inr (.inr hx5))] at Hn;clear keep hx hmem;exact FD19
  have d5:((x:Int)==5)=false:=by simp;omega
  rw [Af oM] at Hn;have hll:((s.drop i).take (q - i)).length=q - i:=by rw [Ec,Et];omega
  have hne:(s.drop i).take (q - i)≠[]:=fun e=>by rw [e] at hll;simp at hll;omega
  have hdg:=Fm8 _ (fun c hc'=>by have:=hmem.out c hc';simpa using this) hne;have AT:=Aa (Tryz.strconv_Atoi ⟨((s.drop i).take (q - i)).toArray⟩ (CH.dec ((s.drop i).take (q - i))) (by show ((s.drop i).take (q - i)).toArray.size<=18;simp only [Ht,hll];omega) hdg w3);generalize hdd:CH.dec ((s.drop i).take (q - i))=dd at *;clear hmem hx hll hne hdg;go_wp2_with fail;simp only [Fx];refine AT.out.mono ?_;rintro e w4 ⟨rfl,t4,hw4⟩;clear AT;have hb4:Below w3 w3 w4:=by rw [hw4];exact Lib.bytesWorld_below _ _ _
  clear hw4;have vN:Below w1 w1 w4:=fF.trans (hb4.mono fF.size);have ht4:w4.cell? ⟨b,0,none⟩=some ↑s:=(hb4.cell (p:=⟨b,0,none⟩) (Ai hblt fF.size)).trans ht3;have FH:=hb.trans (vN.mono hb.size);clear hth k0 k1 k2 k3 f0 f1 f2 f3 hbb fF hb4 ht3;obtain⟨hth,k0,k1,k2,k3,f0,f1,f2,f3⟩:=M9 (keep w4 vN);clear keep;go_wp2;refine Gd (r:=r) (cells:=[.int .i64 2,↑i,↑dd,.string ((ByteArray.mk s.toArray).extract i q)]) ?_ hth ?_ FH nR (Aa ?_) <;> try rfl
  rw [<- hr.out,Hn.out];simp only [Fx];rfl
 by_cases c6:c=6
 ·subst c6;have hn:CH.next s i=match (s.drop (i+1)).findIdx? (fun c=>c==34||c==10) with
    |none=>.error 6
    |some n=>if (s.drop (i+1))[n]?=some 10 then .error 6 else if n > 400 then .error 2 else .ok (⟨3,i,0,(s.drop (i+1)).take n⟩,i+n+2):=by
   unfold CH.next;rw [if_neg (by rw [hc.out];decide),if_neg (by rw [hc.out];decide),if_pos hc.out]
   rfl
  have hrl:(s.drop (i+1)).length=s.length - (i+1):=Et;have IA:=Aa (Bxa (s.drop (i+1)) w1 oM);rw [Ev0] at IA;clear hS hS1 hBa;go_wp2_with fail;simp only [Fd];refine IA.out.mono ?_;rintro e w2 ⟨rfl,hb2⟩;clear IA;have hbb:=hb.trans (hb2.mono hb.size);obtain⟨hth,k0,k1,k2,k3,f0,f1,f2,f3⟩:=M9 (keep w2 hb2);clear keep;cases hf:(s.drop (i+1)).findIdx? (fun c=>c==34||c==10) with
  |none =>rw [hf] at hn;have Hn:=Aa hn;clear hn hf;exact FD19
  |some n =>
   obtain⟨hnl,_,_⟩:=Gf.1 hf;replace hn:CH.next s i=if (s.drop (i+1))[n]?=some 10 then .error 6 else if n > 400 then .error 2 else .ok (⟨3,i,0,(s.drop (i+1)).take n⟩,i+n+2):=by rw [hn,hf]
   obtain⟨ch,hch⟩:∃ ch,(s.drop (i+1))[n]?=some ch:=⟨_,Ad hnl⟩
   rw [hch] at hn;have hgk:=Lf _ n hnl ch hch;generalize hR:s.drop (i+1)=R at *;dsimp only;have d0:ZH ((n:Int)<0)=false:=sM;by_cases h10:ch=10;·subst h10;have Hn:=Aa hn;rw [Ap rfl] at Hn;clear hn hf hch hR;exact FD19
   ·have d1:((ch.toNat:Int)==10)=false:=by have:=CH.beq_toNat ch 10;rw [Bq.2 h10] at this;simp at this ⊢;omega
    have Hn:=Aa hn;rw [Af (fun e=>h10 (H6 e))] at Hn;clear hn hf hch hR;by_cases AV:n > 400
    ·have d4:ZH ((400:Int)<(n:Int))=true:=by simp;omega
     rw [Ap AV] at Hn;exact FD19
    ·have d4:ZH ((400:Int)<(n:Int))=false:=by simp;omega
     rw [Af AV] at Hn;go_wp2;refine Gd (r:=r) (cells:=[.int .i64 3,↑i,.int .i64 0,.string ((ByteArray.mk R.toArray).extract 0 n)]) ?_ hth ?_ hbb nR (Aa ?_) <;> try rfl
     rw [<- hr.out,Hn.out];simp only [Fx,Hz,Nat.sub_zero];rfl
 have hpre:Lib.hasPrefix (s.drop (i+1)) [61]=ZH (s[i+1]?=some 61):=Byd s (i+1);by_cases c78:c=7\/c=8
 ·have hn:CH.next s i=if s[i+1]?=some 61 then .ok (⟨4,i,0,(s.drop i).take 2⟩,i+2) else if c=7 then .error 3 else .ok (⟨4,i,0,(s.drop i).take 1⟩,i+1):=by unfold CH.next;rw [hc.out,if_neg c3,if_neg c4,if_neg c6,if_pos c78]
  have HP:=Aa (Tryz.strings_HasPrefix ⟨(s.drop (i+1)).toArray⟩ ⟨#[61]⟩ w1);have hpre':Lib.hasPrefix (ByteArray.mk (s.drop (i+1)).toArray).data.toList (ByteArray.mk #[61]).data.toList=ZH (s[i+1]?=some 61):=hpre;rw [hpre'] at HP;obtain⟨hth,k0,k1,k2,k3,f0,f1,f2,f3⟩:=M9 (keep w1 (Ac _ _));clear hS hS1 hBa keep hpre hpre';by_cases h61:s[i+1]?=some 61
  ·have hl2:i+1<s.length:=(lS h61)
   rw [Ap h61] at hn;rw [Ak h61] at HP;have Hn:=Aa hn;clear hn h61;rcases c78 with rfl|rfl;all_goals
    go_wp2_with fail;simp only [Fd];refine HP.out.mono ?_;rintro e w2 ⟨rfl,hw2⟩;subst hw2;clear HP;go_wp2;refine Gd (r:=r) (cells:=[.int .i64 4,↑i,.int .i64 0,.string ((ByteArray.mk s.toArray).extract i (i+2))]) ?_ hth ?_ hb nR (Aa ?_) <;> try rfl
    rw [<- hr.out,Hn.out];simp only [Fx,G6];rfl
  ·rw [Af h61] at hn;rw [Aq h61] at HP;have Hn:=Aa hn;clear hn h61;rcases c78 with rfl|rfl;·rw [Ap rfl] at Hn;go_wp2_with fail;simp only [Fd];refine HP.out.mono ?_;rintro e w2 ⟨rfl,hw2⟩;subst hw2;clear HP;exact FD91
   ·rw [Af dC] at Hn;go_wp2_with fail;simp only [Fd];refine HP.out.mono ?_;rintro e w2 ⟨rfl,hw2⟩;subst hw2;clear HP;exact FD67
 obtain⟨hth,k0,k1,k2,k3,f0,f1,f2,f3⟩:=M9 (keep w1 (Ac _ _));clear hS hS1 hBa keep hpre;by_cases c9:c=9
 ·subst c9;have hn:CH.next s i=.ok (⟨4,i,0,(s.drop i).take 1⟩,i+1):=by unfold CH.next;rw [hc.out,if_neg c3,if_neg c4,if_neg c6,if_neg c78,if_pos rfl]
  have Hn:=Aa hn;clear hn;exact FD67
 have hn:CH.next s i=.error 3:=by unfold CH.next;rw [hc.out,if_neg c3,if_neg c4,if_neg c6,if_neg c78,if_neg c9]
 have Hn:=Aa hn;clear hn;have d3:((c:Int)==3)=false:=by simp;omega
 have d4:((c:Int)==4)=false:=by simp;omega
 have d6:((c:Int)==6)=false:=by simp;omega
 have d7:((c:Int)==7)=false:=by simp;omega
 have d8:((c:Int)==8)=false:=by simp;omega
 have d9:((c:Int)==9)=false:=by simp;omega
 exact FD91
end
section
open Go.Lib Go.Proofs.Tryz Go.RowKit Go.Shelf CH
theorem Ggi (w:ZB) (o1 o2:Obj):((w.alloc o1).alloc o2).heap[w.heap.size]?=some o1/\((w.alloc o1).alloc o2).heap[w.heap.size+1]?=some o2:=by exact FD140
theorem Km {P:Program} {fn:Func} {p:Tmp} {ty:ZJ} (h:fn.results=#[.cell p ty]) (tmps:Array ZC) (w:ZB) (a:Addr) (v:ZC) (hp:tmps.getD p ZA=.pointer (some a)) (hl:(loadVar ty a).run P w=.ok v w):(results fn tmps).run P w=.ok v w:=by
 simp only [results,h];have hp':tmps[p]?.getD ZA=.pointer (some a):=by simpa using hp
 simp [asAddr];rw [hp'];simpa [Result.andThen] using hl
def C7 (c:Nat) (s:List UInt8) (cs:Array ZC):Array ZC:=s.foldl (fun cs ch=>cs.setIfInBounds ch.toNat ↑c) cs
theorem Fu (c:Nat) (s:List UInt8):∀ cs:Array ZC,(C7 c s cs).size=cs.size:=by
 induction s with
 |nil=>intro cs;rfl
 |cons x r ih=>intro cs;unfold C7 at *;rw [List.foldl_cons,ih];simp
theorem Cli (c:Nat) (s:List UInt8) (x:UInt8) (cs:Array ZC):C7 c (s++[x]) cs=(C7 c s cs).setIfInBounds x.toNat ↑c:=by simp [C7]
theorem H5 (c:Nat) (s:List UInt8):∀ cs:Array ZC,(∀ v∈cs,v.oneCell'=true)->∀ v∈C7 c s cs,v.oneCell'=true:=by
 induction s with
 |nil=>intro cs h;exact h
 |cons x r ih =>
  intro cs h;unfold C7 at *;rw [Nw];refine ih _ (fun v hv=>?_);rcases Array.mem_or_eq_of_mem_setIfInBounds hv with h1|h1;·exact h v h1
  ·rw [h1];rfl
theorem M4 (s:List UInt8) (c b:Nat) (cs:Array ZC) (w:ZB) (hlen:s.length<=1000000) (hb:w.heap[b]?=some (.cells cs 211 (0,0))) (hsz:cs.size=256) : ZE prog 211 #[↑s,↑c,.pointer (some ⟨b,0,none⟩)] w (fun e w'=>e=.returned (.tuple #[])/\w'.heap[b]?=some (.cells (C7 c s cs) 211 (0,0))/\aY (·=b) w w'):=by
 go_enter func211,ntmps211;go_wp2_with fail;go_loopw [5] (fun kv wr=>∃ k:Nat,k<=s.length/\kv=↑k/\wr.heap[b]?=some (.cells (C7 c (s.take k) cs) 211 (0,0))/\aY (·=b) w wr) (fun kv _=>s.length - (ZG kv).toNat);case atStart=>exact⟨0,Bd _,rfl,by simpa [C7] using hb,aY.refl _ _⟩
 case round =>
  obtain⟨k,hk,rfl,hbk,hkp⟩:=hrel;by_cases hlt:k<s.length
  ·have hcs:(C7 c (s.take k) cs).size=256:=by rw [Fu];exact hsz
   obtain⟨ch,hch⟩:∃ ch,s[k]?=some ch:=⟨_,Ad hlt⟩
   have FC:ch.toNat<256:=Ew ch;obtain⟨u,hu⟩:∃ u,(C7 c (s.take k) cs)[ch.toNat]?=some u:=⟨_,Ho (by rw [hcs];exact FC)⟩
   have hgk:(⟨s.toArray⟩:ByteArray)[k]'(by show k<s.toArray.size;simpa using hlt)=ch:=by rw [Ad hlt] at hch;show s.toArray[k]'(by simpa using hlt)=ch;simpa using hch
   have FB:((ch.toNat:Nat):Int)<256:=oM;have hcell:wr.cell? ⟨b,ch.toNat,none⟩=some u:=by rw [Ab hbk];exact hu
   have hfro:wr.frozen? ⟨b,ch.toNat,none⟩=false:=Bi hbk _;generalize hcs':C7 c (s.take k) cs=cs' at *;clear hb;go_wp2_with fail;refine⟨⟨k+1,oM,by go_num,?_,hkp.setCell rfl _⟩,by simp [ZG];omega⟩;have:=Be wr b ch.toNat ↑c _ _ _ hbk;rw [this,D6,hch,F7,Cli,hcs']
  ·have e:k=s.length:=oM;subst e;rw [Dv] at hbk;go_wp2;go_end0;exact⟨rfl,hbk,hkp⟩
noncomputable def Ex:Array ZC:=(C7 9 [59,44,46,58,40,41,91,93,123,125,61,43,45] (C7 8 [60,62] (C7 7 [33] (C7 6 [34] (C7 2 [35] (C7 1 [32,9,10] (C7 5 [95] (C7 4 [48,49,50,51,52,53,54,55,56,57] (C7 3 [97,98,99,100,101,102,103,104,105,106,107,108,109,110,111,112,113,114,115,116,117,118,119,120,121,122,65,66,67,68,69,70,71,72,73,74,75,76,77,78,79,80,81,82,83,84,85,86,87,88,89,90] Tryz.zeroCells211)))))))))
theorem Fig (w:ZB):ZE prog 152 #[] w (fun e w'=>e=.returned (.agg Ex)/\Below w w w'):=by
 obtain⟨cs0,E0⟩:∃ x,Hid (x=Tryz.zeroCells211):=⟨_,Aa rfl⟩
 have z0:cs0.size=256:=by rw [E0.out];kernel_rfl
 have z00:=z0;have o0:∀ v∈cs0,v.oneCell'=true:=by rw [E0.out];exact fun v hv=>Kq.1 (by kernel_rfl:Tryz.zeroCells211.all (·.oneCell')=true) v hv
 go_enter func152,ntmps152;go_wp2_with fail;rw [<- E0.out];have hB:=Ggi w (.cells cs0 211) (.cells cs0 211);have b0:Below w w ((w.alloc (.cells cs0 211)).alloc (.cells cs0 211)):=((Ac _ w).alloc nR _).alloc sM _;have hs0:w.heap.size+1<((w.alloc (.cells cs0 211)).alloc (.cells cs0 211)).heap.size:=sM;generalize (w.alloc (.cells cs0 211)).alloc (.cells cs0 211)=w0 at *;obtain⟨r0,c0⟩:=hB;refine (M4 [97,98,99,100,101,102,103,104,105,106,107,108,109,110,111,112,113,114,115,116,117,118,119,120,121,122,65,66,67,68,69,70,71,72,73,74,75,76,77,78,79,80,81,82,83,84,85,86,87,88,89,90] 3 (w.heap.size+1) _ w0 dC c0 z0).mono ?_;rintro e w1 ⟨rfl,c1,k1⟩;have b1:=b0.trans (k1.below (B:=w.heap.size) (Gz (Es hs0)) (fun k e=>by rw [e];exact Iu _));have hs1:w.heap.size+1<w1.heap.size:=Ai hs0 k1.size;have r1:=(k1.block w (Es hs0) (Ir (Fh _))).trans r0;have z1:=(Fu 3 [97,98,99,100,101,102,103,104,105,106,107,108,109,110,111,112,113,114,115,116,117,118,119,120,121,122,65,66,67,68,69,70,71,72,73,74,75,76,77,78,79,80,81,82,83,84,85,86,87,88,89,90] cs0).trans z0;obtain⟨cs1,E1⟩:∃ x,Hid (x=C7 3 [97,98,99,100,101,102,103,104,105,106,107,108,109,110,111,112,113,114,115,116,117,118,119,120,121,122,65,66,67,68,69,70,71,72,73,74,75,76,77,78,79,80,81,82,83,84,85,86,87,88,89,90] cs0):=⟨_,Aa rfl⟩
 rw [<- E1.out] at c1 z1;have o1:∀ v∈cs1,v.oneCell'=true:=by rw [E1.out];exact H5 _ _ _ o0
 clear o0;clear k1 b0 c0 r0 z0 hs0;go_wp2_with fail;refine (M4 [48,49,50,51,52,53,54,55,56,57] 4 (w.heap.size+1) _ w1 dC c1 z1).mono ?_;rintro e w2 ⟨rfl,c2,k2⟩;have b2:=b1.trans (k2.below (B:=w.heap.size) (Gz (Es hs1)) (fun k e=>by rw [e];exact Iu _));have hs2:w.heap.size+1<w2.heap.size:=Ai hs1 k2.size;have r2:=(k2.block w (Es hs1) (Ir (Fh _))).trans r1;have z2:=(Fu 4 [48,49,50,51,52,53,54,55,56,57] cs1).trans z1;obtain⟨cs2,E2⟩:∃ x,Hid (x=C7 4 [48,49,50,51,52,53,54,55,56,57] cs1):=⟨_,Aa rfl⟩
 rw [<- E2.out] at c2 z2;have o2:∀ v∈cs2,v.oneCell'=true:=by rw [E2.out];exact H5 _ _ _ o1
 clear o1;clear k2 b1 c1 r1 z1 hs1;go_wp2_with fail;refine (M4 [95] 5 (w.heap.size+1) _ w2 dC c2 z2).mono ?_;rintro e w3 ⟨rfl,c3,k3⟩;have b3:=b2.trans (k3.below (B:=w.heap.size) (Gz (Es hs2)) (fun k e=>by rw [e];exact Iu _));have hs3:w.heap.size+1<w3.heap.size:=Ai hs2 k3.size;have r3:=(k3.block w (Es hs2) (Ir (Fh _))).trans r2;have z3:=(Fu 5 [95] cs2).trans z2;obtain⟨cs3,E3⟩:∃ x,Hid (x=C7 5 [95] cs2):=⟨_,Aa rfl⟩
 rw [<- E3.out] at c3 z3;have o3:∀ v∈cs3,v.oneCell'=true:=by rw [E3.out];exact H5 _ _ _ o2
 clear o2;clear k3 b2 c2 r2 z2 hs2;go_wp2_with fail;refine (M4 [32,9,10] 1 (w.heap.size+1) _ w3 dC c3 z3).mono ?_;rintro e w4 ⟨rfl,c4,k4⟩;have b4:=b3.trans (k4.below (B:=w.heap.size) (Gz (Es hs3)) (fun k e=>by rw [e];exact Iu _));have hs4:w.heap.size+1<w4.heap.size:=Ai hs3 k4.size;have r4:=(k4.block w (Es hs3) (Ir (Fh _))).trans r3;have z4:=(Fu 1 [32,9,10] cs3).trans z3;obtain⟨cs4,E4⟩:∃ x,Hid (x=C7 1 [32,9,10] cs3):=⟨_,Aa rfl⟩
 rw [<- E4.out] at c4 z4;have o4:∀ v∈cs4,v.oneCell'=true:=by rw [E4.out];exact H5 _ _ _ o3
 clear o3;clear k4 b3 c3 r3 z3 hs3;go_wp2_with fail;refine (M4 [35] 2 (w.heap.size+1) _ w4 dC c4 z4).mono ?_;rintro e w5 ⟨rfl,c5,k5⟩;have b5:=b4.trans (k5.below (B:=w.heap.size) (Gz (Es hs4)) (fun k e=>by rw [e];exact Iu _));have hs5:w.heap.size+1<w5.heap.size:=Ai hs4 k5.size;have r5:=(k5.block w (Es hs4) (Ir (Fh _))).trans r4;have z5:=(Fu 2 [35] cs4).trans z4;obtain⟨cs5,E5⟩:∃ x,Hid (x=C7 2 [35] cs4):=⟨_,Aa rfl⟩
 rw [<- E5.out] at c5 z5;have o5:∀ v∈cs5,v.oneCell'=true:=by rw [E5.out];exact H5 _ _ _ o4
 clear o4;clear k5 b4 c4 r4 z4 hs4;go_wp2_with fail;refine (M4 [34] 6 (w.heap.size+1) _ w5 dC c5 z5).mono ?_;rintro e w6 ⟨rfl,c6,k6⟩;have b6:=b5.trans (k6.below (B:=w.heap.size) (Gz (Es hs5)) (fun k e=>by rw [e];exact Iu _));have hs6:w.heap.size+1<w6.heap.size:=Ai hs5 k6.size;have r6:=(k6.block w (Es hs5) (Ir (Fh _))).trans r5;have z6:=(Fu 6 [34] cs5).trans z5;obtain⟨cs6,E6⟩:∃ x,Hid (x=C7 6 [34] cs5):=⟨_,Aa rfl⟩
 rw [<- E6.out] at c6 z6;have o6:∀ v∈cs6,v.oneCell'=true:=by rw [E6.out];exact H5 _ _ _ o5
 clear o5;clear k6 b5 c5 r5 z5 hs5;go_wp2_with fail;refine (M4 [33] 7 (w.heap.size+1) _ w6 dC c6 z6).mono ?_;rintro e w7 ⟨rfl,c7,k7⟩;have b7:=b6.trans (k7.below (B:=w.heap.size) (Gz (Es hs6)) (fun k e=>by rw [e];exact Iu _));have hs7:w.heap.size+1<w7.heap.size:=Ai hs6 k7.size;have r7:=(k7.block w (Es hs6) (Ir (Fh _))).trans r6;have z7:=(Fu 7 [33] cs6).trans z6;obtain⟨cs7,E7⟩:∃ x,Hid (x=C7 7 [33] cs6):=⟨_,Aa rfl⟩
 rw [<- E7.out] at c7 z7;have o7:∀ v∈cs7,v.oneCell'=true:=by rw [E7.out];exact H5 _ _ _ o6
 clear o6;clear k7 b6 c6 r6 z6 hs6;go_wp2_with fail;refine (M4 [60,62] 8 (w.heap.size+1) _ w7 dC c7 z7).mono ?_;rintro e w8 ⟨rfl,c8,k8⟩;have b8:=b7.trans (k8.below (B:=w.heap.size) (Gz (Es hs7)) (fun k e=>by rw [e];exact Iu _));have hs8:w.heap.size+1<w8.heap.size:=Ai hs7 k8.size;have r8:=(k8.block w (Es hs7) (Ir (Fh _))).trans r7;have z8:=(Fu 8 [60,62] cs7).trans z7;obtain⟨cs8,E8⟩:∃ x,Hid (x=C7 8 [60,62] cs7):=⟨_,Aa rfl⟩
 rw [<- E8.out] at c8 z8;have o8:∀ v∈cs8,v.oneCell'=true:=by rw [E8.out];exact H5 _ _ _ o7
 clear o7;clear k8 b7 c7 r7 z7 hs7;go_wp2_with fail;refine (M4 [59,44,46,58,40,41,91,93,123,125,61,43,45] 9 (w.heap.size+1) _ w8 dC c8 z8).mono ?_;rintro e w9 ⟨rfl,c9,k9⟩;have b9:=b8.trans (k9.below (B:=w.heap.size) (Gz (Es hs8)) (fun k e=>by rw [e];exact Iu _));have hs9:w.heap.size+1<w9.heap.size:=Ai hs8 k9.size;have r9:=(k9.block w (Es hs8) (Ir (Fh _))).trans r8;have z9:=(Fu 9 [59,44,46,58,40,41,91,93,123,125,61,43,45] cs8).trans z8;obtain⟨cs9,E9⟩:∃ x,Hid (x=C7 9 [59,44,46,58,40,41,91,93,123,125,61,43,45] cs8):=⟨_,Aa rfl⟩
 rw [<- E9.out] at c9 z9;have o9:∀ v∈cs9,v.oneCell'=true:=by rw [E9.out];exact H5 _ _ _ o8
 clear o8;clear k9 b8 c8 r8 z8 hs8;have hra:w9.rangeAt (w+1) 0 cs9.toList:=fun j v hj=>by rw [Bh,Ab c9 j];simpa using hj
 have hi9:(prog.info? 211).map (·.size)=some cs9.toList.length:=by rw [Ip,z9];kernel_rfl
 have hi9':(prog.info? 211).map (·.size)=some cs9.size:=by rw [z9];kernel_rfl
 have ho9:cs9.all (·.oneCell')=true:=Kq.2 o9;have hth:w9.there w 0 cs9.size:=fun j hj=>by rw [Bh,Ab r9 j,Bi r9 j];rw [z9] at hj;simp [Ho (show j<cs0.size by rw [z00];exact hj)]
 go_wp2_with (first|refine Bf rfl _ _ rfl (w+1) 0 rfl cs9.toList _ hra underlying211 rfl hi9 ?_|refine Hg rfl _ _ _ rfl w 0 cs9 rfl rfl hth hi9' ho9 ?_)
 refine Ah (Km (p:=0) (ty:=211) rfl _ _ ⟨w,0,none⟩ _ rfl (G7 _ w 0 211 cs9.toList _ (Ee w9 _ 0 _ (by simpa using hth)) underlying211 rfl hi9)) rfl ?_;refine⟨?_,Mj nR _ _ _ b9⟩;rw [Array.toArray_toList,E9.out,E8.out,E7.out,E6.out,E5.out,E4.out,E3.out,E2.out,E1.out,E0.out];rfl
theorem P3:Ex=((List.range 256).map fun n=>Value.int .i64 (CH.cls n.toUInt8:Nat)).toArray:=kR
theorem Zw (c:UInt8):Ex[c.toNat]?=some (.int .i64 (CH.cls c:Nat)):=by rw [P3];simp [Ew c]
theorem M0:Ex.size=256:=by rw [P3];simp
theorem Yi:∀ v∈Ex,v.oneCell'=true:=by rw [P3];intro v hv;simp at hv;obtain⟨n,_,rfl⟩:=hv;rfl
end
section
open Go.Lib Go.Proofs.Tryz Go.RowKit Go.Shelf Go.Sort CH
theorem Loc (l:List ZC):∀ (k0:Nat) (A:Array ZC) (j:Nat),((l.zipIdx k0).foldl (fun cs x=>cs.setIfInBounds (1+x.2) x.1) A)[j]?=if 1+k0<=j/\j<1+k0+l.length/\j<A.size then l[j - (1+k0)]? else A[j]?:=by
 induction l with
 |nil=>intro k0 A j;simp;omega
 |cons x l ih =>
  intro k0 A j;rw [List.zipIdx_cons,Nw,ih];simp only [Array.size_setIfInBounds,Az];by_cases h1:j=1+k0
  ·subst h1;rw [Af oM];by_cases h2:1+k0<A.size;·rw [Ap oM];simp [h2]
   ·rw [Af oM];simp [h2]
  ·rw [H9 (by simpa using fun e=>h1 e.symm)];by_cases h2:1+(k0+1)<=j/\j<1+(k0+1)+l.length/\j<A.size;·rw [Ap h2,Ap oM,show j - (1+k0)=(j - (1+(k0+1)))+1 from by omega,Fz]
   ·rw [Af h2,Af oM]
noncomputable def Lo (s:List UInt8):Array ZC:=Array.foldl (fun cs x=>cs.setIfInBounds (1+x.snd) x.fst) (Tryz.zeroCells214.setIfInBounds 0 (Value.string ⟨s.toArray⟩)) Ex.zipIdx 0 256
theorem Pz:Tryz.zeroCells214.size=257:=kR
theorem Ly (s:List UInt8) (j:Nat):(Lo s)[j]?=if j=0 then some ↑s else if j<257 then Ex[j - 1]? else none:=by
 have hz:=M0;have h0:=Pz;unfold Lo;rw [show (256:Nat)=Ex.zipIdx.size from by simp [hz],<- Array.foldl_toList,Array.toList_zipIdx,Loc];simp only [Array.size_setIfInBounds,h0,Ip,hz,Hu,Jk];by_cases hj:j=0;·subst hj;rw [Af oM,Ap rfl];simp [h0]
 ·by_cases h2:j<257;·rw [Ap oM,Af hj,Ap h2]
  ·rw [Af oM,Af hj,Af h2];exact Ib (by simp [h0];omega)
theorem Wh (s:List UInt8):(Lo s).size=257:=by
 have h1:=Ly s 256;have h2:=Ly s 257;have hx:Ex[255]?=some (Ex[255]'(by rw [M0];decide)):=Ho _;rw [Af dC,Ap dC,show 256 - 1=255 from rfl,hx] at h1;rw [Af dC,Af dC] at h2;have:=(aZ h1)
 have:=Array.getElem?_eq_none_iff.1 h2;omega
theorem Yv (s:List UInt8):∀ v∈Lo s,v.oneCell'=true:=by
 intro v hv;obtain⟨j,hj⟩:=Array.getElem?_of_mem hv;rw [Ly] at hj;split at hj;·cases hj;rfl
 split at hj;·exact Yi v (Ld hj)
 ·cases hj
theorem Ggr (s:List UInt8) (w:ZB):Scan w s (w.alloc (.cells (Lo s) 214)):=by
 refine⟨sM,?_,fun c=>?_⟩;·rw [C9,Ly,Ap rfl]
 ·rw [C9,Ly,Af oM,Ap (by have:=Ew c;omega),G6,Zw]
def Ga (t:CH.Tok):List ZC:=[↑t.kind,↑t.pos,↑t.n,↑t.text]
def Im (base:Nat) (w:ZB) (v:ZC) (ts:List CH.Tok):Prop:=w.ownsRow base 172 4 v ts.length (ts.flatMap Ga)
theorem Kit:(prog.info? 172).map (fun i=>(i.zero,i.size,i.bytes))=some (some (.agg #[.int .i64 0,.int .i64 0,.int .i64 0,.string ⟨#[]⟩]),4,40):=kR
theorem Hxa {w:ZB} {ops:Array Oper} {rest:List Oper} {o:Oper} {a:Act} {Q:Exit->Act->ZB->Prop} (hgd:o.guard=none) (s x:Operand) (ho:o.op=.call { callee:=.builtin .append,args:=#[s,x],argTypes:=#[168,168] }) (base:Nat) (v:ZC) (ts:List CH.Tok) (hs:a.eval s=v) (hown:Im base w v ts) (g c:Nat) (t:CH.Tok) (hx:a.eval x=.slice (some ⟨g,0,none⟩) 1 c) (hcell:∀ j u,(Ga t)[j]?=some u->w.cell? ⟨g,j,none⟩=some u) (hlen:ts.length<=1099511627) (hbase:base<=w.heap.size) (h:∀ v' w',Im base w' v' (ts++[t])->w.grownBy w' v.ownBlock->wpList prog ops Q rest (a.put o.dst v') w') : wpList prog ops Q (o::rest) a w:=by
 obtain⟨i,hi,hz0,hz1,hz2⟩:=Js Kit;refine wpList_append_own_at w hgd s x 168 ho base 172 i _ 4 40 underlying168 hi hz0 hz1 hz2 rfl dC v ts.length _ hs hown ⟨g,0,none⟩ 1 c (Ga t) hx rfl ?_ ?_ ?_ ?_ hbase ?_;·intro j u hj;rw [show (⟨g,0,none⟩:Addr).add j=⟨g,j,none⟩ from by simp [Addr.add];exact fun e=>e.symm];exact hcell j u hj
 ·intro u hu;simp [Ga] at hu;rcases hu with rfl|rfl|rfl|rfl <;> rfl
 ·unfold maxLen;omega
 ·omega
 ·intro v' w' h1 h2 _ h4;exact h v' w' (by unfold Im;simpa using h1) h2
theorem Im.form {base:Nat} {w:ZB} {v:ZC} {ts:List CH.Tok} (h:Im base w v ts):∃ a cap,v=.slice a ts.length cap/\ts.length<=cap/\cap<=9223372036854775807:=by
 obtain⟨hlen,⟨rfl,h0⟩|⟨g,cap,cur,rfl,hb,hg,hn,hc,hsz,htk⟩⟩:=h;·exact⟨none,0,by rw [h0],oM,oM⟩
 ·exact⟨_,cap,rfl,hn,by unfold maxLen at hc;omega⟩
theorem Im.mono {base base':Nat} {w:ZB} {v:ZC} {ts:List CH.Tok} (h:Im base w v ts) (hb:base'<=base):Im base' w v ts:=by
 obtain⟨hlen,⟨h0,h1⟩|⟨g,cap,cur,h1,hb',h2⟩⟩:=h;·exact⟨hlen,.inl ⟨h0,h1⟩⟩
 ·exact⟨hlen,.inr ⟨g,cap,cur,h1,Ag hb hb',h2⟩⟩
theorem Um (s:List UInt8) (i e:Nat) (h:CH.next s i=.error e):1<=e:=by
 unfold CH.next at h;split at h
 ·split at h;·cases h;decide
  ·cases h
 split at h
 ·split at h;·cases h;decide
  ·cases h
 split at h
 ·split at h;·cases h;decide
  ·split at h;·cases h;decide
   split at h;·cases h;decide
   ·cases h
 split at h
 ·split at h;·cases h
  ·split at h;·cases h;decide
   ·cases h
 split at h;·cases h
 ·cases h;decide
theorem Pt {base:Nat} {w:ZB} {e:ZJ} {size:Nat} {v:ZC} {n:Nat} {xs:List ZC} (h:w.ownsRow base e size v n xs):∀ j,v.ownBlock=some j->base<=j:=by
 intro j hj;obtain⟨hlen,⟨rfl,h0⟩|⟨g,cap,cur,rfl,hb,hg,rest⟩⟩:=h;·cases hj
 ·simp only [Value.ownBlock,Ep] at hj;subst hj;exact hb
theorem Scan.low {b B:Nat} {s:List UInt8} {w w':ZB} (h:Scan b s w) (hb:Below B w w') (hlt:b<B):Scan b s w' := ⟨Ai h.lt hb.size,(hb.cell (p:=⟨b,0,none⟩) hlt).trans h.text,fun c=>(hb.cell (p:=⟨b,1+c.toNat,none⟩) hlt).trans (h.cls c)⟩
def Pfe (w:ZB) (r:Except (Nat × Nat) (List CH.Tok)) (e:Ending) (w':ZB):Prop :=
 Below w w w'/\match r with
  |.error x=>e=.returned (.tuple #[.slice none 0 0,↑x.1,↑x.2])
  |.ok ts=>∃ v,e=.returned (.tuple #[v,.int .i64 0,.int .i64 0])/\Im w w' v ts
theorem Bug (s:List UInt8) (w:ZB) (hs2:s.length<=20000) : ZE prog 96 #[↑s] w (Pfe w (CH.lex s)):=by
 obtain⟨r,hr⟩:∃ r,Hid (CH.lex s=r):=⟨_,Aa rfl⟩
 rw [hr.out];have d:ZH ((20000:Int)<(s.length:Int))=false:=by simp;omega
 have A:=Aa (Fig w);have hz:=Wh s;have hFs:(Array.foldl (fun cs x=>cs.setIfInBounds (1+x.snd) x.fst) (Tryz.zeroCells214.setIfInBounds 0 (Value.string ⟨s.toArray⟩)) Ex.zipIdx 0 256).size=257:=hz;have hsc:∀ w1:ZB,(storeCells ⟨w1,0,none⟩ (Array.foldl (fun cs x=>cs.setIfInBounds (1+x.snd) x.fst) (Tryz.zeroCells214.setIfInBounds 0 (Value.string ⟨s.toArray⟩)) Ex.zipIdx 0 256).toList).run prog (w1.alloc (.cells Tryz.zeroCells214 214))=.ok () (w1.alloc (.cells (Lo s) 214)):=fun w1 =>run_storeCells_new w1 214 Tryz.zeroCells214 (Lo s) (by rw [hz];kernel_rfl) (by rw [hz,Pz]) (Kq.2 (Yv s));have hscan:=fun w1=>Ggr s w1;have z:=M0;generalize hSC:Lo s=SC at *;generalize hCC:Ex=cc at *;clear hSC hCC;go_enter func96,ntmps96;go_wp2_with fail;refine A.out.mono ?_;clear A;rintro e w1 ⟨rfl,hb1⟩;go_wp2_with fail;generalize Array.foldl (fun cs x=>cs.setIfInBounds (1+x.snd) x.fst) (Tryz.zeroCells214.setIfInBounds 0 (Value.string ⟨s.toArray⟩)) cc.zipIdx 0 256=FF at *;have hS:=hscan w1;have hb2:=hb1.alloc hb1.size (.cells SC 214);have hsz:w1.heap.size<(w1.alloc (.cells SC 214)).heap.size:=sM;generalize w1.alloc (.cells SC 214)=W at *;clear hscan hsc hFs hz z;refine (Ipw w1 0 s W oM (Bd _) hS).mono ?_;rintro e w2 ⟨rfl,hb3⟩;have hB2:Below w w w2:=hb2.trans (hb3.mono hb2.size);have hS2:=hS.below hb3;have hwB:=hb1.size;have hg0:=uQ s 0 (Bd _);obtain⟨k0,hk0⟩:∃ k,Hid (CH.gap s 0=k):=⟨_,Aa rfl⟩
 rw [hk0.out] at hg0 ⊢;have hl0:Hid (kS s (s.length+1) k0 []=r):=Aa (by rw [<- hr.out,<- hk0.out];rfl);clear hS hb2 hb3 hsz hb1 hk0 hr;generalize hBB:w1.heap.size=B at *;clear hBB;go_wp2_with fail;go_loopw [6,7] (fun ov iv wr=>∃ (k f:Nat) (ts:List CH.Tok),k<=s.length/\iv=↑k/\Hid (kS s f k ts=r)/\s.length<f+k/\ts.length<=k/\Im (B+1) wr ov ts/\Scan B s wr/\Below w w wr) (fun _ iv _=>s.length - (ZG iv).toNat);case atStart=>exact⟨k0,s.length+1,[],hg0,rfl,hl0,oM,Bd _,Jo _ _ _ _,hS2,hB2⟩
 case round =>
  obtain⟨k,f,ts,hk,rfl,hl,hf,hts,hO,hSr,hBr⟩:=hrel;obtain⟨av,cv,rfl,hcv1,hcv2⟩:=hO.form;by_cases hlt:k<s.length
  ·have d1:ZH ((k:Int)<(s.length:Int))=true:=by simp;omega
   obtain⟨f',rfl⟩:∃ f',f=f'+1:=⟨f - 1,oM⟩
   have A:=Aa (Dup B k s wr oM hlt hSr);cases hn:CH.next s k with
   |error e =>
    have he:=Um s k e hn;rw [hn] at A;have hl':r=.error (e,k):=by rw [<- hl.out];unfold kS;rw [if_pos hlt,hn]
    clear hl hn;have z0:((e:Int)==0)=false:=by simp;omega
    have z1:((e:Int) != 0)=true:=by simp;omega
    go_wp2_with fail;refine A.out.mono ?_;rintro e2 w3 ⟨rfl,hb3⟩;clear A;dsimp only [rO];exact FD99
   |ok x =>
    obtain⟨t,j⟩:=x;obtain⟨hj1,hj2⟩:=uZ s k hlt t j hn;rw [hn] at A;go_wp2_with fail;refine A.out.mono ?_;rintro e2 w3 ⟨rfl,hb3⟩;clear A;dsimp only [rO,yS];by_cases h5:ts.length=5000
    ·have z0:((ts.length:Int)==5000)=true:=by simp;omega
     have hl':r=.error (2,k):=by
      rw [<- hl.out];conv=>lhs;unfold kS;rw [if_pos hlt,hn]
      dsimp only;rw [Ap h5]
     clear hl hn hO hSr;exact FD99
    ·have z0:((ts.length:Int)==5000)=false:=by simp;omega
     have hl':kS s f' (CH.gap s j) (ts++[t])=r:=by
      rw [<- hl.out];conv=>rhs;unfold kS;rw [if_pos hlt,hn]
      dsimp only;rw [Af h5]
     clear hl hn;have fF:Below w w w3:=hBr.trans (hb3.mono hBr.size);have hS3:=hSr.below hb3;have hO3:Im (B+1) w3 (.slice av ts.length cv) ts:=Hc hO hb3;have hB3:=hS3.lt;clear hO hSr hb3;have hA:Below w3 w3 ((w3.alloc (.cells (Ga t).toArray 172)).alloc (.cells (Ga t).toArray 172)):=((Ac _ w3).alloc nR _).alloc sM _;have hO4:Im (B+1) ((w3.alloc (.cells (Ga t).toArray 172)).alloc (.cells (Ga t).toArray 172)) (.slice av ts.length cv) ts:=Jd (Jd hO3 _) _;have hcell:∀ j u,(Ga t)[j]?=some u->((w3.alloc (.cells (Ga t).toArray 172)).alloc (.cells (Ga t).toArray 172)).cell? ⟨w3+1,j,none⟩=some u:=fun j u hj=>by have:=C9 (w3.alloc (.cells (Ga t).toArray 172)) (Ga t).toArray 172 (0,0) j;simpa using this.trans (by simpa using hj)
     have hsA:B+1<=((w3.alloc (.cells (Ga t).toArray 172)).alloc (.cells (Ga t).toArray 172)).heap.size:=by simp;omega
     have hblk:=Pt hO4;go_wp2_with (refine Hxa rfl _ _ rfl (B+1) _ ts rfl hO4 (w3+1) 1 t rfl hcell oM hsA ?_;intro v5 w5 hO5 hg5;have hb5:=Aa ((Ac (B+1) _).grown hg5 hsA hblk);clear hg5)
     have xJ:=hb5.out;have hS5:Scan B s w5:=(hS3.below hA).low xJ (Fh _);have hb6:Below w w w5:=(fF.trans (hA.mono fF.size)).trans (xJ.mono oM);refine (Ipw B j s w5 oM hj2 hS5).mono ?_;rintro e3 w6 ⟨rfl,hb7⟩;have hO6:Im (B+1) w6 v5 (ts++[t]):=Hc hO5 hb7;have hS6:=hS5.below hb7;have hb8:=hb6.trans (hb7.mono hb6.size);have hg1:=yg s j hj2;have hg2:=uQ s j hj2;have HL:=Aa hl';clear hb5 xJ hS5 hb6 hb7 hO5 hO4 hO3 hS3 hA hcell hsA hblk fF hl';generalize hG:CH.gap s j=G at *;go_wp2;go_roundw;case rel=>exact⟨G,f',ts++[t],hg2,rfl,HL,oM,by simp;omega,hO6,hS6,hb8⟩
     case measure=>simp [ZG];omega
  ·have d1:ZH ((k:Int)<(s.length:Int))=false:=by simp;omega
   have hl':r=.ok ts:=by
    rw [<- hl.out];cases f with
    |zero=>rfl
    |succ f'=>unfold kS;rw [if_neg hlt]
   clear hl;go_wp2;refine Ah (results_tmp3 rfl _ _ _) rfl ?_;refine⟨hBr,?_⟩;rw [hl'];exact⟨_,rfl,hO.mono oM⟩
theorem Im.cellAt {base:Nat} {w:ZB} {a:Option Addr} {n cap:Nat} {t:CH.Tok} (h:Im base w (.slice a n cap) [t]) : ∃ g,a=some ⟨g,0,none⟩/\w.cell? ⟨g,0,none⟩=some ↑t.kind/\w.cell? ⟨g,3,none⟩=some ↑t.text:=by
 have h':=h;obtain⟨hlen,⟨e,h0⟩|⟨g,cap',cur,e,hb,hg,hn,hc,hsz,htk⟩⟩:=h;·simp at h0
 ·injection e with e1 e2 e3;subst e1;subst e2;subst e3;refine⟨g,rfl,?_,?_⟩;·exact G8 h' 0 sM
  ·exact G8 h' 3 sM
theorem Cw (a b:List UInt8):((⟨a.toArray⟩:ByteArray)==⟨b.toArray⟩)=(a==b):=by
 show (a.toArray==b.toArray)=(a==b)
 simp
theorem Lgt (s:List UInt8):∀ (f i:Nat) (out:List CH.Tok) (x:Nat × Nat),kS s f i out=.error x->1<=x.1:=by
 intro f;induction f with
 |zero=>intro i out x h;cases h
 |succ f ih =>
  intro i out x h;unfold kS at h;split at h
  ·split at h;·rename_i e he;cases h;exact Um s i e he
   ·split at h;·cases h;exact (dC:1<=2)
    ·exact ih _ _ _ h
  ·cases h
theorem Buf (s:List UInt8) (x:Nat × Nat) (h:CH.lex s=.error x):1<=x.1:=Lgt s _ _ _ _ h
theorem Od (s:List UInt8) (w:ZB) (hs:s.length<=20000) : ZE prog 43 #[↑s] w (Ret w (.bool (CH.ident s))):=by
 obtain⟨r,hr⟩:∃ r,CH.ident s=r:=⟨_,rfl⟩
 rw [hr];unfold CH.ident at hr;rw [Ak hs,a_Bool_true_and] at hr;replace hr:=Aa hr;have A:=Aa (Bug s w hs);go_enter func43,ntmps43;exact FD4
theorem Z0 (s:List UInt8) (w:ZB) (hs:s.length<=20000) : ZE prog 130 #[↑s] w (Ret w (.bool (CH.ident s))):=by
 obtain⟨r,hr⟩:∃ r,CH.ident s=r:=⟨_,rfl⟩
 rw [hr];unfold CH.ident at hr;rw [Ak hs,a_Bool_true_and] at hr;replace hr:=Aa hr;have A:=Aa (Bug s w hs);go_enter func130,ntmps130;exact FD4
theorem Tt (s:List UInt8) (w:ZB) (hs:s.length<=20000) : ZE prog 204 #[↑s] w (Ret w (.bool (CH.ident s))):=by
 obtain⟨r,hr⟩:∃ r,CH.ident s=r:=⟨_,rfl⟩
 rw [hr];unfold CH.ident at hr;rw [Ak hs,a_Bool_true_and] at hr;replace hr:=Aa hr;have A:=Aa (Bug s w hs);go_enter func204,ntmps204;exact FD4
def Its (w:ZB) (n:Nat) (r:ByteArray->ZC) (e:Ending) (w':ZB):Prop:=∃ b:ByteArray,e=.returned (r b)/\b.size<=n/\Below w w w'
theorem Ua (t:Int) (w:ZB):ZE prog 257 #[↑t] w (fun e w'=>e=.returned (.bool (aW t))/\w'=w):=by
 obtain⟨r,hr⟩:∃ r,Hid (aW t=r):=⟨_,Aa rfl⟩
 rw [hr.out];by_cases h0:0<=t
 ·have d0:ZH (0<=t)=true:=by simpa using h0
  exact FD129
 ·have d0:ZH (0<=t)=false:=by simpa using h0
  exact FD129
theorem Inb (n:Nat) (w:ZB) (hG:Gl w) (hn:n<=1000000000):ZE prog 258 #[↑n] w (Its w 50 fun b=>.string b):=by have A:=Aa (Hb ((n:Int) / 10) w oM oM hG);have A2:=fun w=>Hb ((n:Int) % 10) w oM oM;go_enter func258,ntmps258;go_wp2_with fail;refine A.out.mono ?_;rintro e w1 ⟨rfl,hb1⟩;have A3:=Aa (A2 w1 (hG.below hb1));clear A A2;go_wp2_with fail;refine A3.out.mono ?_;rintro e w2 ⟨rfl,hb2⟩;clear A3;have hl1:=Lib.itoa_length_le ((n:Int) / 10) oM oM;have hl2:=Lib.itoa_length_le ((n:Int) % 10) oM oM;generalize Lib.itoa ((n:Int) / 10)=l1 at *;generalize Lib.itoa ((n:Int) % 10)=l2 at *;go_wp2;go_ret;refine⟨_,rfl,?_,hb1.trans (hb2.mono hb1.size)⟩;simp [ByteArray.size];omega
theorem Zv (t:Int) (w:ZB) (hG:Gl w):ZE prog 201 #[↑t] w (Its w 200 fun b=>.tuple #[.string b,.int .i64 (if aW t then 0 else 1)]):=by
 have A:=Aa (Ua t w);cases hi:aW t with
 |false =>rw [hi] at A;go_enter func201,ntmps201;go_wp2_with fail;refine A.out.mono ?_;rintro e w1 ⟨rfl,rfl⟩;clear A;go_wp2;refine Ah (Am rfl _ _ _) rfl ?_;exact⟨_,rfl,Bd _,Ac _ _⟩
 |true =>
  rw [hi] at A;obtain⟨n,rfl,hn⟩:∃ n:Nat,t=n/\n<=144001439:=by unfold aW at hi;simp at hi;exact⟨t.toNat,oM,oM⟩
  clear hi;have A1:=Aa fun w=>Hb ((n:Int) / 1440) w oM oM;have A2:=Aa (Inb (n % 1440 / 60));have A3:=Aa (Inb (n % 60));have e2:((n % 1440 / 60:Nat):Int)=(n:Int) % 1440 / 60:=oM;have e3:((n % 60:Nat):Int)=(n:Int) % 60:=oM;rw [e2] at A2;rw [e3] at A3;clear e2 e3;go_enter func201,ntmps201;go_wp2_with fail;refine A.out.mono ?_;rintro e w1 ⟨rfl,rfl⟩;clear A;go_wp2_with fail;refine (A1.out _ hG).mono ?_;rintro e w2 ⟨rfl,hb2⟩;have hG2:=hG.below hb2;clear A1;have hl1:=Lib.itoa_length_le ((n:Int) / 1440) oM oM;generalize Lib.itoa ((n:Int) / 1440)=l1 at *;go_wp2_with fail;refine (A2.out _ hG2 oM).mono ?_;rintro e w3 ⟨b3,rfl,hs3,hb3⟩;have hG3:=hG2.below hb3;clear A2;go_wp2_with fail;refine (A3.out _ hG3 oM).mono ?_;rintro e w4 ⟨b4,rfl,hs4,hb4⟩;clear A3;go_wp2;refine Ah (Am rfl _ _ _) rfl ?_;refine⟨_,rfl,?_,(hb2.trans (hb3.mono hb2.size)).trans (hb4.mono (Ag hb2.size hb3.size))⟩;show (((ByteArray.mk l1.toArray++ByteArray.mk #[47])++b3++ByteArray.mk #[58])++b4).size<=200;simp only [Iz];have e1:(ByteArray.mk l1.toArray).size=l1.length:=by simp [ByteArray.size]
  have e2:(ByteArray.mk #[47]).size=1:=rfl;have e3:(ByteArray.mk #[58]).size=1:=rfl;omega
theorem Vb (t:Int) (w:ZB) (hG:Gl w):ZE prog 132 #[↑t] w (Ret w (.bool (aW t))):=by
 have A:=Aa (Zv t w hG);go_enter func132,ntmps132;go_wp2_with fail;refine A.out.mono ?_;rintro e w1 ⟨b,rfl,hs,hb⟩;clear A;cases hi:aW t with
 |false =>go_wp2;go_ret;exact⟨by rw [hi];rfl,hb⟩
 |true =>go_wp2;go_ret;exact⟨by rw [hi];rfl,hb⟩
def Ch {α:Type} [BEq α] (k:α):List (α × ZC)->Nat->Option (Nat × ZC)
 |[],_=>none
 |(a,v)::l,i=>if k==a then some (i,v) else Ch k l (i+1)
def Vi {α:Type} (emb:α->ZC) (r:Nat) (w:ZB) (kvs:List (α × ZC)):Prop := ∃ (es:Array MapEntry) (clock:Nat),w.heap[r]?=some (.map es clock)/\es.toList.map (fun e=>(e.key,e.val))=kvs.map (fun p=>(emb p.1,p.2))
theorem Tx {α:Type} [BEq α] (emb:α->ZC) (kind:TypeDesc) (hs:∀ a b,Instr.sameNow kind (emb a) (emb b)=some (a==b)) (k:α) : ∀ (kvs:List (α × ZC)) (es:List MapEntry) (i:Nat),es.map (fun e=>(e.key,e.val))=kvs.map (fun p=>(emb p.1,p.2))->Instr.findNow kind (emb k) es i=some (Ch k kvs i):=by
 intro kvs;induction kvs with
 |nil =>
  intro es i h;have:es=[]:=by simpa using h
  subst this;rfl
 |cons p l ih =>
  intro es i h;obtain⟨a,v⟩:=p;cases es with
  |nil=>simp at h
  |cons e es =>
   simp only [Eu,List.cons.injEq,Gg] at h;obtain⟨⟨hk,hv⟩,hr⟩:=h;rw [Instr.findNow,hk,hs,Ch];cases hb:(k==a) with
   |true=>simp [hv]
   |false=>simpa using ih es (i+1) hr
structure kG {α:Type} [BEq α] (P:Program) (K:ZJ) (emb:α->ZC) (kind:TypeDesc):Prop where
 under:P.underlying K=some kind
 same:∀ a b,Instr.sameNow kind (emb a) (emb b)=some (a==b)
 check:∀ (w:ZB) (e:Bool) (a:α),(Instr.checkKey e 10000 K (emb a)).run P w=.ok () w
theorem Dm {α:Type} [BEq α] {P:Program} {T K E:ZJ} {emb:α->ZC} {kind:TypeDesc} (hK:kG P K emb kind) (hT:P.underlying T=some (.map K E)) (z:ZC) (hz:∀ w,(zeroValue E).run P w=.ok z w) {r:Nat} {w:ZB} {kvs:List (α × ZC)} (h:Vi emb r w kvs) (k:α) : (Instr.lookup T (.map (some r)) (emb k) false).run P w=.ok (((Ch k kvs 0).map (·.2)).getD z) w:=by
 obtain⟨es,clock,hb,hes⟩:=h;have hf:=Tx emb kind hK.same k kvs es.toList 0 hes;cases hq:Ch k kvs 0 with
 |none =>rw [hq] at hf;simp [Instr.lookup,Ed hT,Gs hb,hK.check,Instr.findKey,Ed hK.under,hf,hz,Result.andThen]
 |some p =>rw [hq] at hf;simp [Instr.lookup,Ed hT,Gs hb,hK.check,Instr.findKey,Ed hK.under,hf,Result.andThen]
theorem Fi {α:Type} [BEq α] {P:Program} {T K E:ZJ} {emb:α->ZC} {kind:TypeDesc} (hK:kG P K emb kind) (hT:P.underlying T=some (.map K E)) {r:Nat} {w:ZB} {kvs:List (α × ZC)} (h:Vi emb r w kvs) (k:α) (v:ZC) (hn:Ch k kvs 0=none) : ∃ o,(Instr.mapUpdate T (.map (some r)) (emb k) v).run P w=.ok () (w.putObj r o)/\Vi emb r (w.putObj r o) (kvs++[(k,v)]):=by
 obtain⟨es,clock,hb,hes⟩:=h;have hf:=Tx emb kind hK.same k kvs es.toList 0 hes;rw [hn] at hf;have hlt:r<w.heap.size:=(aZ hb)
 refine⟨.map (es.push { key:=emb k,val:=v,born:=clock }) (clock+1),?_,es.push { key:=emb k,val:=v,born:=clock },clock+1,World.putObj_heap_same hlt,?_⟩;·exact FD125
 ·simp [hes]
theorem Rc {α:Type} (emb:α->ZC) (w:ZB):Vi emb w (w.alloc (.map #[] 0)) []:=⟨#[],0,Au _ _,rfl⟩
theorem Vi.below {α:Type} {emb:α->ZC} {r:Nat} {w w':ZB} {kvs:List (α × ZC)} (h:Vi emb r w kvs) (hb:Below w w w'):Vi emb r w' kvs:=by exact FD141
theorem Vi.lt {α:Type} {emb:α->ZC} {r:Nat} {w:ZB} {kvs:List (α × ZC)} (h:Vi emb r w kvs):r<w.heap.size:=by obtain⟨es,clock,h1,_⟩:=h;exact (aZ h1)
theorem Bt {w w1:ZB} {B r:Nat} (h:Below B w w1) (hr:B<=r) (o:Obj):Below B w (w1.putObj r o) := ⟨h.os,h.tape,h.output,by simp [World.putObj];exact h.size,fun k hk=>by rw [World.putObj_heap_other oM];exact h.block k hk⟩
theorem Pr:kG prog 9 ay .string where
 under:=underlying9
 same a b:=by
  show some ((⟨a.toArray⟩:ByteArray)==⟨b.toArray⟩)=_
  rw [Cw]
 check w e a:=MapKept.run_checkKey underlying9 (by trivial) e 9999
abbrev aJ (n:Int):ZC:=↑n
theorem My:kG prog 3 aJ (.int .i64) where
 under:=underlying3
 same a b:=by simp [Instr.sameNow]
 check w e a:=MapKept.run_checkKey underlying3 (by trivial) e 9999
end
end Go.Proofs.YtpkjhpenpfcpfaaGreatDoor
namespace CH
theorem Qw (ls:List Str) (x:Str):dW (ls++[x])=(dW ls&&!ls.contains x):=by
 induction ls with
 |nil=>rfl
 |cons y l ih =>
  rw [Dn,dW,dW,ih];have e1:(l++[x]).contains y=(l.contains y||y==x):=by rw [Ei];simp
  have e2:(y::l).contains x=(x==y||l.contains x):=by rw [Ei];simp
  have e3:(x==y)=(y==x):=by rw [Ei];simp;exact⟨fun h=>h.symm,fun h=>h.symm⟩
  rw [e1,e2,e3];cases l.contains y <;> cases dW l <;> cases l.contains x <;> cases (y==x) <;> rfl
theorem iQ (ls:List Str) (x:Str):aN (ls++[x])=(aN ls&&(isName x&&!ls.contains x)):=by unfold aN;rw [Io,Qw];simp only [Jl,Nb,Ik];cases ls.all isName <;> cases dW ls <;> cases isName x <;> rfl
theorem jW (l1 l2:List Str) (h:aN (l1++l2)=true):aN l1=true:=by
 induction l2 generalizing l1 with
 |nil=>simpa using h
 |cons x l ih =>have:=ih (l1++[x]) (by simpa using h);rw [iQ] at this;simp at this;exact this.1
theorem jI (ls:List Str) (k:Nat) (h:aN (ls.take k)=false):aN ls=false:=by
 cases hb:aN ls with
 |false=>rfl
 |true =>rw [<- En k ls] at hb;rw [jW _ _ hb] at h;cases h
end CH
namespace Go.Proofs.YtpkjhpenpfcpfaaGreatDoor
open Go.RowKit Go.Lib Go.Shelf Go.Sort CH
theorem Gcd (n m:Int) (w:ZB):ZE Tryz.prog 91 #[↑n,↑m] w (fun e w'=>e=.returned (.bool (CH.within n m))/\w'=w):=by
 obtain⟨r,hr⟩:∃ r,Hid (CH.within n m=r):=⟨_,Aa rfl⟩
 rw [hr.out];by_cases h0:0<=n
 ·have d0:ZH (0<=n)=true:=by simpa using h0
  go_enter Tryz.func91,Tryz.ntmps91;exact FD36
 ·have d0:ZH (0<=n)=false:=by simpa using h0
  go_enter Tryz.func91,Tryz.ntmps91;exact FD36
abbrev wK (r:Nat) (w:ZB) (ks:List (List UInt8)):Prop:=Vi ay r w (ks.map fun l=>(l,.bool true))
theorem Tw (l:List UInt8):∀ (ks:List (List UInt8)) (i:Nat),((Ch l (ks.map fun l=>(l,Value.bool true)) i).map (·.2)).getD (.bool false)=.bool (ks.contains l)/\((Ch l (ks.map fun l=>(l,Value.bool true)) i).isSome=ks.contains l):=by
 intro ks;induction ks with
 |nil=>intro i;exact⟨rfl,rfl⟩
 |cons x ks ih =>
  intro i;rw [Eu,Ch,List.contains_cons];cases h:(l==x) with
  |true=>simp
  |false=>simpa using ih (i+1)
theorem Clz {P:Program} {E:ZJ} {z:ZC} (h:(P.info? E).bind (·.zero)=some z) (w:ZB):(zeroValue E).run P w=.ok z w:=by
 cases hq:P.info? E with
 |none=>simp [hq] at h
 |some i =>simp [hq] at h;simp [zeroValue,typeInfo,hq,h,Result.andThen]
theorem Vn (w:ZB):(zeroValue 4).run Tryz.prog w=.ok (.bool false) w:=Clz kR w
theorem Alt (v:ZC) (ls:List (List UInt8)) (w:ZB) (hv:Strs w w v ls) (hl:ls.length<=100000) (hll:∀ l∈ls,l.length<=100000) : ZE Tryz.prog 89 #[v] w (Ret w (.bool (aN ls))):=by
 obtain⟨a,cap,rfl,hc1,hc2,hcell⟩:=hv;have hmm:=@Ij Tryz.prog;generalize hn:ls.length=n at *;go_enter Tryz.func89,Tryz.ntmps89;go_wp2_with fail;clear hmm;have hM0:=Rc ay w;have hb0:=(Ac _ w).alloc nR (.map #[] 0);generalize hw0:w.alloc (.map #[] 0)=w0 at *;go_loopw [9] (fun iv wr=>∃ k:Nat,k<=n/\iv=↑k/\Hid (aN (ls.take k)=true)/\wK w wr (ls.take k)/\Below w w wr) (fun iv _=>n - (ZG iv).toNat);case atStart=>exact⟨0,Bd _,rfl,Aa rfl,hM0,hb0⟩
 case round =>
  obtain⟨k,hk,rfl,hu,hM,hb⟩:=hrel;by_cases hlt:k<n
  ·obtain⟨x,hx⟩:∃ x,ls[k]?=some x:=⟨_,Ad oM⟩
   have hxl:=hll x (Aw hx);obtain⟨b,off,rfl,hblt,hcs⟩:=hcell (fun e=>by rw [e] at hn;simp at hn;omega);have hck:=(hb.cell (p:=⟨b,off+k,none⟩) hblt).trans (hcs k x hx);have hts:ls.take (k+1)=ls.take k++[x]:=by rw [D6,hx];rfl
   have hno:aN (ls.take (k+1))=(CH.isName x&&!(ls.take k).contains x):=by rw [hts,iQ,hu.out];rfl
   have A:=Aa (Ul x wr oM);have hlk:=Dm Pr Tryz.underlying165 (.bool false) Vn hM x;rw [(Tw x (ls.take k) 0).1] at hlk;have hko:((ls.take k).map fun l=>(l,Value.bool true))++[(x,.bool true)]=(ls.take (k+1)).map fun l=>(l,Value.bool true):=by rw [hts,Eh];rfl
   have hup:=fun (h:(ls.take k).contains x=false)=>Fi Pr Tryz.underlying165 hM x (.bool true) (by
    cases hq:Ch x ((ls.take k).map fun l=>(l,Value.bool true)) 0 with
    |none=>rfl
    |some p =>have:=(Tw x (ls.take k) 0).2;rw [hq,h] at this;cases this)
   rw [hko] at hup;have HN:=Aa hno;have HU:=Aa hup;have HT:=Aa (jI ls (k+1));have HF:=Aa hcell;have HC:=Aa hcs;have HA:=Aa hll;clear hno hup hts hko hcell hcs hll hx;cases hin:CH.isName x with
   |false =>rw [hin] at A;have hr':aN ls=false:=HT.out (by rw [HN.out,hin];rfl);exact FD143
   |true =>
    rw [hin] at A;cases hct:(ls.take k).contains x with
    |true =>have hr':aN ls=false:=HT.out (by rw [HN.out,hin,hct];rfl);rw [hct] at hlk;exact FD143
    |false =>
     have hr':aN (ls.take (k+1))=true:=by rw [HN.out,hin,hct];rfl
     have HR:=Aa hr';rw [hct] at hlk;obtain⟨o,ho,hM'⟩:=HU.out hct;clear hr' HN HT HU;go_wp2_with fail;refine A.out.mono ?_;rintro e w1 ⟨rfl,rfl⟩;clear A;go_wp2;go_roundw;case rel=>exact⟨k+1,oM,by go_num,HR,hM',Bt hb nR _⟩
     case measure=>simp [ZG];omega
  ·have e:k=n:=oM;subst e;have hr':aN ls=true:=by rw [<- hu.out,<- hn,Dv]
   exact FD61
end Go.Proofs.YtpkjhpenpfcpfaaGreatDoor
namespace Go.Proofs.YtpkjhpenpfcpfaaGreatDoor
section
open Go.Lib Go.Proofs.Tryz Go.RowKit Go.Shelf Go.Sort CH
def CJ (B:Nat) (w:ZB) (cs:List ZC) (l:fE):Prop := ∃ vm vp,cs=[ay l.id,vm,vp,aJ l.quota,aJ l.uses,aJ l.start,aJ l.aF]/\Strs B w vm l.measures/\Strs B w vp l.aG
def Gk (ls:List (List UInt8)):Prop:=ls.length<=100000/\∀ l∈ls,l.length<=10000
theorem Strs.form {B:Nat} {w:ZB} {v:ZC} {ls:List (List UInt8)} (h:Strs B w v ls):∃ a cap,v=.slice a ls.length cap/\ls.length<=cap/\cap<=9223372036854775807:=by exact FD121
theorem Bsu (cs:List ZC) (l:fE) (w:ZB) (hl:CJ w w cs l) (hid:l.id.length<=10000) (hm:Gk l.measures) (hp:Gk l.aG) : ZE prog 40 #[.agg cs.toArray] w (Ret w (.bool (aO l))):=by
 obtain⟨vm,vp,rfl,hvm,hvp⟩:=hl;obtain⟨r,hr⟩:∃ r,Hid (aO l=r):=⟨_,Aa rfl⟩
 rw [hr.out];obtain⟨am,cm,rfl,_,_⟩:=hvm.form;obtain⟨ap,cp,rfl,_,_⟩:=hvp.form;have hb0:=fun o=>(Ac _ w).alloc nR o;have A1:=Aa fun o=>Alt _ l.measures (w.alloc o) ((hvm.below (hb0 o) nR).mono (hb0 o).size) hm.1 (fun x hx=>Ag (hm.2 x hx) dC);have A2:=Aa fun (w1:ZB) (hb:Below w w w1)=>Alt _ l.aG w1 ((hvp.below hb nR).mono hb.size) hp.1 (fun x hx=>Ag (hp.2 x hx) dC);have A3:=Aa fun (w1:ZB)=>Ul l.id w1 oM;have W:=Aa fun (n m:Int) (w1:ZB)=>Gcd n m w1;generalize hnm:l.measures.length=nm at *;generalize hnp:l.aG.length=np at *;go_enter func40,ntmps40;go_wp2_with fail;refine (A1.out _).mono ?_;rintro e w1 ⟨rfl,hb1⟩;have hblk1:=(hb1.block w sM).trans (Au w _);have hB1:Below w w w1:=(hb0 _).trans (hb1.mono sM);have hlt1:w.heap.size<w1.heap.size:=(aZ hblk1)
 clear hb1 A1 hb0;have DR:w1.cell? ⟨w,0,none⟩=some (ay l.id):=Ab hblk1 0;have DN:w1.cell? ⟨w,1,none⟩=some (.slice am nm cm):=Ab hblk1 1;have DL:w1.cell? ⟨w,2,none⟩=some (.slice ap np cp):=Ab hblk1 2;have DI:w1.cell? ⟨w,3,none⟩=some (aJ l.quota):=Ab hblk1 3;have DF:w1.cell? ⟨w,4,none⟩=some (aJ l.uses):=Ab hblk1 4;have DC:w1.cell? ⟨w,5,none⟩=some (aJ l.start):=Ab hblk1 5;have CZ:w1.cell? ⟨w,6,none⟩=some (aJ l.aF):=Ab hblk1 6;cases h1:aN l.measures with
 |false =>
  clear A2;have HL:Hid ((aN l.measures&&aN l.aG&&(ZH (0<l.measures.length)&&ZH (l.measures.length<=12)&&ZH (l.aG.length<=60)))=false):=Aa (by rw [h1];rfl);go_wp2_with fail;cases hi:CH.isName l.id with
  |false =>have A:=A3.out w1;rw [hi] at A;replace A:=Aa A;clear A3 W;refine (A.out).mono ?_;rintro e w9 ⟨rfl,hw9⟩;rw [hw9];clear hw9 w9;clear A;go_wp2;go_ret;exact⟨by rw [<- hr.out];simp [aO,hi],hB1⟩
  |true =>have A:=A3.out w1;rw [hi] at A;replace A:=Aa A;clear A3;refine (A.out).mono ?_;rintro e w9 ⟨rfl,hw9⟩;rw [hw9];clear hw9 w9;clear A;clear W;go_wp2;go_ret;exact⟨by rw [<- hr.out];simp [aO,hi,HL.out],hB1⟩
 |true =>
  go_wp2_with fail;refine (A2.out w1 hB1).mono ?_;rintro e w2 ⟨rfl,hb2⟩;have hblk2:=(hb2.block w hlt1).trans hblk1;have hB2:Below w w w2:=hB1.trans (hb2.mono hB1.size);clear hb2 A2 DR DN DL DI DF DC CZ;have IY:w2.cell? ⟨w,0,none⟩=some (ay l.id):=Ab hblk2 0;have IX:w2.cell? ⟨w,1,none⟩=some (.slice am nm cm):=Ab hblk2 1;have IW:w2.cell? ⟨w,2,none⟩=some (.slice ap np cp):=Ab hblk2 2;have IU:w2.cell? ⟨w,3,none⟩=some (aJ l.quota):=Ab hblk2 3;have IQ:w2.cell? ⟨w,4,none⟩=some (aJ l.uses):=Ab hblk2 4;have IL:w2.cell? ⟨w,5,none⟩=some (aJ l.start):=Ab hblk2 5;have IK:w2.cell? ⟨w,6,none⟩=some (aJ l.aF):=Ab hblk2 6;cases h2:aN l.aG with
  |false =>have HL:Hid ((aN l.measures&&aN l.aG&&(ZH (0<l.measures.length)&&ZH (l.measures.length<=12)&&ZH (l.aG.length<=60)))=false):=Aa (by rw [h1,h2];rfl);exact FD12
  |true =>
   by_cases h3:0<nm
   ·have d3:ZH ((0:Int)<(nm:Int))=true:=by simp;omega
    by_cases h4:nm<=12
    ·have d4:ZH ((nm:Int)<=(12:Int))=true:=by simp;omega
     by_cases h5:np<=60
     ·have d5:ZH ((np:Int)<=(60:Int))=true:=by simp;omega
      have HL:Hid ((aN l.measures&&aN l.aG&&(ZH (0<l.measures.length)&&ZH (l.measures.length<=12)&&ZH (l.aG.length<=60)))=true):=Aa (by rw [h1,h2,hnm,hnp,Ak h3,Ak h4,Ak h5];rfl);go_wp2_with fail;cases hi:CH.isName l.id with
      |false =>exact FD66
      |true =>
       have A:=A3.out w2;rw [hi] at A;replace A:=Aa A;clear A3;refine (A.out).mono ?_;rintro e w9 ⟨rfl,hw9⟩;rw [hw9];clear hw9 w9;clear A;cases hw0:CH.within l.quota 1000000000 with
       |false =>have A:=W.out l.quota 1000000000 w2;rw [hw0] at A;replace A:=Aa A;clear W;go_wp2_with fail;refine (A.out).mono ?_;rintro e w9 ⟨rfl,hw9⟩;rw [hw9];clear hw9 w9;clear A;go_wp2;go_ret;exact⟨by rw [<- hr.out];simp [aO,hi,HL.out,hw0],hB2⟩
       |true =>
        have A:=W.out l.quota 1000000000 w2;rw [hw0] at A;replace A:=Aa A;go_wp2_with fail;refine (A.out).mono ?_;rintro e w9 ⟨rfl,hw9⟩;rw [hw9];clear hw9 w9;clear A;cases hw1:CH.within l.uses 1000 with
        |false =>have A:=W.out l.uses 1000 w2;rw [hw1] at A;replace A:=Aa A;clear W;go_wp2_with fail;refine (A.out).mono ?_;rintro e w9 ⟨rfl,hw9⟩;rw [hw9];clear hw9 w9;clear A;go_wp2;go_ret;exact⟨by rw [<- hr.out];simp [aO,hi,HL.out,hw0,hw1],hB2⟩
        |true =>
         have A:=W.out l.uses 1000 w2;rw [hw1] at A;replace A:=Aa A;go_wp2_with fail;refine (A.out).mono ?_;rintro e w9 ⟨rfl,hw9⟩;rw [hw9];clear hw9 w9;clear A;cases hw2:CH.within l.start 144001439 with
         |false =>have A:=W.out l.start 144001439 w2;rw [hw2] at A;replace A:=Aa A;clear W;go_wp2_with fail;refine (A.out).mono ?_;rintro e w9 ⟨rfl,hw9⟩;rw [hw9];clear hw9 w9;clear A;go_wp2;go_ret;exact⟨by rw [<- hr.out];simp [aO,hi,HL.out,hw0,hw1,hw2],hB2⟩
         |true =>
          have A:=W.out l.start 144001439 w2;rw [hw2] at A;replace A:=Aa A;go_wp2_with fail;refine (A.out).mono ?_;rintro e w9 ⟨rfl,hw9⟩;rw [hw9];clear hw9 w9;clear A;cases hw3:CH.within l.aF 144001439 with
          |false =>have A:=W.out l.aF 144001439 w2;rw [hw3] at A;replace A:=Aa A;clear W;go_wp2_with fail;refine (A.out).mono ?_;rintro e w9 ⟨rfl,hw9⟩;rw [hw9];clear hw9 w9;clear A;go_wp2;go_ret;exact⟨by rw [<- hr.out];simp [aO,hi,HL.out,hw0,hw1,hw2,hw3],hB2⟩
          |true =>have A:=W.out l.aF 144001439 w2;rw [hw3] at A;replace A:=Aa A;go_wp2_with fail;refine (A.out).mono ?_;rintro e w9 ⟨rfl,hw9⟩;rw [hw9];clear hw9 w9;clear A;go_wp2;go_ret;refine⟨?_,hB2⟩;rw [<- hr.out];simp [aO,hi,HL.out,hw0,hw1,hw2,hw3]
     ·have d5:ZH ((np:Int)<=(60:Int))=false:=by simp;omega
      have HL:Hid ((aN l.measures&&aN l.aG&&(ZH (0<l.measures.length)&&ZH (l.measures.length<=12)&&ZH (l.aG.length<=60)))=false):=Aa (by rw [h1,h2,hnp,Aq h5];simp);exact FD12
    ·have d4:ZH ((nm:Int)<=(12:Int))=false:=by simp;omega
     have HL:Hid ((aN l.measures&&aN l.aG&&(ZH (0<l.measures.length)&&ZH (l.measures.length<=12)&&ZH (l.aG.length<=60)))=false):=Aa (by rw [h1,h2,hnm,Aq h4];simp);exact FD12
   ·have d3:ZH ((0:Int)<(nm:Int))=false:=by simp;omega
    have HL:Hid ((aN l.measures&&aN l.aG&&(ZH (0<l.measures.length)&&ZH (l.measures.length<=12)&&ZH (l.aG.length<=60)))=false):=Aa (by rw [h1,h2,hnm,Aq h3];simp);exact FD12
end
end Go.Proofs.YtpkjhpenpfcpfaaGreatDoor
