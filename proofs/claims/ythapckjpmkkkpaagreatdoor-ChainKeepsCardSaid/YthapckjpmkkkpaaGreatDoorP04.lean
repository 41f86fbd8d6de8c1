/-
  ChainKeeps: the proof, part 5 of 25.
-/
import Derived.Test.YthapckjpmkkkpaaGreatDoorP03
import Derived.RangeFuncRecord
set_option linter.unusedSimpArgs false
set_option linter.unusedVariables false
set_option maxHeartbeats 40000000
set_option maxRecDepth 100000
open Go renaming undef -> ZA, World -> ZB, Value -> ZC, Calls -> ZE, TypeId -> ZJ
open Go.RowKit renaming intOf -> ZG
open Decidable renaming decide -> ZH
namespace Go.Proofs.YthapckjpmkkkpaaGreatDoor
section
open Go.Lib Go.Proofs.Tryz Go.RowKit Go.Shelf Go.Sort CH
set_option maxRecDepth 1000000 in
theorem Vk (r:Int) (w:ZB) (h0:128<=r) (h1:r<=1114111) : ZE prog 279 #[.string ⟨#[34,10]⟩,.int .i32 r] w (Ret w (.int .i64 (-1))):=by
 by_cases he:r=65533
 ·subst he;go_enter func279,ntmps279;go_wp2_with fail;go_loopg [5,6] 2 (fun g _ _ wx=>∃ i:Nat,i+g=2/\wx=w.iter ⟨#[34,10]⟩ i);case atStart=>exact⟨0,rfl,rfl⟩
  case round =>
   obtain⟨i,hig,rfl⟩:=hrel;rcases gk with _|_|_|g;·obtain rfl:i=2:=oM;have hnx:=fun ty=>run_next_end (P:=prog) w ⟨#[34,10]⟩ 2 ty dC;go_wp2;go_ret;exact⟨rfl,(Ac _ _).alloc nR _⟩
   ·obtain rfl:i=1:=oM;have hnx:=fun ty=>run_next_ascii (P:=prog) w ⟨#[34,10]⟩ 1 ty dC dC;go_wp2;go_roundg 0;case measure=>omega
    case rel=>exact⟨2,oM,rfl⟩
   ·obtain rfl:i=0:=oM;have hnx:=fun ty=>run_next_ascii (P:=prog) w ⟨#[34,10]⟩ 0 ty dC dC;go_wp2;go_roundg 1;case measure=>omega
    case rel=>exact⟨1,oM,rfl⟩
   ·omega
 ·have V:=Tryz.utf8_ValidRune r w;obtain⟨v,hv⟩:∃ v,Lib.validRune r=v:=⟨_,rfl⟩
  rw [hv] at V;have hb1:(r==65533)=false:=by simpa using he
  have hb2:ZH (r<128)=false:=by simp;omega
  cases v with
  |false =>clear hv;go_enter func279,ntmps279;go_wp2_with fail;refine V.mono ?_;rintro e w' ⟨rfl,hw⟩;rw [hw];clear V hw;go_wp2;go_ret;exact⟨rfl,Ac _ _⟩
  |true =>
   clear hv;go_enter func279,ntmps279;go_wp2_with fail;refine V.mono ?_;rintro e w' ⟨rfl,hw⟩;rw [hw];clear V hw;by_cases hlt:r<2048
   ·have hen:Utf8.encode r=⟨#[UInt8.ofNat (192+r.toNat / 64),UInt8.ofNat (128+r.toNat % 64)]⟩:=by
     have hval:Utf8.valid r=true:=by simp [Utf8.valid];omega
     unfold Utf8.encode;simp only [hval,Ns];rw [Ak oM,Aw oM]
    generalize UInt8.ofNat (192+r.toNat / 64)=b1 at hen;obtain⟨b2,hb2'⟩:∃ b2,UInt8.ofNat (128+r.toNat % 64)=b2:=⟨_,rfl⟩
    have hb3:128<=b2.toNat:=by rw [<- hb2'];simp [UInt8.toNat_ofNat'];omega
    rw [hb2'] at hen;clear hb2';have hne:((10:Int) != (b2.toNat:Int))=true:=by simp;omega
    go_wp2_with fail;go_step3;go_wp2_with fail;go_loopg [9] 0 (fun g v wx=>wx=w/\v=.int .i64 1);case atStart=>exact⟨rfl,rfl⟩
    case round =>
     obtain⟨rfl,rfl⟩:=hrel;go_wp2_with fail;go_step3;go_wp2_with fail;have hx1:∀ h,(⟨#[34,10]⟩:ByteArray)[1]'h=10:=fun _=>rfl;have hx2:∀ h,(⟨#[b1,b2]⟩:ByteArray)[1]'h=b2:=fun _=>rfl;refine Bd kR kR ?_;repeat (quiet_step (fail))
     refine C9 ?_;intro wq hbq;replace hbq:=At hbq;go_wp2_with fail;have hw2:IntKind.i64.wrap 2=2:=dC;have zT:=hbq;clear hbq;generalize wq=wq1 at *;have IB:∀ (W:ZB),ZE prog 145 #[.string ⟨#[]⟩,.int .u8 (b2.toNat:Int)] W (fun e w'=>e=.returned (.int .i64 (-1))/\Below W W w'):=fun W=>(Tryz.strings_IndexByte ⟨#[]⟩ (b2.toNat:Int) W).mono fun e w' ⟨h1,h2⟩=>⟨h1,h2 ▸ Ac _ _⟩
     refine Bd kR kR ?_;repeat (quiet_step (exact Bj (IB _)))
     refine C9 ?_;intro wq hbq;replace hbq:=At hbq;go_wp2_with fail;rw [Exit.noGoto_ret];go_wp2_with fail;rw [Exit.noGoto_ret];go_ret;exact⟨rfl,zT.trans (hbq.mono zT.size)⟩
   ·obtain⟨E,hE⟩:∃ E,Utf8.encode r=E:=⟨_,rfl⟩
    have hE3:3<=E.size/\E.size<=4:=by
     rw [<- hE];unfold Utf8.encode;cases hv:Utf8.valid r;·exact (dC:3<=(Utf8.encode (-1)).size/\(Utf8.encode (-1)).size<=4)
     ·simp only [Ns];rw [Ak oM,Ak oM];split;·exact⟨Bv 3,show 3<=4 by omega⟩
      ·exact⟨show 3<=4 by omega,Bv 4⟩
    have hE':=Aa hE;go_wp2_with fail;go_step3;go_wp2_with fail;go_loopg [9] 0 (fun g v wx=>wx=w/\v=.int .i64 ((E.size:Int) - 1));case atStart=>exact⟨rfl,rfl⟩
    case round =>obtain⟨rfl,rfl⟩:=hrel;go_wp2_with fail;rw [Exit.noGoto_ret];go_ret;exact⟨rfl,Ac _ _⟩
theorem Hdx (s:ByteArray) (k:Nat) (h:k<s.size):s.get! k=s[k]'h:=by simp [ByteArray.get!,getElem!_pos,h];rfl
theorem Ctx (s:ByteArray) (i:Nat) (h:i<s.size) (h128:128<=(s[i]'h).toNat) : 128<=(Utf8.decode s i).1/\(Utf8.decode s i).1<=1114111/\1<=(Utf8.decode s i).2/\i+(Utf8.decode s i).2<=s.size/\∀ j,i<=j->j<i+(Utf8.decode s i).2->128<=(s.get! j).toNat:=by
 have g0:128<=(s.get! i).toNat:=by rw [Hdx s i h];exact h128
 have one:∀ (r:Nat),128<=r->r<=1114111->128<=(r,1).1/\(r,1).1<=1114111/\1<=(r,1).2/\i+(r,1).2<=s.size/\∀ j,i<=j->j<i+(r,1).2->128<=(s.get! j).toNat:=fun r h1 h2 =>⟨h1,h2,Bv _,h,fun j hj1 hj2=>by have e:j=i:=(by dsimp only at hj2;omega);subst e;exact g0⟩
 have b0:=(s.get! i).toNat_lt;unfold Utf8.decode;simp only [Hl,Utf8.runeError];rw [Ak oM];split
 ·rename_i hc;simp only [Am,Bq,Dl] at hc;obtain⟨hb,hl1,hc1⟩:=hc;split
  ·refine⟨oM,oM,oM,oM,fun j hj1 hj2=>?_⟩;rcases (oM:j=i\/j=i+1) with rfl|rfl;·exact g0
   ·omega
  ·exact one _ dC dC
 ·split
  ·rename_i hc;simp only [Am,Bq,Dl] at hc;obtain⟨⟨hb,hl1,hc1⟩,hl2,hc2⟩:=hc;split
   ·refine⟨by simp_all;omega,oM,oM,oM,fun j hj1 hj2=>?_⟩;rcases (oM:j=i\/j=i+1\/j=i+2) with rfl|rfl|rfl;·exact g0
    ·omega
    ·omega
   ·exact one _ dC dC
  ·split
   ·rename_i hc;simp only [Am,Bq,Dl] at hc;obtain⟨⟨⟨hb,hl1,hc1⟩,hl2,hc2⟩,hl3,hc3⟩:=hc;split
    ·rename_i hv;simp only [Am,Bq,Utf8.valid,Dw] at hv;refine⟨oM,oM,oM,oM,fun j hj1 hj2=>?_⟩;rcases (oM:j=i\/j=i+1\/j=i+2\/j=i+3) with rfl|rfl|rfl|rfl;·exact g0
     ·omega
     ·omega
     ·omega
    ·exact one _ dC dC
   ·exact one _ dC dC
theorem run_next_at {P:Program} {w:ZB} {B:Nat} {s:ByteArray} {pos:Nat} (hB:w.heap[B]?=some (.stringIter s pos)) (ty:ZJ) (h:pos<s.size) : (Instr.next (.pointer (some ⟨B,0,none⟩)) true ty).run P w = .ok (.tuple #[.bool true,↑pos,.int .i32 (Utf8.decode s pos).1]) (w.putObj B (.stringIter s (pos+(Utf8.decode s pos).2))):=by simp [Instr.next,getObj,setObj,Sem.run,hB,Result.andThen,h,goInt,World.putObj]
theorem Sv {P:Program} {w:ZB} {B:Nat} {s:ByteArray} {pos:Nat} (hB:w.heap[B]?=some (.stringIter s pos)) (ty:ZJ) (h:¬ pos<s.size) : (Instr.next (.pointer (some ⟨B,0,none⟩)) true ty).run P w=.ok (.tuple #[.bool false]) w:=by simp [Instr.next,getObj,Sem.run,hB,h]
theorem Xj {w w1:ZB} {B r:Nat} (h:Below B w w1) (hr:B<=r) (o:Obj):Below B w (w1.putObj r o) := ⟨h.os,h.tape,h.output,by simp [World.putObj];exact h.size,fun k hk=>by rw [World.putObj_heap_other oM];exact h.block k hk⟩
def Low (s:ByteArray) (w:ZB) (g:Nat) (wx:ZB):Prop := ∃ i:Nat,s.size<=i+g/\i<=s.size/\Below w w wx/\wx.heap[w.heap.size]?=some (.stringIter s i)/\Lib.NoAny s.data.toList [34,10] i
set_option maxRecDepth 1000000 in
theorem Vm (s:ByteArray) (w:ZB) (h8:s.size<=8) : ZE prog 239 #[.string s,.string ⟨#[34,10]⟩] w (Ret w (.int .i64 (Lib.indexAny s.data.toList [34,10]))):=by
 have h8z:ZH ((8:Int)<(s.size:Int))=false:=Aq oM;have SA:=fun (n:Int) (W:ZB)=>Any.strings_shouldUseASCIISet (P:=prog) (ρ:=Tryz.lays153_ren) { lays153 with } n W;have HI:=fun (r:Int) (W:ZB)=>Vk r W;have HI:=Aa HI;have HA:=Aa fun (r:Int) (W:ZB)=>Tryz.strings_IndexRune_ascii ⟨#[34,10]⟩ r W;have SA:=Aa SA;obtain⟨R,hR⟩:∃ R,Hid (Lib.indexAny s.data.toList [34,10]=R):=⟨_,Aa rfl⟩
 rw [hR.out];go_enter func239,ntmps239;go_wp2_with fail;refine (SA.out _ _).mono ?_;rintro e w' ⟨rfl,hw⟩;rw [hw,h8z];clear hw SA;go_wp2_with fail;go_loopg [9,10] s.size (fun g _ _ wx=>Low s w g wx);case atStart=>exact⟨0,oM,oM,(Ac _ _).alloc nR _,World.iter_heap w s 0,Lib.NoAny.zero _ _⟩
 case round =>
  obtain⟨i,hig,hile,hb,hit,hno⟩:=hrel;have HN:=Aa hno;have Hit:=Aa hit;have hsz:w.heap.size<wr.heap.size:=(aZ hit)
  clear hno;by_cases hi:i<s.size
  ·cases gk with
   |zero=>omega
   |succ g =>
    have hnx:=fun ty=>run_next_at (P:=prog) hit ty hi;have hbp:=fun o=>Xj hb (Bv w) o;have hip:=fun o=>World.putObj_heap_same (w:=wr) (o:=o) hsz;obtain⟨x,hx⟩:∃ x:UInt8,s[i]'hi=x:=⟨_,rfl⟩
    have Hx:Hid (s.data.toList[i]?=some x):=Aa (by rw [<- hx];exact Lib.data_getElem? s i hi);by_cases hx1:x.toNat<128
    ·have hd:=decode_ascii s i hi (by rw [hx];exact hx1);rw [hd,hx] at hnx;dsimp only at hnx;have hcon:=Lib.contains_iff_indexByte [34,10] x;have hback:((x.toNat:Int)).toNat.toUInt8=x:=sM;clear hit hd hx;cases hin:List.contains [34,10] x with
     |false =>
      rw [hin] at hcon;have hlt:ZH ((0:Int)<=Lib.indexByte [34,10] x)=false:=hcon.symm;clear hcon;go_wp2_with fail;refine (HA.out _ _ oM oM).mono ?_;rintro e w' ⟨rfl,hw⟩;rw [hw,hback];clear hw;go_wp2;go_roundg g;case measure=>omega
      case rel=>exact⟨i+1,oM,oM,hbp _,hip _,HN.out.succ Hx.out hin⟩
     |true =>rw [hin] at hcon;have hlt:ZH ((0:Int)<=Lib.indexByte [34,10] x)=true:=hcon.symm;clear hcon;go_wp2_with fail;refine (HA.out _ _ oM oM).mono ?_;rintro e w' ⟨rfl,hw⟩;rw [hw,hback];clear hw;go_wp2;go_ret;exact⟨Tv (by rw [<- hR.out,Lib.indexAny_hit HN.out Hx.out hin]),hbp _⟩
    ·have hd:=Ctx s i hi (by rw [hx];omega);obtain⟨d1,hd1⟩:∃ d,(Utf8.decode s i).1=d:=⟨_,rfl⟩
     obtain⟨d2,hd2⟩:∃ d,(Utf8.decode s i).2=d:=⟨_,rfl⟩
     rw [hd1,hd2] at hnx;rw [hd1,hd2] at hd;obtain⟨e1,e2,e3,e4,e5⟩:=hd;have HN2:Hid (Lib.NoAny s.data.toList [34,10] (i+d2)):=Aa fun j b hj hb'=>by
      by_cases hji:j<i;·exact HN.out j b hji hb'
      ·have h1:=e5 j oM hj;have h2:j<s.size:=oM;rw [Hdx s j h2] at h1;rw [Lib.data_getElem? s j h2] at hb';cases hb';generalize s[j]=c at h1;simp only [Lj,A8,Ba,Dh,Es];rintro (rfl|rfl) <;> exact absurd h1 dC
     clear hit hx hd1 hd2 e5 Hx;go_wp2_with fail;refine (HI.out _ _ oM oM).mono ?_;rintro e w1 ⟨rfl,hb1⟩;have hB2:Below w w w1:=(hbp _).trans (hb1.mono (hbp _).size);have hI2:=(hb1.block w (by simp [World.putObj];exact hsz)).trans (hip _);clear hnx hbp hip;go_wp2;go_roundg g;case measure=>omega
     case rel=>exact⟨i+d2,oM,oM,hB2,hI2,HN2.out⟩
  ·obtain rfl:i=s.size:=oM;have hnx:=fun ty=>Sv (P:=prog) hit ty hi;clear hit;go_wp2;go_ret;exact⟨Tv (by rw [<- hR.out,Lib.indexAny_none (by rw [<- Lib.size_eq];exact HN.out)]),hb⟩
theorem Alx (s:List UInt8) (w:ZB) (hs:s.length<=1000000) : ZE prog 239 #[↑s,.string ⟨#[34,10]⟩] w (Ret w (.int .i64 (Lib.indexAny s [34,10]))):=by
 have hz:(⟨s.toArray⟩:ByteArray).size=s.length:=by simp [ByteArray.size]
 by_cases h8:s.length<=8;·have:=Vm ⟨s.toArray⟩ w oM;simpa using this
 ·have:=Tryz.strings_IndexAny_long (fun w=>by kernel_rfl) ⟨s.toArray⟩ ⟨#[34,10]⟩ w dC oM oM dC (fun j b hj=>by
   rcases j with _|_|j;·cases hj;decide
   ·cases hj;decide
   ·simp at hj)
  refine this.mono fun e w' ⟨h1,h2⟩=>⟨by simpa using h1,?_⟩
  rw [h2];exact ((Ac _ _).alloc nR _).alloc sM _
def yU (t:CH.Tok):ZC:=.agg #[↑t.kind,↑t.pos,↑t.n,↑t.text]
def rW:Except Nat (CH.Tok × Nat)->ZC
 |.error e=>.tuple #[.agg #[.int .i64 0,.int .i64 0,.int .i64 0,.string ⟨#[]⟩],.int .i64 0,↑e]
 |.ok (t,j)=>.tuple #[yU t,↑j,.int .i64 0]
theorem Cnt:∀ l:List UInt8,Lib.indexAny l [34,10]=match l.findIdx? (fun c=>c==34||c==10) with|none=>-1|some n=>(n:Int):=by
 intro l;induction l with
 |nil=>rfl
 |cons b l ih =>
  rw [Lib.indexAny,List.findIdx?_cons,ih];have e:[34,10].contains b=(b==34||b==10):=by rw [F8];simp
  rw [e];by_cases h:(b==34||b==10)=true;·simp [h]
  ·cases hf:l.findIdx? (fun c=>c==34||c==10) with
   |none=>simp [h]
   |some n =>have:¬ ((n:Int) = -1):=oM;simp [h,this]
theorem Ggv:∀ (l:List UInt8) (acc:Nat),(∀ c∈l,CH.cls c=4)->Lib.decFrom acc l=some (l.foldl (fun n c=>n*10+(c.toNat - 48)) acc):=by
 intro l;induction l with
 |nil=>intro acc _;rfl
 |cons c l ih =>intro acc h;have hc:=qI c (h c sM);rw [Lib.decFrom,Lib.digitVal,Aw hc];exact ih _ fun x hx=>h x (by simp [hx])
theorem Dao (l:List UInt8) (h:∀ c∈l,CH.cls c=4) (hne:l≠[]):Lib.atoi l=some (CH.dec l:Int):=by
 cases l with
 |nil=>exact absurd rfl hne
 |cons b r =>
  have hb:=qI b (h b sM);have h1:(b==45)=false:=by rw [CH.beq_toNat];simp;omega
  have h2:(b==43)=false:=by rw [CH.beq_toNat];simp;omega
  rw [Lib.atoi,h1,h2];show (Lib.decNat (b::r)).map _=_;unfold Lib.decNat;rw [Ggv _ 0 h];rfl
theorem O1 {P:Program} {fn:Func} {p u v:Tmp} {ty:ZJ} (h:fn.results=#[.cell p ty,.tmp u,.tmp v]) (tmps:Array ZC) (w:ZB) (a:Addr) (x:ZC) (hp:tmps.getD p ZA=.pointer (some a)) (hl:(loadVar ty a).run P w=.ok x w):(results fn tmps).run P w=.ok (.tuple #[x,tmps.getD u ZA,tmps.getD v ZA]) w:=by
 simp only [results,h];have hp':tmps[p]?.getD ZA=.pointer (some a):=by simpa using hp
 simp [asAddr];rw [hp'];simp [Result.andThen,hl]
theorem M1 {w:ZB} {g:Nat} (h:w.heap[g]?=some (.cells #[.int .i64 0,.int .i64 0,.int .i64 0,.string ⟨#[]⟩] 178 (0,0))) : w.there g 0 4/\w.cell? ⟨g,0,none⟩=some (.int .i64 0)/\w.cell? ⟨g,1,none⟩=some (.int .i64 0)/\w.cell? ⟨g,2,none⟩=some (.int .i64 0)/\w.cell? ⟨g,3,none⟩=some (.string ⟨#[]⟩) /\ w.frozen? ⟨g,0,none⟩=false/\w.frozen? ⟨g,1,none⟩=false/\w.frozen? ⟨g,2,none⟩=false/\w.frozen? ⟨g,3,none⟩=false:=by
 refine⟨fun j hj=>?_,Ab h 0,Ab h 1,Ab h 2,Ab h 3,Be h 0,Be h 1,Be h 2,Be h 3⟩;rw [Bl,Ab h j,Be h j];rcases j with _|_|_|_|j;·simp
 ·simp
 ·simp
 ·simp
 ·omega
theorem Amp (s:List UInt8) (k:Nat):Lib.hasPrefix (s.drop k) [61]=ZH (s[k]?=some 61):=by
 unfold Lib.hasPrefix;by_cases hk:k<s.length
 ·rw [Gm hk,Ad hk];by_cases h:s[k]=61;·rw [h];simp
  ·simp [List.isPrefixOf,h];exact fun e=>h e.symm
 ·rw [Ja oM,Gj oM];simp
theorem Kn3:(prog.info? 178).map (·.size)=some 4:=kR
theorem Gb {r:ZC} {w w1:ZB} {b:Nat} {cells:List ZC} {tmps:Array ZC} (hlen:cells.length=4) (hth:w1.there b 0 4) (hp:tmps.getD 4 ZA=.pointer (some ⟨b,0,none⟩)) (hb:Below w w w1) (hbw:w.heap.size<=b) (hv:Hid (.tuple #[.agg cells.toArray,tmps.getD 5 ZA,tmps.getD 6 ZA]=r)) : bodyPost prog Tryz.f183 (Ret w r) .ret { tmps:=tmps,defers:=[] } (w1.setCells b 0 cells):=by refine Au (O1 (p:=4) (u:=5) (v:=6) (ty:=178) rfl _ _ ⟨b,0,none⟩ _ hp (Hf _ b 0 178 cells _ (Ed w1 _ 0 _ (by rw [hlen];exact hth)) underlying178 rfl (by rw [hlen];exact Kn3))) rfl ?_;exact⟨congrArg Ending.returned hv.out,L3 hbw _ _ _ hb⟩
theorem Cbv (b i:Nat) (s:List UInt8) (w:ZB) (hs:s.length<=1000000) (hi:i<s.length) (hS:Scan b s w) : ZE prog 183 #[.pointer (some ⟨b,0,none⟩),↑i] w (Ret w (rW (CH.next s i))):=by
 obtain⟨r,hr⟩:∃ r,Hid (rW (CH.next s i)=r):=⟨_,Aa rfl⟩
 rw [hr.out];have hBa:∀ o,Below w w (w.alloc o):=fun o=>(Ac _ w).alloc nR _;have A:=Aa fun o=>Ast b i s (w.alloc o) hs oM (hS.below (hBa o));go_enter func183,ntmps183;go_wp2_with fail;refine (A.out _).mono ?_;rintro e w1 ⟨rfl,hb1⟩;clear A;have hblk:=hb1.block w sM;rw [Ai] at hblk;have hb:Below w w w1:=(hBa _).trans (hb1.mono sM);clear hb1 hBa;have hS1:=hS.below hb;have ht:=hS1.text;have hblt:=hS1.lt;have hbz:w.heap.size<w1.heap.size:=(aZ hblk)
 have keep:∀ w2,Below w1 w1 w2->w2.heap[w.heap.size]?=some (.cells #[.int .i64 0,.int .i64 0,.int .i64 0,.string ⟨#[]⟩] 178 (0,0)):=fun w2 h2=>(h2.block _ hbz).trans hblk;obtain⟨c,hc⟩:∃ c,Hid (dG s i=c):=⟨_,Aa rfl⟩
 rw [hc.out];have hBa:∀ o,Below w1 w1 (w1.alloc o):=fun o=>(Ac _ w1).alloc nR _;by_cases c3:c=3
 ·subst c3;have A:=Aa fun t=>Te b i w1 3 s [3,4,5] (w1.alloc (.cells #[.int .i64 3,.int .i64 4,.int .i64 5] t)) hs oM dC (hS1.below (hBa _)) (Rb w1 [3,4,5] t);have g1:=iJ s [3,4,5] i;have g2:=jq s [3,4,5] i oM;have hn:CH.next s i=if bQ s [3,4,5] i - i > 24 then .error 2 else .ok (⟨1,i,0,(s.drop i).take (bQ s [3,4,5] i - i)⟩,bQ s [3,4,5] i):=by unfold CH.next;rw [if_pos hc.out]
  have Hn:=Aa hn;clear hn hS hS1;generalize bQ s [3,4,5] i=q at *;go_wp2_with fail;refine (A.out _).mono ?_;rintro e w2 ⟨rfl,hb2⟩;clear A;have hb2':Below w1 w1 w2:=(hBa _).trans (hb2.mono sM);clear hb2 hBa;have hbb:=hb.trans (hb2'.mono hb.size);obtain⟨hth,k0,k1,k2,k3,f0,f1,f2,f3⟩:=M1 (keep w2 hb2');have ht2:w2.cell? ⟨b,0,none⟩=some ↑s:=(hb2'.cell (p:=⟨b,0,none⟩) hblt).trans ht;clear keep;by_cases h24:q - i > 24
  ·have d:ZH ((24:Int)<(q:Int) - (i:Int))=true:=by simp;omega
   have hn:=Hn.out;rw [Aw h24] at hn;clear Hn;have Hn:=Aa hn;clear hn;go_wp2;refine Gb (r:=r) (cells:=[.int .i64 0,.int .i64 0,.int .i64 0,.string ⟨#[]⟩]) ?_ hth ?_ hbb nR (Aa ?_) <;> try rfl
   rw [<- hr.out,Hn.out];rfl
  ·have d:ZH ((24:Int)<(q:Int) - (i:Int))=false:=by simp;omega
   have hn:=Hn.out;rw [Ak h24] at hn;clear Hn;have Hn:=Aa hn;clear hn;go_wp2;refine Gb (r:=r) (cells:=[.int .i64 1,↑i,.int .i64 0,.string ((ByteArray.mk s.toArray).extract i q)]) ?_ hth ?_ hbb nR (Aa ?_) <;> try rfl
   rw [<- hr.out,Hn.out];simp only [Fy];rfl
 by_cases c4:c=4
 ·subst c4;have A:=Aa fun t=>Te b i w1 1 s [4] (w1.alloc (.cells #[.int .i64 4] t)) hs oM dC (hS1.below (hBa _)) (Rb w1 [4] t);have g1:=iJ s [4] i;have g2:=jq s [4] i oM;have hmem:=Aa (pV s [4] i);have g3:i<bQ s [4] i:=by rw [nG s _ i hi (by rw [hc.out];rfl)];exact iJ _ _ _
  have hn:CH.next s i=if bQ s [4] i - i > 13\/dG s (bQ s [4] i)=3\/dG s (bQ s [4] i)=5 then .error 4
    else .ok (⟨2,i,CH.dec ((s.drop i).take (bQ s [4] i - i)),(s.drop i).take (bQ s [4] i - i)⟩,bQ s [4] i):=by
   unfold CH.next;rw [if_neg (by rw [hc.out];decide),if_pos hc.out]
  have Hn:=Aa hn;clear hn;generalize bQ s [4] i=q at *;go_wp2_with fail;refine (A.out _).mono ?_;rintro e w2 ⟨rfl,hb2⟩;clear A;have hb2':Below w1 w1 w2:=(hBa _).trans (hb2.mono sM);clear hb2 hBa;have hS2:=hS1.below hb2';clear hS hS1;have A:=Aa (Ast b q s w2 hs oM hS2);go_wp2_with fail;refine A.out.mono ?_;rintro e w3 ⟨rfl,hb3⟩;clear A;have eP:Below w1 w1 w3:=hb2'.trans (hb3.mono hb2'.size);have ht3:=(hS2.below hb3).text;clear hb3 hb2' hS2;have hbb:=hb.trans (eP.mono hb.size);obtain⟨hth,k0,k1,k2,k3,f0,f1,f2,f3⟩:=M1 (keep w3 eP);obtain⟨x,hx⟩:∃ x,dG s q=x:=⟨_,rfl⟩
  rw [hx] at Hn ⊢;by_cases h13:q - i > 13
  ·have d:ZH ((13:Int)<(q:Int) - (i:Int))=true:=by simp;omega
   rw [Aw (.inl h13)] at Hn;clear keep hx hmem;go_wp2;refine Gb (r:=r) (cells:=[.int .i64 0,.int .i64 0,.int .i64 0,.string ⟨#[]⟩]) ?_ hth ?_ hbb nR (Aa ?_) <;> try rfl
   rw [<- hr.out,Hn.out];rfl
  have d:ZH ((13:Int)<(q:Int) - (i:Int))=false:=by simp;omega
  by_cases hx3:x=3
  ·have d3:((x:Int)==3)=true:=by simp;omega
   rw [Aw (.inr (.inl hx3))] at Hn;clear keep hx hmem;go_wp2;refine Gb (r:=r) (cells:=[.int .i64 0,.int .i64 0,.int .i64 0,.string ⟨#[]⟩]) ?_ hth ?_ hbb nR (Aa ?_) <;> try rfl
   rw [<- hr.out,Hn.out];rfl
  have d3:((x:Int)==3)=false:=by simp;omega
  by_cases hx5:x=5
  ·have d5:((x:Int)==5)=true:=by simp;omega
   rw [Aw (.inr (.inr hx5))] at Hn;clear keep hx hmem;go_wp2;refine Gb (r:=r) (cells:=[.int .i64 0,.int .i64 0,.int .i64 0,.string ⟨#[]⟩]) ?_ hth ?_ hbb nR (Aa ?_) <;> try rfl
   rw [<- hr.out,Hn.out];rfl
  have d5:((x:Int)==5)=false:=by simp;omega
  rw [Ak oM] at Hn;have hll:((s.drop i).take (q - i)).length=q - i:=by rw [Dy,Ei];omega
  have hne:(s.drop i).take (q - i)≠[]:=fun e=>by rw [e] at hll;simp at hll;omega
  have hdg:=Dao _ (fun c hc'=>by have:=hmem.out c hc';simpa using this) hne;have AT:=Aa (Tryz.strconv_Atoi ⟨((s.drop i).take (q - i)).toArray⟩ (CH.dec ((s.drop i).take (q - i))) (by show ((s.drop i).take (q - i)).toArray.size<=18;simp only [Hu,hll];omega) hdg w3);generalize hdd:CH.dec ((s.drop i).take (q - i))=dd at *;clear hmem hx hll hne hdg;go_wp2_with fail;simp only [Fy];refine AT.out.mono ?_;rintro e w4 ⟨rfl,t4,hw4⟩;clear AT;have hb4:Below w3 w3 w4:=by rw [hw4];exact Lib.bytesWorld_below _ _ _
  clear hw4;have vO:Below w1 w1 w4:=eP.trans (hb4.mono eP.size);have ht4:w4.cell? ⟨b,0,none⟩=some ↑s:=(hb4.cell (p:=⟨b,0,none⟩) (Ah hblt eP.size)).trans ht3;have FX:=hb.trans (vO.mono hb.size);clear hth k0 k1 k2 k3 f0 f1 f2 f3 hbb eP hb4 ht3;obtain⟨hth,k0,k1,k2,k3,f0,f1,f2,f3⟩:=M1 (keep w4 vO);clear keep;go_wp2;refine Gb (r:=r) (cells:=[.int .i64 2,↑i,↑dd,.string ((ByteArray.mk s.toArray).extract i q)]) ?_ hth ?_ FX nR (Aa ?_) <;> try rfl
  rw [<- hr.out,Hn.out];simp only [Fy];rfl
 by_cases c6:c=6
 ·subst c6;have hn:CH.next s i=match (s.drop (i+1)).findIdx? (fun c=>c==34||c==10) with
    |none=>.error 6
    |some n=>if (s.drop (i+1))[n]?=some 10 then .error 6 else if n > 400 then .error 2 else .ok (⟨3,i,0,(s.drop (i+1)).take n⟩,i+n+2):=by
   unfold CH.next;rw [if_neg (by rw [hc.out];decide),if_neg (by rw [hc.out];decide),if_pos hc.out]
   rfl
  have hrl:(s.drop (i+1)).length=s.length - (i+1):=Ei;have IA:=Aa (Alx (s.drop (i+1)) w1 oM);rw [Cnt] at IA;clear hS hS1 hBa;go_wp2_with fail;simp only [Fm];refine IA.out.mono ?_;rintro e w2 ⟨rfl,hb2⟩;clear IA;have hbb:=hb.trans (hb2.mono hb.size);obtain⟨hth,k0,k1,k2,k3,f0,f1,f2,f3⟩:=M1 (keep w2 hb2);clear keep;cases hf:(s.drop (i+1)).findIdx? (fun c=>c==34||c==10) with
  |none =>
   rw [hf] at hn;have Hn:=Aa hn;clear hn hf;go_wp2;refine Gb (r:=r) (cells:=[.int .i64 0,.int .i64 0,.int .i64 0,.string ⟨#[]⟩]) ?_ hth ?_ hbb nR (Aa ?_) <;> try rfl
   rw [<- hr.out,Hn.out];rfl
  |some n =>
   obtain⟨hnl,_,_⟩:=Gf.1 hf;replace hn:CH.next s i=if (s.drop (i+1))[n]?=some 10 then .error 6 else if n > 400 then .error 2 else .ok (⟨3,i,0,(s.drop (i+1)).take n⟩,i+n+2):=by rw [hn,hf]
   obtain⟨ch,hch⟩:∃ ch,(s.drop (i+1))[n]?=some ch:=⟨_,Ad hnl⟩
   rw [hch] at hn;have hgk:=K8 _ n hnl ch hch;generalize hR:s.drop (i+1)=R at *;dsimp only;have d0:ZH ((n:Int)<0)=false:=sM;by_cases h10:ch=10
   ·subst h10;have Hn:=Aa hn;rw [Aw rfl] at Hn;clear hn hf hch hR;go_wp2;refine Gb (r:=r) (cells:=[.int .i64 0,.int .i64 0,.int .i64 0,.string ⟨#[]⟩]) ?_ hth ?_ hbb nR (Aa ?_) <;> try rfl
    rw [<- hr.out,Hn.out];rfl
   ·have d1:((ch.toNat:Int)==10)=false:=by have:=CH.beq_toNat ch 10;rw [Gx.2 h10] at this;simp at this ⊢;omega
    have Hn:=Aa hn;rw [Ak (fun e=>h10 (Hw e))] at Hn;clear hn hf hch hR;by_cases BF:n > 400
    ·have d4:ZH ((400:Int)<(n:Int))=true:=by simp;omega
     rw [Aw BF] at Hn;go_wp2;refine Gb (r:=r) (cells:=[.int .i64 0,.int .i64 0,.int .i64 0,.string ⟨#[]⟩]) ?_ hth ?_ hbb nR (Aa ?_) <;> try rfl
     rw [<- hr.out,Hn.out];rfl
    ·have d4:ZH ((400:Int)<(n:Int))=false:=by simp;omega
     rw [Ak BF] at Hn;go_wp2;refine Gb (r:=r) (cells:=[.int .i64 3,↑i,.int .i64 0,.string ((ByteArray.mk R.toArray).extract 0 n)]) ?_ hth ?_ hbb nR (Aa ?_) <;> try rfl
     rw [<- hr.out,Hn.out];simp only [Fy,I7,Nat.sub_zero];rfl
 have hpre:Lib.hasPrefix (s.drop (i+1)) [61]=ZH (s[i+1]?=some 61):=Amp s (i+1);by_cases c78:c=7\/c=8
 ·have hn:CH.next s i=if s[i+1]?=some 61 then .ok (⟨4,i,0,(s.drop i).take 2⟩,i+2) else if c=7 then .error 3 else .ok (⟨4,i,0,(s.drop i).take 1⟩,i+1):=by unfold CH.next;rw [hc.out,if_neg c3,if_neg c4,if_neg c6,if_pos c78]
  have HP:=Aa (Tryz.strings_HasPrefix ⟨(s.drop (i+1)).toArray⟩ ⟨#[61]⟩ w1);have hpre':Lib.hasPrefix (ByteArray.mk (s.drop (i+1)).toArray).data.toList (ByteArray.mk #[61]).data.toList=ZH (s[i+1]?=some 61):=hpre;rw [hpre'] at HP;obtain⟨hth,k0,k1,k2,k3,f0,f1,f2,f3⟩:=M1 (keep w1 (Ac _ _));clear hS hS1 hBa keep hpre hpre';by_cases h61:s[i+1]?=some 61
  ·have hl2:i+1<s.length:=(lS h61)
   rw [Aw h61] at hn;rw [Az h61] at HP;have Hn:=Aa hn;clear hn h61;rcases c78 with rfl|rfl;all_goals
    go_wp2_with fail;simp only [Fm];refine HP.out.mono ?_;rintro e w2 ⟨rfl,hw2⟩;subst hw2;clear HP;go_wp2;refine Gb (r:=r) (cells:=[.int .i64 4,↑i,.int .i64 0,.string ((ByteArray.mk s.toArray).extract i (i+2))]) ?_ hth ?_ hb nR (Aa ?_) <;> try rfl
    rw [<- hr.out,Hn.out];simp only [Fy,He];rfl
  ·rw [Ak h61] at hn;rw [Aq h61] at HP;have Hn:=Aa hn;clear hn h61;rcases c78 with rfl|rfl
   ·rw [Aw rfl] at Hn;go_wp2_with fail;simp only [Fm];refine HP.out.mono ?_;rintro e w2 ⟨rfl,hw2⟩;subst hw2;clear HP;go_wp2;refine Gb (r:=r) (cells:=[.int .i64 0,.int .i64 0,.int .i64 0,.string ⟨#[]⟩]) ?_ hth ?_ hb nR (Aa ?_) <;> try rfl
    rw [<- hr.out,Hn.out];rfl
   ·rw [Ak dC] at Hn;go_wp2_with fail;simp only [Fm];refine HP.out.mono ?_;rintro e w2 ⟨rfl,hw2⟩;subst hw2;clear HP;go_wp2;refine Gb (r:=r) (cells:=[.int .i64 4,↑i,.int .i64 0,.string ((ByteArray.mk s.toArray).extract i (i+1))]) ?_ hth ?_ hb nR (Aa ?_) <;> try rfl
    rw [<- hr.out,Hn.out];simp only [Fy,He];rfl
 obtain⟨hth,k0,k1,k2,k3,f0,f1,f2,f3⟩:=M1 (keep w1 (Ac _ _));clear hS hS1 hBa keep hpre;by_cases c9:c=9
 ·subst c9;have hn:CH.next s i=.ok (⟨4,i,0,(s.drop i).take 1⟩,i+1):=by unfold CH.next;rw [hc.out,if_neg c3,if_neg c4,if_neg c6,if_neg c78,if_pos rfl]
  have Hn:=Aa hn;clear hn;go_wp2;refine Gb (r:=r) (cells:=[.int .i64 4,↑i,.int .i64 0,.string ((ByteArray.mk s.toArray).extract i (i+1))]) ?_ hth ?_ hb nR (Aa ?_) <;> try rfl
  rw [<- hr.out,Hn.out];simp only [Fy,He];rfl
 have hn:CH.next s i=.error 3:=by unfold CH.next;rw [hc.out,if_neg c3,if_neg c4,if_neg c6,if_neg c78,if_neg c9]
 have Hn:=Aa hn;clear hn;have d3:((c:Int)==3)=false:=by simp;omega
 have d4:((c:Int)==4)=false:=by simp;omega
 have d6:((c:Int)==6)=false:=by simp;omega
 have d7:((c:Int)==7)=false:=by simp;omega
 have d8:((c:Int)==8)=false:=by simp;omega
 have d9:((c:Int)==9)=false:=by simp;omega
 go_wp2;refine Gb (r:=r) (cells:=[.int .i64 0,.int .i64 0,.int .i64 0,.string ⟨#[]⟩]) ?_ hth ?_ hb nR (Aa ?_) <;> try rfl
 rw [<- hr.out,Hn.out];rfl
end
section
open Go.Lib Go.Proofs.Tryz Go.RowKit Go.Shelf CH
theorem Eof (w:ZB) (o1 o2:Obj):((w.alloc o1).alloc o2).heap[w.heap.size]?=some o1/\((w.alloc o1).alloc o2).heap[w.heap.size+1]?=some o2:=by simp only [World.alloc,Dk,Eb];exact⟨by rw [Ak oM,Aw trivial],by rw [Aw trivial]⟩
theorem Km {P:Program} {fn:Func} {p:Tmp} {ty:ZJ} (h:fn.results=#[.cell p ty]) (tmps:Array ZC) (w:ZB) (a:Addr) (v:ZC) (hp:tmps.getD p ZA=.pointer (some a)) (hl:(loadVar ty a).run P w=.ok v w):(results fn tmps).run P w=.ok v w:=by
 simp only [results,h];have hp':tmps[p]?.getD ZA=.pointer (some a):=by simpa using hp
 simp [asAddr];rw [hp'];simpa [Result.andThen] using hl
def C8 (c:Nat) (s:List UInt8) (cs:Array ZC):Array ZC:=s.foldl (fun cs ch=>cs.setIfInBounds ch.toNat ↑c) cs
theorem Fx (c:Nat) (s:List UInt8):∀ cs:Array ZC,(C8 c s cs).size=cs.size:=by
 induction s with
 |nil=>intro cs;rfl
 |cons x r ih=>intro cs;unfold C8 at *;rw [List.foldl_cons,ih];simp
theorem Bln (c:Nat) (s:List UInt8) (x:UInt8) (cs:Array ZC):C8 c (s++[x]) cs=(C8 c s cs).setIfInBounds x.toNat ↑c:=by simp [C8]
theorem Hv (c:Nat) (s:List UInt8):∀ cs:Array ZC,(∀ v∈cs,v.oneCell'=true)->∀ v∈C8 c s cs,v.oneCell'=true:=by
 induction s with
 |nil=>intro cs h;exact h
 |cons x r ih =>
  intro cs h;unfold C8 at *;rw [N8];refine ih _ (fun v hv=>?_);rcases Array.mem_or_eq_of_mem_setIfInBounds hv with h1|h1;·exact h v h1
  ·rw [h1];rfl
theorem Mw (s:List UInt8) (c b:Nat) (cs:Array ZC) (w:ZB) (hlen:s.length<=1000000) (hb:w.heap[b]?=some (.cells cs 225 (0,0))) (hsz:cs.size=256) : ZE prog 235 #[↑s,↑c,.pointer (some ⟨b,0,none⟩)] w (fun e w'=>e=.returned (.tuple #[])/\w'.heap[b]?=some (.cells (C8 c s cs) 225 (0,0))/\aW (·=b) w w'):=by
 go_enter func235,ntmps235;go_wp2_with fail;go_loopw [5] (fun kv wr=>∃ k:Nat,k<=s.length/\kv=↑k/\wr.heap[b]?=some (.cells (C8 c (s.take k) cs) 225 (0,0))/\aW (·=b) w wr) (fun kv _=>s.length - (ZG kv).toNat);case atStart=>exact⟨0,Bg _,rfl,by simpa [C8] using hb,aW.refl _ _⟩
 case round =>
  obtain⟨k,hk,rfl,hbk,hkp⟩:=hrel;by_cases hlt:k<s.length
  ·have hcs:(C8 c (s.take k) cs).size=256:=by rw [Fx];exact hsz
   obtain⟨ch,hch⟩:∃ ch,s[k]?=some ch:=⟨_,Ad hlt⟩
   have FU:ch.toNat<256:=F9 ch;obtain⟨u,hu⟩:∃ u,(C8 c (s.take k) cs)[ch.toNat]?=some u:=⟨_,Fz (by rw [hcs];exact FU)⟩
   have hgk:(⟨s.toArray⟩:ByteArray)[k]'(by show k<s.toArray.size;simpa using hlt)=ch:=by rw [Ad hlt] at hch;show s.toArray[k]'(by simpa using hlt)=ch;simpa using hch
   have FQ:((ch.toNat:Nat):Int)<256:=oM;have hcell:wr.cell? ⟨b,ch.toNat,none⟩=some u:=by rw [Ab hbk];exact hu
   have hfro:wr.frozen? ⟨b,ch.toNat,none⟩=false:=Be hbk _;generalize hcs':C8 c (s.take k) cs=cs' at *;clear hb;go_wp2_with fail;refine⟨⟨k+1,oM,by go_num,?_,hkp.setCell rfl _⟩,by simp [ZG];omega⟩;have:=Bk wr b ch.toNat ↑c _ _ _ hbk;rw [this,Eo,hch,Gv,Bln,hcs']
  ·have e:k=s.length:=oM;subst e;rw [Dx] at hbk;go_wp2;go_end0;exact⟨rfl,hbk,hkp⟩
noncomputable def Ff:Array ZC:=(C8 9 [59,44,46,58,40,41,91,93,123,125,61,43,45] (C8 8 [60,62] (C8 7 [33] (C8 6 [34] (C8 2 [35] (C8 1 [32,9,10] (C8 5 [95] (C8 4 [48,49,50,51,52,53,54,55,56,57] (C8 3 [97,98,99,100,101,102,103,104,105,106,107,108,109,110,111,112,113,114,115,116,117,118,119,120,121,122,65,66,67,68,69,70,71,72,73,74,75,76,77,78,79,80,81,82,83,84,85,86,87,88,89,90] Tryz.zeroCells225)))))))))
theorem Cvh (w:ZB):ZE prog 181 #[] w (fun e w'=>e=.returned (.agg Ff)/\Below w w w'):=by
 obtain⟨cs0,E0⟩:∃ x,Hid (x=Tryz.zeroCells225):=⟨_,Aa rfl⟩
 have z0:cs0.size=256:=by rw [E0.out];kernel_rfl
 have z00:=z0;have o0:∀ v∈cs0,v.oneCell'=true:=by rw [E0.out];exact fun v hv=>Ko.1 (by kernel_rfl:Tryz.zeroCells225.all (·.oneCell')=true) v hv
 go_enter func181,ntmps181;go_wp2_with fail;rw [<- E0.out];have hB:=Eof w (.cells cs0 225) (.cells cs0 225);have b0:Below w w ((w.alloc (.cells cs0 225)).alloc (.cells cs0 225)):=((Ac _ w).alloc nR _).alloc sM _;have hs0:w.heap.size+1<((w.alloc (.cells cs0 225)).alloc (.cells cs0 225)).heap.size:=sM;generalize (w.alloc (.cells cs0 225)).alloc (.cells cs0 225)=w0 at *;obtain⟨r0,c0⟩:=hB;refine (Mw [97,98,99,100,101,102,103,104,105,106,107,108,109,110,111,112,113,114,115,116,117,118,119,120,121,122,65,66,67,68,69,70,71,72,73,74,75,76,77,78,79,80,81,82,83,84,85,86,87,88,89,90] 3 (w.heap.size+1) _ w0 dC c0 z0).mono ?_;rintro e w1 ⟨rfl,c1,k1⟩;have b1:=b0.trans (k1.below (B:=w.heap.size) (G6 (En hs0)) (fun k e=>by rw [e];exact G5 _));have hs1:w.heap.size+1<w1.heap.size:=Ah hs0 k1.size;have r1:=(k1.block w (En hs0) (Ip (Fe _))).trans r0;have z1:=(Fx 3 [97,98,99,100,101,102,103,104,105,106,107,108,109,110,111,112,113,114,115,116,117,118,119,120,121,122,65,66,67,68,69,70,71,72,73,74,75,76,77,78,79,80,81,82,83,84,85,86,87,88,89,90] cs0).trans z0;obtain⟨cs1,E1⟩:∃ x,Hid (x=C8 3 [97,98,99,100,101,102,103,104,105,106,107,108,109,110,111,112,113,114,115,116,117,118,119,120,121,122,65,66,67,68,69,70,71,72,73,74,75,76,77,78,79,80,81,82,83,84,85,86,87,88,89,90] cs0):=⟨_,Aa rfl⟩
 rw [<- E1.out] at c1 z1;have o1:∀ v∈cs1,v.oneCell'=true:=by rw [E1.out];exact Hv _ _ _ o0
 clear o0;clear k1 b0 c0 r0 z0 hs0;go_wp2_with fail;refine (Mw [48,49,50,51,52,53,54,55,56,57] 4 (w.heap.size+1) _ w1 dC c1 z1).mono ?_;rintro e w2 ⟨rfl,c2,k2⟩;have b2:=b1.trans (k2.below (B:=w.heap.size) (G6 (En hs1)) (fun k e=>by rw [e];exact G5 _));have hs2:w.heap.size+1<w2.heap.size:=Ah hs1 k2.size;have r2:=(k2.block w (En hs1) (Ip (Fe _))).trans r1;have z2:=(Fx 4 [48,49,50,51,52,53,54,55,56,57] cs1).trans z1;obtain⟨cs2,E2⟩:∃ x,Hid (x=C8 4 [48,49,50,51,52,53,54,55,56,57] cs1):=⟨_,Aa rfl⟩
 rw [<- E2.out] at c2 z2;have o2:∀ v∈cs2,v.oneCell'=true:=by rw [E2.out];exact Hv _ _ _ o1
 clear o1;clear k2 b1 c1 r1 z1 hs1;go_wp2_with fail;refine (Mw [95] 5 (w.heap.size+1) _ w2 dC c2 z2).mono ?_;rintro e w3 ⟨rfl,c3,k3⟩;have b3:=b2.trans (k3.below (B:=w.heap.size) (G6 (En hs2)) (fun k e=>by rw [e];exact G5 _));have hs3:w.heap.size+1<w3.heap.size:=Ah hs2 k3.size;have r3:=(k3.block w (En hs2) (Ip (Fe _))).trans r2;have z3:=(Fx 5 [95] cs2).trans z2;obtain⟨cs3,E3⟩:∃ x,Hid (x=C8 5 [95] cs2):=⟨_,Aa rfl⟩
 rw [<- E3.out] at c3 z3;have o3:∀ v∈cs3,v.oneCell'=true:=by rw [E3.out];exact Hv _ _ _ o2
 clear o2;clear k3 b2 c2 r2 z2 hs2;go_wp2_with fail;refine (Mw [32,9,10] 1 (w.heap.size+1) _ w3 dC c3 z3).mono ?_;rintro e w4 ⟨rfl,c4,k4⟩;have b4:=b3.trans (k4.below (B:=w.heap.size) (G6 (En hs3)) (fun k e=>by rw [e];exact G5 _));have hs4:w.heap.size+1<w4.heap.size:=Ah hs3 k4.size;have r4:=(k4.block w (En hs3) (Ip (Fe _))).trans r3;have z4:=(Fx 1 [32,9,10] cs3).trans z3;obtain⟨cs4,E4⟩:∃ x,Hid (x=C8 1 [32,9,10] cs3):=⟨_,Aa rfl⟩
 rw [<- E4.out] at c4 z4;have o4:∀ v∈cs4,v.oneCell'=true:=by rw [E4.out];exact Hv _ _ _ o3
 clear o3;clear k4 b3 c3 r3 z3 hs3;go_wp2_with fail;refine (Mw [35] 2 (w.heap.size+1) _ w4 dC c4 z4).mono ?_;rintro e w5 ⟨rfl,c5,k5⟩;have b5:=b4.trans (k5.below (B:=w.heap.size) (G6 (En hs4)) (fun k e=>by rw [e];exact G5 _));have hs5:w.heap.size+1<w5.heap.size:=Ah hs4 k5.size;have r5:=(k5.block w (En hs4) (Ip (Fe _))).trans r4;have z5:=(Fx 2 [35] cs4).trans z4;obtain⟨cs5,E5⟩:∃ x,Hid (x=C8 2 [35] cs4):=⟨_,Aa rfl⟩
 rw [<- E5.out] at c5 z5;have o5:∀ v∈cs5,v.oneCell'=true:=by rw [E5.out];exact Hv _ _ _ o4
 clear o4;clear k5 b4 c4 r4 z4 hs4;go_wp2_with fail;refine (Mw [34] 6 (w.heap.size+1) _ w5 dC c5 z5).mono ?_;rintro e w6 ⟨rfl,c6,k6⟩;have b6:=b5.trans (k6.below (B:=w.heap.size) (G6 (En hs5)) (fun k e=>by rw [e];exact G5 _));have hs6:w.heap.size+1<w6.heap.size:=Ah hs5 k6.size;have r6:=(k6.block w (En hs5) (Ip (Fe _))).trans r5;have z6:=(Fx 6 [34] cs5).trans z5;obtain⟨cs6,E6⟩:∃ x,Hid (x=C8 6 [34] cs5):=⟨_,Aa rfl⟩
 rw [<- E6.out] at c6 z6;have o6:∀ v∈cs6,v.oneCell'=true:=by rw [E6.out];exact Hv _ _ _ o5
 clear o5;clear k6 b5 c5 r5 z5 hs5;go_wp2_with fail;refine (Mw [33] 7 (w.heap.size+1) _ w6 dC c6 z6).mono ?_;rintro e w7 ⟨rfl,c7,k7⟩;have b7:=b6.trans (k7.below (B:=w.heap.size) (G6 (En hs6)) (fun k e=>by rw [e];exact G5 _));have hs7:w.heap.size+1<w7.heap.size:=Ah hs6 k7.size;have r7:=(k7.block w (En hs6) (Ip (Fe _))).trans r6;have z7:=(Fx 7 [33] cs6).trans z6;obtain⟨cs7,E7⟩:∃ x,Hid (x=C8 7 [33] cs6):=⟨_,Aa rfl⟩
 rw [<- E7.out] at c7 z7;have o7:∀ v∈cs7,v.oneCell'=true:=by rw [E7.out];exact Hv _ _ _ o6
 clear o6;clear k7 b6 c6 r6 z6 hs6;go_wp2_with fail;refine (Mw [60,62] 8 (w.heap.size+1) _ w7 dC c7 z7).mono ?_;rintro e w8 ⟨rfl,c8,k8⟩;have b8:=b7.trans (k8.below (B:=w.heap.size) (G6 (En hs7)) (fun k e=>by rw [e];exact G5 _));have hs8:w.heap.size+1<w8.heap.size:=Ah hs7 k8.size;have r8:=(k8.block w (En hs7) (Ip (Fe _))).trans r7;have z8:=(Fx 8 [60,62] cs7).trans z7;obtain⟨cs8,E8⟩:∃ x,Hid (x=C8 8 [60,62] cs7):=⟨_,Aa rfl⟩
 rw [<- E8.out] at c8 z8;have o8:∀ v∈cs8,v.oneCell'=true:=by rw [E8.out];exact Hv _ _ _ o7
 clear o7;clear k8 b7 c7 r7 z7 hs7;go_wp2_with fail;refine (Mw [59,44,46,58,40,41,91,93,123,125,61,43,45] 9 (w.heap.size+1) _ w8 dC c8 z8).mono ?_;rintro e w9 ⟨rfl,c9,k9⟩;have b9:=b8.trans (k9.below (B:=w.heap.size) (G6 (En hs8)) (fun k e=>by rw [e];exact G5 _));have hs9:w.heap.size+1<w9.heap.size:=Ah hs8 k9.size;have r9:=(k9.block w (En hs8) (Ip (Fe _))).trans r8;have z9:=(Fx 9 [59,44,46,58,40,41,91,93,123,125,61,43,45] cs8).trans z8;obtain⟨cs9,E9⟩:∃ x,Hid (x=C8 9 [59,44,46,58,40,41,91,93,123,125,61,43,45] cs8):=⟨_,Aa rfl⟩
 rw [<- E9.out] at c9 z9;have o9:∀ v∈cs9,v.oneCell'=true:=by rw [E9.out];exact Hv _ _ _ o8
 clear o8;clear k9 b8 c8 r8 z8 hs8;have hra:w9.rangeAt (w+1) 0 cs9.toList:=fun j v hj=>by rw [Bl,Ab c9 j];simpa using hj
 have hi9:(prog.info? 225).map (·.size)=some cs9.toList.length:=by rw [Il,z9];kernel_rfl
 have hi9':(prog.info? 225).map (·.size)=some cs9.size:=by rw [z9];kernel_rfl
 have ho9:cs9.all (·.oneCell')=true:=Ko.2 o9;have hth:w9.there w 0 cs9.size:=fun j hj=>by rw [Bl,Ab r9 j,Be r9 j];rw [z9] at hj;simp [Fz (show j<cs0.size by rw [z00];exact hj)]
 go_wp2_with (first|refine Bh rfl _ _ rfl (w+1) 0 rfl cs9.toList _ hra underlying225 rfl hi9 ?_|refine Gn rfl _ _ _ rfl w 0 cs9 rfl rfl hth hi9' ho9 ?_)
 refine Au (Km (p:=0) (ty:=225) rfl _ _ ⟨w,0,none⟩ _ rfl (Hf _ w 0 225 cs9.toList _ (Ed w9 _ 0 _ (by simpa using hth)) underlying225 rfl hi9)) rfl ?_;refine⟨?_,L3 nR _ _ _ b9⟩;rw [Array.toArray_toList,E9.out,E8.out,E7.out,E6.out,E5.out,E4.out,E3.out,E2.out,E1.out,E0.out];rfl
theorem Pi:Ff=((List.range 256).map fun n=>Value.int .i64 (CH.cls n.toUInt8:Nat)).toArray:=kR
theorem X9 (c:UInt8):Ff[c.toNat]?=some (.int .i64 (CH.cls c:Nat)):=by rw [Pi];simp [F9 c]
theorem Mu:Ff.size=256:=by rw [Pi];simp
theorem Wh:∀ v∈Ff,v.oneCell'=true:=by rw [Pi];intro v hv;simp at hv;obtain⟨n,_,rfl⟩:=hv;rfl
end
section
open Go.Lib Go.Proofs.Tryz Go.RowKit Go.Shelf Go.Sort CH
theorem I55 (l:List ZC):∀ (k0:Nat) (A:Array ZC) (j:Nat),((l.zipIdx k0).foldl (fun cs x=>cs.setIfInBounds (1+x.2) x.1) A)[j]?=if 1+k0<=j/\j<1+k0+l.length/\j<A.size then l[j - (1+k0)]? else A[j]?:=by
 induction l with
 |nil=>intro k0 A j;simp;omega
 |cons x l ih =>
  intro k0 A j;rw [List.zipIdx_cons,N8,ih];simp only [Array.size_setIfInBounds,Ar];by_cases h1:j=1+k0
  ·subst h1;rw [Ak oM];by_cases h2:1+k0<A.size;·rw [Aw oM];simp [h2]
   ·rw [Ak oM];simp [h2]
  ·rw [H6 (by simpa using fun e=>h1 e.symm)];by_cases h2:1+(k0+1)<=j/\j<1+(k0+1)+l.length/\j<A.size;·rw [Aw h2,Aw oM,show j - (1+k0)=(j - (1+(k0+1)))+1 from by omega,Fq]
   ·rw [Ak h2,Ak oM]
noncomputable def Lg (s:List UInt8):Array ZC:=Array.foldl (fun cs x=>cs.setIfInBounds (1+x.snd) x.fst) (Tryz.zeroCells228.setIfInBounds 0 (Value.string ⟨s.toArray⟩)) Ff.zipIdx 0 256
theorem W7:Tryz.zeroCells228.size=257:=kR
theorem Lo (s:List UInt8) (j:Nat):(Lg s)[j]?=if j=0 then some ↑s else if j<257 then Ff[j - 1]? else none:=by
 have hz:=Mu;have h0:=W7;unfold Lg;rw [show (256:Nat)=Ff.zipIdx.size from by simp [hz],<- Array.foldl_toList,Array.toList_zipIdx,I55];simp only [Array.size_setIfInBounds,h0,Il,hz,Hl,Jg];by_cases hj:j=0;·subst hj;rw [Ak oM,Aw rfl];simp [h0]
 ·by_cases h2:j<257;·rw [Aw oM,Ak hj,Aw h2]
  ·rw [Ak oM,Ak hj,Ak h2];exact H8 (by simp [h0];omega)
theorem Uo (s:List UInt8):(Lg s).size=257:=by
 have h1:=Lo s 256;have h2:=Lo s 257;have hx:Ff[255]?=some (Ff[255]'(by rw [Mu];decide)):=Fz _;rw [Ak dC,Aw dC,show 256 - 1=255 from rfl,hx] at h1;rw [Ak dC,Ak dC] at h2;have:=(aZ h1)
 have:=Array.getElem?_eq_none_iff.1 h2;omega
theorem Xa (s:List UInt8):∀ v∈Lg s,v.oneCell'=true:=by
 intro v hv;obtain⟨j,hj⟩:=Array.getElem?_of_mem hv;rw [Lo] at hj;split at hj;·cases hj;rfl
 split at hj;·exact Wh v (Kz hj)
 ·cases hj
theorem Ev0 (s:List UInt8) (w:ZB):Scan w s (w.alloc (.cells (Lg s) 228)):=by
 refine⟨sM,?_,fun c=>?_⟩;·rw [Cm,Lo,Aw rfl]
 ·rw [Cm,Lo,Ak oM,Aw (by have:=F9 c;omega),He,X9]
def Ga (t:CH.Tok):List ZC:=[↑t.kind,↑t.pos,↑t.n,↑t.text]
def H0 (base:Nat) (w:ZB) (v:ZC) (ts:List CH.Tok):Prop:=w.ownsRow base 178 4 v ts.length (ts.flatMap Ga)
theorem I25:(prog.info? 178).map (fun i=>(i.zero,i.size,i.bytes))=some (some (.agg #[.int .i64 0,.int .i64 0,.int .i64 0,.string ⟨#[]⟩]),4,40):=kR
theorem Ggy {w:ZB} {ops:Array Oper} {rest:List Oper} {o:Oper} {a:Act} {Q:Exit->Act->ZB->Prop} (hgd:o.guard=none) (s x:Operand) (ho:o.op=.call { callee:=.builtin .append,args:=#[s,x],argTypes:=#[174,174] }) (base:Nat) (v:ZC) (ts:List CH.Tok) (hs:a.eval s=v) (hown:H0 base w v ts) (g c:Nat) (t:CH.Tok) (hx:a.eval x=.slice (some ⟨g,0,none⟩) 1 c) (hcell:∀ j u,(Ga t)[j]?=some u->w.cell? ⟨g,j,none⟩=some u) (hlen:ts.length<=1099511627) (hbase:base<=w.heap.size) (h:∀ v' w',H0 base w' v' (ts++[t])->w.grownBy w' v.ownBlock->wpList prog ops Q rest (a.put o.dst v') w') : wpList prog ops Q (o::rest) a w:=by
 obtain⟨i,hi,hz0,hz1,hz2⟩:=Jp I25;refine wpList_append_own_at w hgd s x 174 ho base 178 i _ 4 40 underlying174 hi hz0 hz1 hz2 rfl dC v ts.length _ hs hown ⟨g,0,none⟩ 1 c (Ga t) hx rfl ?_ ?_ ?_ ?_ hbase ?_;·intro j u hj;rw [show (⟨g,0,none⟩:Addr).add j=⟨g,j,none⟩ from by simp [Addr.add];exact fun e=>e.symm];exact hcell j u hj
 ·intro u hu;simp [Ga] at hu;rcases hu with rfl|rfl|rfl|rfl <;> rfl
 ·unfold maxLen;omega
 ·omega
 ·intro v' w' h1 h2 _ h4;exact h v' w' (by unfold H0;simpa using h1) h2
theorem H0.form {base:Nat} {w:ZB} {v:ZC} {ts:List CH.Tok} (h:H0 base w v ts):∃ a cap,v=.slice a ts.length cap/\ts.length<=cap/\cap<=9223372036854775807:=by
 obtain⟨hlen,⟨rfl,h0⟩|⟨g,cap,cur,rfl,hb,hg,hn,hc,hsz,htk⟩⟩:=h;·exact⟨none,0,by rw [h0],oM,oM⟩
 ·exact⟨_,cap,rfl,hn,by unfold maxLen at hc;omega⟩
theorem H0.mono {base base':Nat} {w:ZB} {v:ZC} {ts:List CH.Tok} (h:H0 base w v ts) (hb:base'<=base):H0 base' w v ts:=by
 obtain⟨hlen,⟨h0,h1⟩|⟨g,cap,cur,h1,hb',h2⟩⟩:=h;·exact⟨hlen,.inl ⟨h0,h1⟩⟩
 ·exact⟨hlen,.inr ⟨g,cap,cur,h1,Ag hb hb',h2⟩⟩
theorem Rj (s:List UInt8) (i e:Nat) (h:CH.next s i=.error e):1<=e:=by
 unfold CH.next at h;split at h
 ·split at h;·cases h;decide
  ·cases h
 split at h
 ·split at h;·cases h;decide
  ·cases h
 split at h
 ·split at h;·cases h;decide
  ·split at h;·cases h;decide
   split at h;·cases h;decide
   ·cases h
 split at h
 ·split at h;·cases h
  ·split at h;·cases h;decide
   ·cases h
 split at h;·cases h
 ·cases h;decide
theorem O3 {base:Nat} {w:ZB} {e:ZJ} {size:Nat} {v:ZC} {n:Nat} {xs:List ZC} (h:w.ownsRow base e size v n xs):∀ j,v.ownBlock=some j->base<=j:=by
 intro j hj;obtain⟨hlen,⟨rfl,h0⟩|⟨g,cap,cur,rfl,hb,hg,rest⟩⟩:=h;·cases hj
 ·simp only [Value.ownBlock,Eu] at hj;subst hj;exact hb
theorem Scan.low {b B:Nat} {s:List UInt8} {w w':ZB} (h:Scan b s w) (hb:Below B w w') (hlt:b<B):Scan b s w' := ⟨Ah h.lt hb.size,(hb.cell (p:=⟨b,0,none⟩) hlt).trans h.text,fun c=>(hb.cell (p:=⟨b,1+c.toNat,none⟩) hlt).trans (h.cls c)⟩
def Mpd (w:ZB) (r:Except (Nat × Nat) (List CH.Tok)) (e:Ending) (w':ZB):Prop :=
 Below w w w'/\match r with
  |.error x=>e=.returned (.tuple #[.slice none 0 0,↑x.1,↑x.2])
  |.ok ts=>∃ v,e=.returned (.tuple #[v,.int .i64 0,.int .i64 0])/\H0 w w' v ts
theorem Ain (s:List UInt8) (w:ZB) (hs2:s.length<=20000) : ZE prog 114 #[↑s] w (Mpd w (CH.lex s)):=by
 obtain⟨r,hr⟩:∃ r,Hid (CH.lex s=r):=⟨_,Aa rfl⟩
 rw [hr.out];have d:ZH ((20000:Int)<(s.length:Int))=false:=by simp;omega
 have A:=Aa (Cvh w);have hz:=Uo s;have hFs:(Array.foldl (fun cs x=>cs.setIfInBounds (1+x.snd) x.fst) (Tryz.zeroCells228.setIfInBounds 0 (Value.string ⟨s.toArray⟩)) Ff.zipIdx 0 256).size=257:=hz;have hsc:∀ w1:ZB,(storeCells ⟨w1,0,none⟩ (Array.foldl (fun cs x=>cs.setIfInBounds (1+x.snd) x.fst) (Tryz.zeroCells228.setIfInBounds 0 (Value.string ⟨s.toArray⟩)) Ff.zipIdx 0 256).toList).run prog (w1.alloc (.cells Tryz.zeroCells228 228))=.ok () (w1.alloc (.cells (Lg s) 228)):=fun w1 =>run_storeCells_new w1 228 Tryz.zeroCells228 (Lg s) (by rw [hz];kernel_rfl) (by rw [hz,W7]) (Ko.2 (Xa s));have hscan:=fun w1=>Ev0 s w1;have z:=Mu;generalize hSC:Lg s=SC at *;generalize hCC:Ff=cc at *;clear hSC hCC;go_enter func114,ntmps114;go_wp2_with fail;refine A.out.mono ?_;clear A;rintro e w1 ⟨rfl,hb1⟩;go_wp2_with fail;generalize Array.foldl (fun cs x=>cs.setIfInBounds (1+x.snd) x.fst) (Tryz.zeroCells228.setIfInBounds 0 (Value.string ⟨s.toArray⟩)) cc.zipIdx 0 256=FF at *;have hS:=hscan w1;have hb2:=hb1.alloc hb1.size (.cells SC 228);have hsz:w1.heap.size<(w1.alloc (.cells SC 228)).heap.size:=sM;generalize w1.alloc (.cells SC 228)=W at *;clear hscan hsc hFs hz z;refine (Hdy w1 0 s W oM (Bg _) hS).mono ?_;rintro e w2 ⟨rfl,hb3⟩;have hB2:Below w w w2:=hb2.trans (hb3.mono hb2.size);have hS2:=hS.below hb3;have hwB:=hb1.size;have hg0:=uU s 0 (Bg _);obtain⟨k0,hk0⟩:∃ k,Hid (CH.gap s 0=k):=⟨_,Aa rfl⟩
 rw [hk0.out] at hg0 ⊢;have hl0:Hid (mJ s (s.length+1) k0 []=r):=Aa (by rw [<- hr.out,<- hk0.out];rfl);clear hS hb2 hb3 hsz hb1 hk0 hr;generalize hBB:w1.heap.size=B at *;clear hBB;go_wp2_with fail;go_loopw [6,7] (fun ov iv wr=>∃ (k f:Nat) (ts:List CH.Tok),k<=s.length/\iv=↑k/\Hid (mJ s f k ts=r)/\s.length<f+k/\ts.length<=k/\H0 (B+1) wr ov ts/\Scan B s wr/\Below w w wr) (fun _ iv _=>s.length - (ZG iv).toNat);case atStart=>exact⟨k0,s.length+1,[],hg0,rfl,hl0,oM,Bg _,Jj _ _ _ _,hS2,hB2⟩
 case round =>
  obtain⟨k,f,ts,hk,rfl,hl,hf,hts,hO,hSr,hBr⟩:=hrel;obtain⟨av,cv,rfl,hcv1,hcv2⟩:=hO.form;by_cases hlt:k<s.length
  ·have d1:ZH ((k:Int)<(s.length:Int))=true:=by simp;omega
   obtain⟨f',rfl⟩:∃ f',f=f'+1:=⟨f - 1,oM⟩
   have A:=Aa (Cbv B k s wr oM hlt hSr);cases hn:CH.next s k with
   |error e =>
    have he:=Rj s k e hn;rw [hn] at A;have hl':r=.error (e,k):=by rw [<- hl.out];unfold mJ;rw [if_pos hlt,hn]
    clear hl hn;have z0:((e:Int)==0)=false:=by simp;omega
    have z1:((e:Int) != 0)=true:=by simp;omega
    go_wp2_with fail;refine A.out.mono ?_;rintro e2 w3 ⟨rfl,hb3⟩;clear A;dsimp only [rW];go_wp2;refine Au (results_tmp3 rfl _ _ _) rfl ?_;refine⟨(hBr.trans (hb3.mono hBr.size)).alloc (Ag hBr.size hb3.size) _,?_⟩;rw [hl'];rfl
   |ok x =>
    obtain⟨t,j⟩:=x;obtain⟨hj1,hj2⟩:=vF s k hlt t j hn;rw [hn] at A;go_wp2_with fail;refine A.out.mono ?_;rintro e2 w3 ⟨rfl,hb3⟩;clear A;dsimp only [rW,yU];by_cases h5:ts.length=5000
    ·have z0:((ts.length:Int)==5000)=true:=by simp;omega
     have hl':r=.error (2,k):=by
      rw [<- hl.out];conv=>lhs;unfold mJ;rw [if_pos hlt,hn]
      dsimp only;rw [Aw h5]
     clear hl hn hO hSr;go_wp2;refine Au (results_tmp3 rfl _ _ _) rfl ?_;refine⟨(hBr.trans (hb3.mono hBr.size)).alloc (Ag hBr.size hb3.size) _,?_⟩;rw [hl'];rfl
    ·have z0:((ts.length:Int)==5000)=false:=by simp;omega
     have hl':mJ s f' (CH.gap s j) (ts++[t])=r:=by
      rw [<- hl.out];conv=>rhs;unfold mJ;rw [if_pos hlt,hn]
      dsimp only;rw [Ak h5]
     clear hl hn;have eP:Below w w w3:=hBr.trans (hb3.mono hBr.size);have hS3:=hSr.below hb3;have hO3:H0 (B+1) w3 (.slice av ts.length cv) ts:=G4 hO hb3;have hB3:=hS3.lt;clear hO hSr hb3;have hA:Below w3 w3 ((w3.alloc (.cells (Ga t).toArray 178)).alloc (.cells (Ga t).toArray 178)):=((Ac _ w3).alloc nR _).alloc sM _;have hO4:H0 (B+1) ((w3.alloc (.cells (Ga t).toArray 178)).alloc (.cells (Ga t).toArray 178)) (.slice av ts.length cv) ts:=Iz (Iz hO3 _) _;have hcell:∀ j u,(Ga t)[j]?=some u->((w3.alloc (.cells (Ga t).toArray 178)).alloc (.cells (Ga t).toArray 178)).cell? ⟨w3+1,j,none⟩=some u:=fun j u hj=>by have:=Cm (w3.alloc (.cells (Ga t).toArray 178)) (Ga t).toArray 178 (0,0) j;simpa using this.trans (by simpa using hj)
     have hsA:B+1<=((w3.alloc (.cells (Ga t).toArray 178)).alloc (.cells (Ga t).toArray 178)).heap.size:=by simp;omega
     have hblk:=O3 hO4;go_wp2_with (refine Ggy rfl _ _ rfl (B+1) _ ts rfl hO4 (w3+1) 1 t rfl hcell oM hsA ?_;intro v5 w5 hO5 hg5;have hb5:=Aa ((Ac (B+1) _).grown hg5 hsA hblk);clear hg5)
     have xO:=hb5.out;have hS5:Scan B s w5:=(hS3.below hA).low xO (Fe _);have hb6:Below w w w5:=(eP.trans (hA.mono eP.size)).trans (xO.mono oM);refine (Hdy B j s w5 oM hj2 hS5).mono ?_;rintro e3 w6 ⟨rfl,hb7⟩;have hO6:H0 (B+1) w6 v5 (ts++[t]):=G4 hO5 hb7;have hS6:=hS5.below hb7;have hb8:=hb6.trans (hb7.mono hb6.size);have hg1:=yu s j hj2;have hg2:=uU s j hj2;have HL:=Aa hl';clear hb5 xO hS5 hb6 hb7 hO5 hO4 hO3 hS3 hA hcell hsA hblk eP hl';generalize hG:CH.gap s j=G at *;go_wp2;go_roundw;case rel=>exact⟨G,f',ts++[t],hg2,rfl,HL,oM,by simp;omega,hO6,hS6,hb8⟩
     case measure=>simp [ZG];omega
  ·have d1:ZH ((k:Int)<(s.length:Int))=false:=by simp;omega
   have hl':r=.ok ts:=by
    rw [<- hl.out];cases f with
    |zero=>rfl
    |succ f'=>unfold mJ;rw [if_neg hlt]
   clear hl;go_wp2;refine Au (results_tmp3 rfl _ _ _) rfl ?_;refine⟨hBr,?_⟩;rw [hl'];exact⟨_,rfl,hO.mono oM⟩
theorem H0.cellAt {base:Nat} {w:ZB} {a:Option Addr} {n cap:Nat} {t:CH.Tok} (h:H0 base w (.slice a n cap) [t]) : ∃ g,a=some ⟨g,0,none⟩/\w.cell? ⟨g,0,none⟩=some ↑t.kind/\w.cell? ⟨g,3,none⟩=some ↑t.text:=by
 have h':=h;obtain⟨hlen,⟨e,h0⟩|⟨g,cap',cur,e,hb,hg,hn,hc,hsz,htk⟩⟩:=h;·simp at h0
 ·injection e with e1 e2 e3;subst e1;subst e2;subst e3;refine⟨g,rfl,?_,?_⟩;·exact Gy h' 0 sM
  ·exact Gy h' 3 sM
theorem Cy (a b:List UInt8):((⟨a.toArray⟩:ByteArray)==⟨b.toArray⟩)=(a==b):=by
 show (a.toArray==b.toArray)=(a==b)
 simp
theorem I48 (s:List UInt8):∀ (f i:Nat) (out:List CH.Tok) (x:Nat × Nat),mJ s f i out=.error x->1<=x.1:=by
 intro f;induction f with
 |zero=>intro i out x h;cases h
 |succ f ih =>
  intro i out x h;unfold mJ at h;split at h
  ·split at h;·rename_i e he;cases h;exact Rj s i e he
   ·split at h;·cases h;exact (dC:1<=2)
    ·exact ih _ _ _ h
  ·cases h
theorem Age (s:List UInt8) (x:Nat × Nat) (h:CH.lex s=.error x):1<=x.1:=I48 s _ _ _ _ h
theorem Nm (s:List UInt8) (w:ZB) (hs:s.length<=20000) : ZE prog 52 #[↑s] w (Ret w (.bool (CH.ident s))):=by
 obtain⟨r,hr⟩:∃ r,CH.ident s=r:=⟨_,rfl⟩
 rw [hr];unfold CH.ident at hr;rw [Az hs,a_Bool_true_and] at hr;replace hr:=Aa hr;have A:=Aa (Ain s w hs);go_enter func52,ntmps52;go_wp2_with fail;refine A.out.mono ?_;clear A;rintro e w1 ⟨hb,hm⟩;cases hl:CH.lex s with
 |error x =>
  have hr':r=false:=by rw [<- hr.out,hl]
  clear hr;rw [hl] at hm;dsimp only at hm;subst hm;have hx:=Age s x hl;have z0:((x.1:Int)==0)=false:=by simp;omega
  clear hl;go_wp2;go_ret;exact⟨by rw [hr'];rfl,hb⟩
 |ok ts =>
  rw [hl] at hm;obtain⟨v,rfl,hO⟩:=hm;obtain⟨av,cv,rfl,hc1,hc2⟩:=hO.form;replace hr:=Aa ((congrArg (fun x=>match x with|.ok [t]=>t.kind==1&&t.text==s|_=>false) hl).symm.trans hr.out);clear hl;rcases ts with _|⟨t,_|⟨t2,ts⟩⟩;·have hr':r=false:=hr.out.symm;clear hr hO;go_wp2;go_ret;exact⟨by rw [hr'];rfl,hb⟩
  ·obtain⟨g,rfl,k0,k3⟩:=hO.cellAt;have hsb:=Cy t.text s;by_cases hk:t.kind=1
   ·have z1:((t.kind:Int)==1)=true:=by simp;omega
    have hr':r=(t.text==s):=by rw [<- hr.out];show (t.kind==1&&t.text==s)=_;rw [Dl.2 hk];rfl
    clear hr;go_wp2;go_ret;exact⟨by rw [hr',<- hsb];rfl,hb⟩
   ·have z1:((t.kind:Int)==1)=false:=by simp;omega
    have hr':r=false:=by rw [<- hr.out];show (t.kind==1&&t.text==s)=_;rw [Gx.2 hk];rfl
    clear hr;go_wp2;go_ret;exact⟨by rw [hr'];rfl,hb⟩
  ·have z1:(((t::t2::ts).length:Int)==1)=false:=by simp;omega
   generalize hn:(t::t2::ts).length=n at *;have hr':r=false:=hr.out.symm;clear hO hr;go_wp2;go_ret;exact⟨by rw [hr'];rfl,hb⟩
theorem Vc (s:List UInt8) (w:ZB) (hs:s.length<=20000) : ZE prog 159 #[↑s] w (Ret w (.bool (CH.ident s))):=by
 obtain⟨r,hr⟩:∃ r,CH.ident s=r:=⟨_,rfl⟩
 rw [hr];unfold CH.ident at hr;rw [Az hs,a_Bool_true_and] at hr;replace hr:=Aa hr;have A:=Aa (Ain s w hs);go_enter func159,ntmps159;go_wp2_with fail;refine A.out.mono ?_;clear A;rintro e w1 ⟨hb,hm⟩;cases hl:CH.lex s with
 |error x =>
  have hr':r=false:=by rw [<- hr.out,hl]
  clear hr;rw [hl] at hm;dsimp only at hm;subst hm;have hx:=Age s x hl;have z0:((x.1:Int)==0)=false:=by simp;omega
  clear hl;go_wp2;go_ret;exact⟨by rw [hr'];rfl,hb⟩
 |ok ts =>
  rw [hl] at hm;obtain⟨v,rfl,hO⟩:=hm;obtain⟨av,cv,rfl,hc1,hc2⟩:=hO.form;replace hr:=Aa ((congrArg (fun x=>match x with|.ok [t]=>t.kind==1&&t.text==s|_=>false) hl).symm.trans hr.out);clear hl;rcases ts with _|⟨t,_|⟨t2,ts⟩⟩;·have hr':r=false:=hr.out.symm;clear hr hO;go_wp2;go_ret;exact⟨by rw [hr'];rfl,hb⟩
  ·obtain⟨g,rfl,k0,k3⟩:=hO.cellAt;have hsb:=Cy t.text s;by_cases hk:t.kind=1
   ·have z1:((t.kind:Int)==1)=true:=by simp;omega
    have hr':r=(t.text==s):=by rw [<- hr.out];show (t.kind==1&&t.text==s)=_;rw [Dl.2 hk];rfl
    clear hr;go_wp2;go_ret;exact⟨by rw [hr',<- hsb];rfl,hb⟩
   ·have z1:((t.kind:Int)==1)=false:=by simp;omega
    have hr':r=false:=by rw [<- hr.out];show (t.kind==1&&t.text==s)=_;rw [Gx.2 hk];rfl
    clear hr;go_wp2;go_ret;exact⟨by rw [hr'];rfl,hb⟩
  ·have z1:(((t::t2::ts).length:Int)==1)=false:=by simp;omega
   generalize hn:(t::t2::ts).length=n at *;have hr':r=false:=hr.out.symm;clear hO hr;go_wp2;go_ret;exact⟨by rw [hr'];rfl,hb⟩
theorem Qw (s:List UInt8) (w:ZB) (hs:s.length<=20000) : ZE prog 228 #[↑s] w (Ret w (.bool (CH.ident s))):=by
 obtain⟨r,hr⟩:∃ r,CH.ident s=r:=⟨_,rfl⟩
 rw [hr];unfold CH.ident at hr;rw [Az hs,a_Bool_true_and] at hr;replace hr:=Aa hr;have A:=Aa (Ain s w hs);go_enter func228,ntmps228;go_wp2_with fail;refine A.out.mono ?_;clear A;rintro e w1 ⟨hb,hm⟩;cases hl:CH.lex s with
 |error x =>
  have hr':r=false:=by rw [<- hr.out,hl]
  clear hr;rw [hl] at hm;dsimp only at hm;subst hm;have hx:=Age s x hl;have z0:((x.1:Int)==0)=false:=by simp;omega
  clear hl;go_wp2;go_ret;exact⟨by rw [hr'];rfl,hb⟩
 |ok ts =>
  rw [hl] at hm;obtain⟨v,rfl,hO⟩:=hm;obtain⟨av,cv,rfl,hc1,hc2⟩:=hO.form;replace hr:=Aa ((congrArg (fun x=>match x with|.ok [t]=>t.kind==1&&t.text==s|_=>false) hl).symm.trans hr.out);clear hl;rcases ts with _|⟨t,_|⟨t2,ts⟩⟩;·have hr':r=false:=hr.out.symm;clear hr hO;go_wp2;go_ret;exact⟨by rw [hr'];rfl,hb⟩
  ·obtain⟨g,rfl,k0,k3⟩:=hO.cellAt;have hsb:=Cy t.text s;by_cases hk:t.kind=1
   ·have z1:((t.kind:Int)==1)=true:=by simp;omega
    have hr':r=(t.text==s):=by rw [<- hr.out];show (t.kind==1&&t.text==s)=_;rw [Dl.2 hk];rfl
    clear hr;go_wp2;go_ret;exact⟨by rw [hr',<- hsb];rfl,hb⟩
   ·have z1:((t.kind:Int)==1)=false:=by simp;omega
    have hr':r=false:=by rw [<- hr.out];show (t.kind==1&&t.text==s)=_;rw [Gx.2 hk];rfl
    clear hr;go_wp2;go_ret;exact⟨by rw [hr'];rfl,hb⟩
  ·have z1:(((t::t2::ts).length:Int)==1)=false:=by simp;omega
   generalize hn:(t::t2::ts).length=n at *;have hr':r=false:=hr.out.symm;clear hO hr;go_wp2;go_ret;exact⟨by rw [hr'];rfl,hb⟩
def Hia (w:ZB) (n:Nat) (r:ByteArray->ZC) (e:Ending) (w':ZB):Prop:=∃ b:ByteArray,e=.returned (r b)/\b.size<=n/\Below w w w'
theorem Qy (t:Int) (w:ZB):ZE prog 268 #[↑t] w (fun e w'=>e=.returned (.bool (bg t))/\w'=w):=by
 obtain⟨r,hr⟩:∃ r,Hid (bg t=r):=⟨_,Aa rfl⟩
 rw [hr.out];by_cases h0:0<=t
 ·have d0:ZH (0<=t)=true:=by simpa using h0
  go_enter func268,ntmps268;go_wp2;go_ret;exact⟨by rw [<- hr.out];unfold bg;rw [d0];rfl,rfl⟩
 ·have d0:ZH (0<=t)=false:=by simpa using h0
  go_enter func268,ntmps268;go_wp2;go_ret;exact⟨by rw [<- hr.out];unfold bg;rw [d0];rfl,rfl⟩
theorem Hb3 (n:Nat) (w:ZB) (hG:Gl w) (hn:n<=1000000000):ZE prog 269 #[↑n] w (Hia w 50 fun b=>.string b):=by have A:=Aa (G2 ((n:Int) / 10) w oM oM hG);have A2:=fun w=>G2 ((n:Int) % 10) w oM oM;go_enter func269,ntmps269;go_wp2_with fail;refine A.out.mono ?_;rintro e w1 ⟨rfl,hb1⟩;have A3:=Aa (A2 w1 (hG.below hb1));clear A A2;go_wp2_with fail;refine A3.out.mono ?_;rintro e w2 ⟨rfl,hb2⟩;clear A3;have hl1:=Lib.itoa_length_le ((n:Int) / 10) oM oM;have hl2:=Lib.itoa_length_le ((n:Int) % 10) oM oM;generalize Lib.itoa ((n:Int) / 10)=l1 at *;generalize Lib.itoa ((n:Int) % 10)=l2 at *;go_wp2;go_ret;refine⟨_,rfl,?_,hb1.trans (hb2.mono hb1.size)⟩;simp [ByteArray.size];omega
theorem X6 (t:Int) (w:ZB) (hG:Gl w):ZE prog 225 #[↑t] w (Hia w 200 fun b=>.tuple #[.string b,.int .i64 (if bg t then 0 else 1)]):=by
 have A:=Aa (Qy t w);cases hi:bg t with
 |false =>rw [hi] at A;go_enter func225,ntmps225;go_wp2_with fail;refine A.out.mono ?_;rintro e w1 ⟨rfl,rfl⟩;clear A;go_wp2;refine Au (Bc rfl _ _ _) rfl ?_;exact⟨_,rfl,Bg _,Ac _ _⟩
 |true =>
  rw [hi] at A;obtain⟨n,rfl,hn⟩:∃ n:Nat,t=n/\n<=144001439:=by unfold bg at hi;simp at hi;exact⟨t.toNat,oM,oM⟩
  clear hi;have A1:=Aa fun w=>G2 ((n:Int) / 1440) w oM oM;have A2:=Aa (Hb3 (n % 1440 / 60));have A3:=Aa (Hb3 (n % 60));have e2:((n % 1440 / 60:Nat):Int)=(n:Int) % 1440 / 60:=oM;have e3:((n % 60:Nat):Int)=(n:Int) % 60:=oM;rw [e2] at A2;rw [e3] at A3;clear e2 e3;go_enter func225,ntmps225;go_wp2_with fail;refine A.out.mono ?_;rintro e w1 ⟨rfl,rfl⟩;clear A;go_wp2_with fail;refine (A1.out _ hG).mono ?_;rintro e w2 ⟨rfl,hb2⟩;have hG2:=hG.below hb2;clear A1;have hl1:=Lib.itoa_length_le ((n:Int) / 1440) oM oM;generalize Lib.itoa ((n:Int) / 1440)=l1 at *;go_wp2_with fail;refine (A2.out _ hG2 oM).mono ?_;rintro e w3 ⟨b3,rfl,hs3,hb3⟩;have hG3:=hG2.below hb3;clear A2;go_wp2_with fail;refine (A3.out _ hG3 oM).mono ?_;rintro e w4 ⟨b4,rfl,hs4,hb4⟩;clear A3;go_wp2;refine Au (Bc rfl _ _ _) rfl ?_;refine⟨_,rfl,?_,(hb2.trans (hb3.mono hb2.size)).trans (hb4.mono (Ag hb2.size hb3.size))⟩;show (((ByteArray.mk l1.toArray++ByteArray.mk #[47])++b3++ByteArray.mk #[58])++b4).size<=200;simp only [Ir];have e1:(ByteArray.mk l1.toArray).size=l1.length:=by simp [ByteArray.size]
  have e2:(ByteArray.mk #[47]).size=1:=rfl;have e3:(ByteArray.mk #[58]).size=1:=rfl;omega
theorem Td (t:Int) (w:ZB) (hG:Gl w):ZE prog 161 #[↑t] w (Ret w (.bool (bg t))):=by
 have A:=Aa (X6 t w hG);go_enter func161,ntmps161;go_wp2_with fail;refine A.out.mono ?_;rintro e w1 ⟨b,rfl,hs,hb⟩;clear A;cases hi:bg t with
 |false =>go_wp2;go_ret;exact⟨by rw [hi];rfl,hb⟩
 |true =>go_wp2;go_ret;exact⟨by rw [hi];rfl,hb⟩
def Cg {α:Type} [BEq α] (k:α):List (α × ZC)->Nat->Option (Nat × ZC)
 |[],_=>none
 |(a,v)::l,i=>if k==a then some (i,v) else Cg k l (i+1)
def Ta {α:Type} (emb:α->ZC) (r:Nat) (w:ZB) (kvs:List (α × ZC)):Prop := ∃ (es:Array MapEntry) (clock:Nat),w.heap[r]?=some (.map es clock)/\es.toList.map (fun e=>(e.key,e.val))=kvs.map (fun p=>(emb p.1,p.2))
theorem Su {α:Type} [BEq α] (emb:α->ZC) (kind:TypeDesc) (hs:∀ a b,Instr.sameNow kind (emb a) (emb b)=some (a==b)) (k:α) : ∀ (kvs:List (α × ZC)) (es:List MapEntry) (i:Nat),es.map (fun e=>(e.key,e.val))=kvs.map (fun p=>(emb p.1,p.2))->Instr.findNow kind (emb k) es i=some (Cg k kvs i):=by
 intro kvs;induction kvs with
 |nil =>
  intro es i h;have:es=[]:=by simpa using h
  subst this;rfl
 |cons p l ih =>
  intro es i h;obtain⟨a,v⟩:=p;cases es with
  |nil=>simp at h
  |cons e es =>
   simp only [Ew,List.cons.injEq,Gp] at h;obtain⟨⟨hk,hv⟩,hr⟩:=h;rw [Instr.findNow,hk,hs,Cg];cases hb:(k==a) with
   |true=>simp [hv]
   |false=>simpa using ih es (i+1) hr
structure kH {α:Type} [BEq α] (P:Program) (K:ZJ) (emb:α->ZC) (kind:TypeDesc):Prop where
 under:P.underlying K=some kind
 same:∀ a b,Instr.sameNow kind (emb a) (emb b)=some (a==b)
 check:∀ (w:ZB) (e:Bool) (a:α),(Instr.checkKey e 10000 K (emb a)).run P w=.ok () w
theorem Dr {α:Type} [BEq α] {P:Program} {T K E:ZJ} {emb:α->ZC} {kind:TypeDesc} (hK:kH P K emb kind) (hT:P.underlying T=some (.map K E)) (z:ZC) (hz:∀ w,(zeroValue E).run P w=.ok z w) {r:Nat} {w:ZB} {kvs:List (α × ZC)} (h:Ta emb r w kvs) (k:α) : (Instr.lookup T (.map (some r)) (emb k) false).run P w=.ok (((Cg k kvs 0).map (·.2)).getD z) w:=by
 obtain⟨es,clock,hb,hes⟩:=h;have hf:=Su emb kind hK.same k kvs es.toList 0 hes;cases hq:Cg k kvs 0 with
 |none =>rw [hq] at hf;simp [Instr.lookup,Ec hT,Gt hb,hK.check,Instr.findKey,Ec hK.under,hf,hz,Result.andThen]
 |some p =>rw [hq] at hf;simp [Instr.lookup,Ec hT,Gt hb,hK.check,Instr.findKey,Ec hK.under,hf,Result.andThen]
theorem Fo {α:Type} [BEq α] {P:Program} {T K E:ZJ} {emb:α->ZC} {kind:TypeDesc} (hK:kH P K emb kind) (hT:P.underlying T=some (.map K E)) {r:Nat} {w:ZB} {kvs:List (α × ZC)} (h:Ta emb r w kvs) (k:α) (v:ZC) (hn:Cg k kvs 0=none) : ∃ o,(Instr.mapUpdate T (.map (some r)) (emb k) v).run P w=.ok () (w.putObj r o)/\Ta emb r (w.putObj r o) (kvs++[(k,v)]):=by
 obtain⟨es,clock,hb,hes⟩:=h;have hf:=Su emb kind hK.same k kvs es.toList 0 hes;rw [hn] at hf;have hlt:r<w.heap.size:=(aZ hb)
 refine⟨.map (es.push { key:=emb k,val:=v,born:=clock }) (clock+1),?_,es.push { key:=emb k,val:=v,born:=clock },clock+1,World.putObj_heap_same hlt,?_⟩;·simp [Instr.mapUpdate,Ec hT,Gt hb,hK.check,Instr.findKey,Ec hK.under,hf,Result.andThen,Kt _ hb];rfl
 ·simp [hes]
theorem P1 {α:Type} (emb:α->ZC) (w:ZB):Ta emb w (w.alloc (.map #[] 0)) []:=⟨#[],0,Ai _ _,rfl⟩
theorem Ta.below {α:Type} {emb:α->ZC} {r:Nat} {w w':ZB} {kvs:List (α × ZC)} (h:Ta emb r w kvs) (hb:Below w w w'):Ta emb r w' kvs:=by obtain⟨es,clock,h1,h2⟩:=h;exact⟨es,clock,(hb.block r (aZ h1)).trans h1,h2⟩
theorem Ta.lt {α:Type} {emb:α->ZC} {r:Nat} {w:ZB} {kvs:List (α × ZC)} (h:Ta emb r w kvs):r<w.heap.size:=by obtain⟨es,clock,h1,_⟩:=h;exact (aZ h1)
theorem Bt {w w1:ZB} {B r:Nat} (h:Below B w w1) (hr:B<=r) (o:Obj):Below B w (w1.putObj r o) := ⟨h.os,h.tape,h.output,by simp [World.putObj];exact h.size,fun k hk=>by rw [World.putObj_heap_other oM];exact h.block k hk⟩
theorem Ow:kH prog 9 ay .string where
 under:=underlying9
 same a b:=by
  show some ((⟨a.toArray⟩:ByteArray)==⟨b.toArray⟩)=_
  rw [Cy]
 check w e a:=MapKept.run_checkKey underlying9 (by trivial) e 9999
abbrev aJ (n:Int):ZC:=↑n
theorem Ms:kH prog 3 aJ (.int .i64) where
 under:=underlying3
 same a b:=by simp [Instr.sameNow]
 check w e a:=MapKept.run_checkKey underlying3 (by trivial) e 9999
end
end Go.Proofs.YthapckjpmkkkpaaGreatDoor
namespace CH
theorem O8 (ls:List Str) (x:Str):fH (ls++[x])=(fH ls&&!ls.contains x):=by
 induction ls with
 |nil=>rfl
 |cons y l ih =>
  rw [Dq,fH,fH,ih];have e1:(l++[x]).contains y=(l.contains y||y==x):=by rw [F8];simp
  have e2:(y::l).contains x=(x==y||l.contains x):=by rw [F8];simp
  have e3:(x==y)=(y==x):=by rw [F8];simp;exact⟨fun h=>h.symm,fun h=>h.symm⟩
  rw [e1,e2,e3];cases l.contains y <;> cases fH l <;> cases l.contains x <;> cases (y==x) <;> rfl
theorem lG (ls:List Str) (x:Str):aY (ls++[x])=(aY ls&&(isName x&&!ls.contains x)):=by unfold aY;rw [Ij,O8];simp only [Jh,Nj,Lp];cases ls.all isName <;> cases fH ls <;> cases isName x <;> rfl
theorem U7 (l1 l2:List Str) (h:aY (l1++l2)=true):aY l1=true:=by
 induction l2 generalizing l1 with
 |nil=>simpa using h
 |cons x l ih =>have:=ih (l1++[x]) (by simpa using h);rw [lG] at this;simp at this;exact this.1
theorem oV (ls:List Str) (k:Nat) (h:aY (ls.take k)=false):aY ls=false:=by
 cases hb:aY ls with
 |false=>rfl
 |true =>rw [<- F7 k ls] at hb;rw [U7 _ _ hb] at h;cases h
end CH
namespace Go.Proofs.YthapckjpmkkkpaaGreatDoor
open Go.RowKit Go.Lib Go.Shelf Go.Sort CH
theorem Due (n m:Int) (w:ZB):ZE Tryz.prog 109 #[↑n,↑m] w (fun e w'=>e=.returned (.bool (CH.within n m))/\w'=w):=by
 obtain⟨r,hr⟩:∃ r,Hid (CH.within n m=r):=⟨_,Aa rfl⟩
 rw [hr.out];by_cases h0:0<=n
 ·have d0:ZH (0<=n)=true:=by simpa using h0
  go_enter Tryz.func109,Tryz.ntmps109;go_wp2;go_ret;exact⟨by rw [<- hr.out];unfold CH.within;rw [d0];rfl,rfl⟩
 ·have d0:ZH (0<=n)=false:=by simpa using h0
  go_enter Tryz.func109,Tryz.ntmps109;go_wp2;go_ret;exact⟨by rw [<- hr.out];unfold CH.within;rw [d0];rfl,rfl⟩
abbrev wM (r:Nat) (w:ZB) (ks:List (List UInt8)):Prop:=Ta ay r w (ks.map fun l=>(l,.bool true))
theorem Ss (l:List UInt8):∀ (ks:List (List UInt8)) (i:Nat),((Cg l (ks.map fun l=>(l,Value.bool true)) i).map (·.2)).getD (.bool false)=.bool (ks.contains l)/\((Cg l (ks.map fun l=>(l,Value.bool true)) i).isSome=ks.contains l):=by
 intro ks;induction ks with
 |nil=>intro i;exact⟨rfl,rfl⟩
 |cons x ks ih =>
  intro i;rw [Ew,Cg,List.contains_cons];cases h:(l==x) with
  |true=>simp
  |false=>simpa using ih (i+1)
theorem Blt {P:Program} {E:ZJ} {z:ZC} (h:(P.info? E).bind (·.zero)=some z) (w:ZB):(zeroValue E).run P w=.ok z w:=by
 cases hq:P.info? E with
 |none=>simp [hq] at h
 |some i =>simp [hq] at h;simp [zeroValue,typeInfo,hq,h,Result.andThen]
theorem Tb (w:ZB):(zeroValue 4).run Tryz.prog w=.ok (.bool false) w:=Blt kR w
theorem Ym (v:ZC) (ls:List (List UInt8)) (w:ZB) (hv:Strs w w v ls) (hl:ls.length<=100000) (hll:∀ l∈ls,l.length<=100000) : ZE Tryz.prog 107 #[v] w (Ret w (.bool (aY ls))):=by
 obtain⟨a,cap,rfl,hc1,hc2,hcell⟩:=hv;have hmm:=@Ig Tryz.prog;generalize hn:ls.length=n at *;go_enter Tryz.func107,Tryz.ntmps107;go_wp2_with fail;clear hmm;have hM0:=P1 ay w;have hb0:=(Ac _ w).alloc nR (.map #[] 0);generalize hw0:w.alloc (.map #[] 0)=w0 at *;go_loopw [9] (fun iv wr=>∃ k:Nat,k<=n/\iv=↑k/\Hid (aY (ls.take k)=true)/\wM w wr (ls.take k)/\Below w w wr) (fun iv _=>n - (ZG iv).toNat);case atStart=>exact⟨0,Bg _,rfl,Aa rfl,hM0,hb0⟩
 case round =>
  obtain⟨k,hk,rfl,hu,hM,hb⟩:=hrel;by_cases hlt:k<n
  ·obtain⟨x,hx⟩:∃ x,ls[k]?=some x:=⟨_,Ad oM⟩
   have hxl:=hll x (Ap hx);obtain⟨b,off,rfl,hblt,hcs⟩:=hcell (fun e=>by rw [e] at hn;simp at hn;omega);have hck:=(hb.cell (p:=⟨b,off+k,none⟩) hblt).trans (hcs k x hx);have hts:ls.take (k+1)=ls.take k++[x]:=by rw [Eo,hx];rfl
   have hno:aY (ls.take (k+1))=(CH.isName x&&!(ls.take k).contains x):=by rw [hts,lG,hu.out];rfl
   have A:=Aa (Ri x wr oM);have hlk:=Dr Ow Tryz.underlying171 (.bool false) Tb hM x;rw [(Ss x (ls.take k) 0).1] at hlk;have hko:((ls.take k).map fun l=>(l,Value.bool true))++[(x,.bool true)]=(ls.take (k+1)).map fun l=>(l,Value.bool true):=by rw [hts,Fh];rfl
   have hup:=fun (h:(ls.take k).contains x=false)=>Fo Ow Tryz.underlying171 hM x (.bool true) (by
    cases hq:Cg x ((ls.take k).map fun l=>(l,Value.bool true)) 0 with
    |none=>rfl
    |some p =>have:=(Ss x (ls.take k) 0).2;rw [hq,h] at this;cases this)
   rw [hko] at hup;have HN:=Aa hno;have HU:=Aa hup;have HT:=Aa (oV ls (k+1));have HF:=Aa hcell;have HC:=Aa hcs;have HA:=Aa hll;clear hno hup hts hko hcell hcs hll hx;cases hin:CH.isName x with
   |false =>rw [hin] at A;have hr':aY ls=false:=HT.out (by rw [HN.out,hin];rfl);go_wp2_with fail;refine A.out.mono ?_;rintro e w1 ⟨rfl,rfl⟩;clear A;go_wp2;go_ret;exact⟨by rw [hr'];rfl,hb⟩
   |true =>
    rw [hin] at A;cases hct:(ls.take k).contains x with
    |true =>have hr':aY ls=false:=HT.out (by rw [HN.out,hin,hct];rfl);rw [hct] at hlk;go_wp2_with fail;refine A.out.mono ?_;rintro e w1 ⟨rfl,rfl⟩;clear A;go_wp2;go_ret;exact⟨by rw [hr'];rfl,hb⟩
    |false =>
     have hr':aY (ls.take (k+1))=true:=by rw [HN.out,hin,hct];rfl
     have HR:=Aa hr';rw [hct] at hlk;obtain⟨o,ho,hM'⟩:=HU.out hct;clear hr' HN HT HU;go_wp2_with fail;refine A.out.mono ?_;rintro e w1 ⟨rfl,rfl⟩;clear A;go_wp2;go_roundw;case rel=>exact⟨k+1,oM,by go_num,HR,hM',Bt hb nR _⟩
     case measure=>simp [ZG];omega
  ·have e:k=n:=oM;subst e;have hr':aY ls=true:=by rw [<- hu.out,<- hn,Dx]
   go_wp2;go_ret;exact⟨by rw [hr'];rfl,hb⟩
end Go.Proofs.YthapckjpmkkkpaaGreatDoor
namespace Go.Proofs.YthapckjpmkkkpaaGreatDoor
section
open Go.Lib Go.Proofs.Tryz Go.RowKit Go.Shelf Go.Sort CH
def CV (B:Nat) (w:ZB) (cs:List ZC) (l:gy):Prop := ∃ vm vp,cs=[ay l.id,vm,vp,aJ l.quota,aJ l.uses,aJ l.start,aJ l.aB]/\Strs B w vm l.measures/\Strs B w vp l.aK
def Gd (ls:List (List UInt8)):Prop:=ls.length<=100000/\∀ l∈ls,l.length<=10000
theorem Strs.form {B:Nat} {w:ZB} {v:ZC} {ls:List (List UInt8)} (h:Strs B w v ls):∃ a cap,v=.slice a ls.length cap/\ls.length<=cap/\cap<=9223372036854775807:=by obtain⟨a,cap,h1,h2,h3,_⟩:=h;exact⟨a,cap,h1,h2,h3⟩
theorem Acq (cs:List ZC) (l:gy) (w:ZB) (hl:CV w w cs l) (hid:l.id.length<=10000) (hm:Gd l.measures) (hp:Gd l.aK) : ZE prog 49 #[.agg cs.toArray] w (Ret w (.bool (aP l))):=by
 obtain⟨vm,vp,rfl,hvm,hvp⟩:=hl;obtain⟨r,hr⟩:∃ r,Hid (aP l=r):=⟨_,Aa rfl⟩
 rw [hr.out];obtain⟨am,cm,rfl,_,_⟩:=hvm.form;obtain⟨ap,cp,rfl,_,_⟩:=hvp.form;have hb0:=fun o=>(Ac _ w).alloc nR o;have A1:=Aa fun o=>Ym _ l.measures (w.alloc o) ((hvm.below (hb0 o) nR).mono (hb0 o).size) hm.1 (fun x hx=>Ag (hm.2 x hx) dC);have A2:=Aa fun (w1:ZB) (hb:Below w w w1)=>Ym _ l.aK w1 ((hvp.below hb nR).mono hb.size) hp.1 (fun x hx=>Ag (hp.2 x hx) dC);have A3:=Aa fun (w1:ZB)=>Ri l.id w1 oM;have W:=Aa fun (n m:Int) (w1:ZB)=>Due n m w1;generalize hnm:l.measures.length=nm at *;generalize hnp:l.aK.length=np at *;go_enter func49,ntmps49;go_wp2_with fail;refine (A1.out _).mono ?_;rintro e w1 ⟨rfl,hb1⟩;have hblk1:=(hb1.block w sM).trans (Ai w _);have hB1:Below w w w1:=(hb0 _).trans (hb1.mono sM);have hlt1:w.heap.size<w1.heap.size:=(aZ hblk1)
 clear hb1 A1 hb0;have EF:w1.cell? ⟨w,0,none⟩=some (ay l.id):=Ab hblk1 0;have ED:w1.cell? ⟨w,1,none⟩=some (.slice am nm cm):=Ab hblk1 1;have EC:w1.cell? ⟨w,2,none⟩=some (.slice ap np cp):=Ab hblk1 2;have DW:w1.cell? ⟨w,3,none⟩=some (aJ l.quota):=Ab hblk1 3;have DV:w1.cell? ⟨w,4,none⟩=some (aJ l.uses):=Ab hblk1 4;have DU:w1.cell? ⟨w,5,none⟩=some (aJ l.start):=Ab hblk1 5;have DR:w1.cell? ⟨w,6,none⟩=some (aJ l.aB):=Ab hblk1 6;cases h1:aY l.measures with
 |false =>
  clear A2;have HL:Hid ((aY l.measures&&aY l.aK&&(ZH (0<l.measures.length)&&ZH (l.measures.length<=12)&&ZH (l.aK.length<=60)))=false):=Aa (by rw [h1];rfl);go_wp2_with fail;cases hi:CH.isName l.id with
  |false =>have A:=A3.out w1;rw [hi] at A;replace A:=Aa A;clear A3 W;refine (A.out).mono ?_;rintro e w9 ⟨rfl,hw9⟩;rw [hw9];clear hw9 w9;clear A;go_wp2;go_ret;exact⟨by rw [<- hr.out];simp [aP,hi],hB1⟩
  |true =>have A:=A3.out w1;rw [hi] at A;replace A:=Aa A;clear A3;refine (A.out).mono ?_;rintro e w9 ⟨rfl,hw9⟩;rw [hw9];clear hw9 w9;clear A;clear W;go_wp2;go_ret;exact⟨by rw [<- hr.out];simp [aP,hi,HL.out],hB1⟩
 |true =>
  go_wp2_with fail;refine (A2.out w1 hB1).mono ?_;rintro e w2 ⟨rfl,hb2⟩;have hblk2:=(hb2.block w hlt1).trans hblk1;have hB2:Below w w w2:=hB1.trans (hb2.mono hB1.size);clear hb2 A2 EF ED EC DW DV DU DR;have JH:w2.cell? ⟨w,0,none⟩=some (ay l.id):=Ab hblk2 0;have JG:w2.cell? ⟨w,1,none⟩=some (.slice am nm cm):=Ab hblk2 1;have JF:w2.cell? ⟨w,2,none⟩=some (.slice ap np cp):=Ab hblk2 2;have JE:w2.cell? ⟨w,3,none⟩=some (aJ l.quota):=Ab hblk2 3;have JD:w2.cell? ⟨w,4,none⟩=some (aJ l.uses):=Ab hblk2 4;have JC:w2.cell? ⟨w,5,none⟩=some (aJ l.start):=Ab hblk2 5;have JB:w2.cell? ⟨w,6,none⟩=some (aJ l.aB):=Ab hblk2 6;cases h2:aY l.aK with
  |false =>
   have HL:Hid ((aY l.measures&&aY l.aK&&(ZH (0<l.measures.length)&&ZH (l.measures.length<=12)&&ZH (l.aK.length<=60)))=false):=Aa (by rw [h1,h2];rfl);go_wp2_with fail;cases hi:CH.isName l.id with
   |false =>have A:=A3.out w2;rw [hi] at A;replace A:=Aa A;clear A3 W;refine (A.out).mono ?_;rintro e w9 ⟨rfl,hw9⟩;rw [hw9];clear hw9 w9;clear A;go_wp2;go_ret;exact⟨by rw [<- hr.out];simp [aP,hi],hB2⟩
   |true =>have A:=A3.out w2;rw [hi] at A;replace A:=Aa A;clear A3;refine (A.out).mono ?_;rintro e w9 ⟨rfl,hw9⟩;rw [hw9];clear hw9 w9;clear A;clear W;go_wp2;go_ret;exact⟨by rw [<- hr.out];simp [aP,hi,HL.out],hB2⟩
  |true =>
   by_cases h3:0<nm
   ·have d3:ZH ((0:Int)<(nm:Int))=true:=by simp;omega
    by_cases h4:nm<=12
    ·have d4:ZH ((nm:Int)<=(12:Int))=true:=by simp;omega
     by_cases h5:np<=60
     ·have d5:ZH ((np:Int)<=(60:Int))=true:=by simp;omega
      have HL:Hid ((aY l.measures&&aY l.aK&&(ZH (0<l.measures.length)&&ZH (l.measures.length<=12)&&ZH (l.aK.length<=60)))=true):=Aa (by rw [h1,h2,hnm,hnp,Az h3,Az h4,Az h5];rfl);go_wp2_with fail;cases hi:CH.isName l.id with
      |false =>have A:=A3.out w2;rw [hi] at A;replace A:=Aa A;clear A3 W;refine (A.out).mono ?_;rintro e w9 ⟨rfl,hw9⟩;rw [hw9];clear hw9 w9;clear A;go_wp2;go_ret;exact⟨by rw [<- hr.out];simp [aP,hi],hB2⟩
      |true =>
       have A:=A3.out w2;rw [hi] at A;replace A:=Aa A;clear A3;refine (A.out).mono ?_;rintro e w9 ⟨rfl,hw9⟩;rw [hw9];clear hw9 w9;clear A;cases hw0:CH.within l.quota 1000000000 with
       |false =>have A:=W.out l.quota 1000000000 w2;rw [hw0] at A;replace A:=Aa A;clear W;go_wp2_with fail;refine (A.out).mono ?_;rintro e w9 ⟨rfl,hw9⟩;rw [hw9];clear hw9 w9;clear A;go_wp2;go_ret;exact⟨by rw [<- hr.out];simp [aP,hi,HL.out,hw0],hB2⟩
       |true =>
        have A:=W.out l.quota 1000000000 w2;rw [hw0] at A;replace A:=Aa A;go_wp2_with fail;refine (A.out).mono ?_;rintro e w9 ⟨rfl,hw9⟩;rw [hw9];clear hw9 w9;clear A;cases hw1:CH.within l.uses 1000 with
        |false =>have A:=W.out l.uses 1000 w2;rw [hw1] at A;replace A:=Aa A;clear W;go_wp2_with fail;refine (A.out).mono ?_;rintro e w9 ⟨rfl,hw9⟩;rw [hw9];clear hw9 w9;clear A;go_wp2;go_ret;exact⟨by rw [<- hr.out];simp [aP,hi,HL.out,hw0,hw1],hB2⟩
        |true =>
         have A:=W.out l.uses 1000 w2;rw [hw1] at A;replace A:=Aa A;go_wp2_with fail;refine (A.out).mono ?_;rintro e w9 ⟨rfl,hw9⟩;rw [hw9];clear hw9 w9;clear A;cases hw2:CH.within l.start 144001439 with
         |false =>have A:=W.out l.start 144001439 w2;rw [hw2] at A;replace A:=Aa A;clear W;go_wp2_with fail;refine (A.out).mono ?_;rintro e w9 ⟨rfl,hw9⟩;rw [hw9];clear hw9 w9;clear A;go_wp2;go_ret;exact⟨by rw [<- hr.out];simp [aP,hi,HL.out,hw0,hw1,hw2],hB2⟩
         |true =>
          have A:=W.out l.start 144001439 w2;rw [hw2] at A;replace A:=Aa A;go_wp2_with fail;refine (A.out).mono ?_;rintro e w9 ⟨rfl,hw9⟩;rw [hw9];clear hw9 w9;clear A;cases hw3:CH.within l.aB 144001439 with
          |false =>have A:=W.out l.aB 144001439 w2;rw [hw3] at A;replace A:=Aa A;clear W;go_wp2_with fail;refine (A.out).mono ?_;rintro e w9 ⟨rfl,hw9⟩;rw [hw9];clear hw9 w9;clear A;go_wp2;go_ret;exact⟨by rw [<- hr.out];simp [aP,hi,HL.out,hw0,hw1,hw2,hw3],hB2⟩
          |true =>have A:=W.out l.aB 144001439 w2;rw [hw3] at A;replace A:=Aa A;go_wp2_with fail;refine (A.out).mono ?_;rintro e w9 ⟨rfl,hw9⟩;rw [hw9];clear hw9 w9;clear A;go_wp2;go_ret;refine⟨?_,hB2⟩;rw [<- hr.out];simp [aP,hi,HL.out,hw0,hw1,hw2,hw3]
     ·have d5:ZH ((np:Int)<=(60:Int))=false:=by simp;omega
      have HL:Hid ((aY l.measures&&aY l.aK&&(ZH (0<l.measures.length)&&ZH (l.measures.length<=12)&&ZH (l.aK.length<=60)))=false):=Aa (by rw [h1,h2,hnp,Aq h5];simp);go_wp2_with fail;cases hi:CH.isName l.id with
      |false =>have A:=A3.out w2;rw [hi] at A;replace A:=Aa A;clear A3 W;refine (A.out).mono ?_;rintro e w9 ⟨rfl,hw9⟩;rw [hw9];clear hw9 w9;clear A;go_wp2;go_ret;exact⟨by rw [<- hr.out];simp [aP,hi],hB2⟩
      |true =>have A:=A3.out w2;rw [hi] at A;replace A:=Aa A;clear A3;refine (A.out).mono ?_;rintro e w9 ⟨rfl,hw9⟩;rw [hw9];clear hw9 w9;clear A;clear W;go_wp2;go_ret;exact⟨by rw [<- hr.out];simp [aP,hi,HL.out],hB2⟩
    ·have d4:ZH ((nm:Int)<=(12:Int))=false:=by simp;omega
     have HL:Hid ((aY l.measures&&aY l.aK&&(ZH (0<l.measures.length)&&ZH (l.measures.length<=12)&&ZH (l.aK.length<=60)))=false):=Aa (by rw [h1,h2,hnm,Aq h4];simp);go_wp2_with fail;cases hi:CH.isName l.id with
     |false =>have A:=A3.out w2;rw [hi] at A;replace A:=Aa A;clear A3 W;refine (A.out).mono ?_;rintro e w9 ⟨rfl,hw9⟩;rw [hw9];clear hw9 w9;clear A;go_wp2;go_ret;exact⟨by rw [<- hr.out];simp [aP,hi],hB2⟩
     |true =>have A:=A3.out w2;rw [hi] at A;replace A:=Aa A;clear A3;refine (A.out).mono ?_;rintro e w9 ⟨rfl,hw9⟩;rw [hw9];clear hw9 w9;clear A;clear W;go_wp2;go_ret;exact⟨by rw [<- hr.out];simp [aP,hi,HL.out],hB2⟩
   ·have d3:ZH ((0:Int)<(nm:Int))=false:=by simp;omega
    have HL:Hid ((aY l.measures&&aY l.aK&&(ZH (0<l.measures.length)&&ZH (l.measures.length<=12)&&ZH (l.aK.length<=60)))=false):=Aa (by rw [h1,h2,hnm,Aq h3];simp);go_wp2_with fail;cases hi:CH.isName l.id with
    |false =>have A:=A3.out w2;rw [hi] at A;replace A:=Aa A;clear A3 W;refine (A.out).mono ?_;rintro e w9 ⟨rfl,hw9⟩;rw [hw9];clear hw9 w9;clear A;go_wp2;go_ret;exact⟨by rw [<- hr.out];simp [aP,hi],hB2⟩
    |true =>have A:=A3.out w2;rw [hi] at A;replace A:=Aa A;clear A3;refine (A.out).mono ?_;rintro e w9 ⟨rfl,hw9⟩;rw [hw9];clear hw9 w9;clear A;clear W;go_wp2;go_ret;exact⟨by rw [<- hr.out];simp [aP,hi,HL.out],hB2⟩
end
end Go.Proofs.YthapckjpmkkkpaaGreatDoor
