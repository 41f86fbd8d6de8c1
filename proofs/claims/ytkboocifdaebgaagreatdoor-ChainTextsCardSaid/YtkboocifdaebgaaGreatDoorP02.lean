/- ChainTexts, part 3 of 31. -/
import Derived.Test.YtkboocifdaebgaaGreatDoorP01
import Derived.Shelf.Strings.SlTrimAscii
import Derived.WalkSpells
import Derived.WalkLawsBesides
import Derived.Lib.AppendIntMem
import Derived.Lib.ItoaLen
import Derived.Laws.EntriesVeiled
set_option linter.all false
set_option maxHeartbeats 40000000
set_option maxRecDepth 100000
open Go renaming World -> ZB, Value -> ZC, Calls -> ZE, TypeId -> ZJ
open Go.RowKit renaming intOf -> ZG
open Decidable renaming decide -> ZH
open Go.Lib renaming itoa -> ZK, byteCells -> ZL
namespace Go.Proofs.Y
section
open Go.Lib Go.Proofs.Tryz Go.RowKit Go.Shelf CH
variable {w:ZB} {ls:List Q00}
theorem Ab {g:Nat} {cs:Array ZC} {t:ZJ} {fr:Nat × Nat} (h:w.heap[g]?=some (.cells cs t fr)) (o:Nat):w.cell? ⟨g,o,none⟩=cs[o]?:=by simp [World.cell?,h]
theorem Ao {g:Nat} {cs:Array ZC} {t:ZJ} (h:w.heap[g]?=some (.cells cs t (0,0))) (o:Nat):w.frozen? ⟨g,o,none⟩=false:=by simp [World.frozen?,h]
theorem Al (w:ZB) (g o:Nat) (v:ZC) (cs:Array ZC) (t:ZJ) (fr:Nat × Nat) (hg:w.heap[g]?=some (.cells cs t fr)) : (w.setCell ⟨g,o,none⟩ v).heap[g]?=some (.cells (cs.setIfInBounds o v) t fr):=by
 have hlt:g<w.heap.size:=(aZ hg)
 simp only [World.setCell];rw [Fp,Ah rfl,hg];rfl
theorem Yw {k:IntKind} {a b:Int} (h:a=b):Ending.returned (.int k a)=.returned (.int k b):=by rw [h]
theorem Yk {P:Program} (w:ZB) (dT sT ty elem:ZJ) (g o dLen dCap:Nat) (s:ByteArray) (cur:Array ZC) (t:ZJ) (cs:List ZC) (hu:P.underlying dT=some (.slice elem)) (hs:(P.info? elem).map (·.size)=some 1) (hg:w.heap[g]?=some (.cells cur t (0,0))) (hcs:cs=((s.extract 0 (Nat.min s.size dLen)).data.map fun b=>Value.int .u8 b.toNat).toList) (hfit:o+cs.length<=cur.size) : (Builtin.copy_ #[dT,sT] ty #[.slice (some ⟨g,o,none⟩) dLen dCap,.string s]).run P w = .ok (goInt (Nat.min s.size dLen)) (w.setRow g (cur.toList.take o++cs++cur.toList.drop (o+cs.length)).toArray):=by
 have h1:∀ v∈cs,v.oneCell'=true:=by subst hcs;intro v hv;rw [Array.toList_map] at hv;obtain⟨b,_,rfl⟩:=Ew.1 hv;rfl
 have hst:=run_storeCells_at P g o t cs 0 cur w hg (by simpa using hfit) h1;cases hq:P.info? elem with
 |none=>simp [hq] at hs
 |some i =>
  have hi:i.size=1:=by simpa [hq] using hs
  rw [hcs] at hst;simp [Builtin.copy_,Dv hu,Builtin.lenOf,Builtin.firstCells,sizeOf,typeInfo,hq];simp at hst;simp [hst,hcs]
structure Gl (w:ZB):Prop where
 size:10+1<=w.heap.size
 db:w.cell? ⟨9,15,none⟩=some (.int .u8 4)
 pow10:Lib.TabIs prog w "internal/strconv.uint64pow10" .u64 Lib.pow10Tab
 utf8:Lib.Utf8Tabs 6 7 w
theorem Gl.below {w':ZB} (h:Gl w) (hb:Below w w w'):Gl w' where
 size:=Aj h.size hb.size
 db:=(hb.cell (Af dC h.size)).trans h.db
 pow10:=var?_below hb kR (g:=5) (Af dC h.size) h.pow10
 utf8:=⟨fun c hc=>(hb.cell (p:=⟨_,c,none⟩) (Af sM h.size)).trans (h.utf8.1 c hc),fun i hi=>⟨(hb.cell (p:=⟨_,2*i,none⟩) (Af sM h.size)).trans (h.utf8.2 i hi).1,(hb.cell (p:=⟨_,2*i+1,none⟩) (Af sM h.size)).trans (h.utf8.2 i hi).2⟩⟩
def Ret (w:ZB) (v:ZC) (e:Ending) (w':ZB):Prop:=e=.returned v/\Below w w w'
def Strs (B:Nat) (w:ZB) (v:ZC) (ls:List Q00):Prop := ∃ a cap,v=.slice a ls.length cap/\ls.length<=cap/\cap<=9223372036854775807 /\ (ls≠[]->∃ b off,a=some ⟨b,off,none⟩/\b<B/\∀ j l,ls[j]?=some l->w.cell? ⟨b,off+j,none⟩=some (.string ⟨l.toArray⟩))
theorem Strs.below {B B':Nat} {w':ZB} {v:ZC} (h:Strs B w v ls) (hb:Below B' w w') (hB:B<=B'):Strs B w' v ls:=by exact FD47
theorem Strs.mono {B B':Nat} {v:ZC} (h:Strs B w v ls) (hB:B<=B'):Strs B' w v ls:=by exact FD75
theorem Fc (B b:Nat) (bs:List ZC) (s:ByteArray) (w:ZB) (h:Lib.IsBuilder 120 5 B b bs w) (hlen:bs.length+s.size<=140737488355328) (hBw:B<=w.heap.size) : ZE prog 54 #[.pointer (some ⟨b,0,none⟩),.string s] w fun e w'=>e=.returned (.tuple #[↑s.size,.nilIface])/\(Lib.BuilderAt 120 5 B b (.pointer (some ⟨b,0,none⟩)) (bs++Lib.strCells s) w'/\Below B w w') := Any.Builder_WriteString (P:=prog) (ρ:=Tryz.lays105_ren) { lays105 with } Tryz.Builder_Extra_105 B b bs s w h hlen hBw
theorem Vl (B b:Nat) (bs:List ZC) (c:Int) (w:ZB) (h:Lib.IsBuilder 120 5 B b bs w) (hlen:bs.length+1<=140737488355328) (hBw:B<=w.heap.size) : ZE prog 148 #[.pointer (some ⟨b,0,none⟩),.int .u8 c] w fun e w'=>e=.returned .nilIface/\(Lib.BuilderAt 120 5 B b (.pointer (some ⟨b,0,none⟩)) (bs++[.int .u8 c]) w'/\Below B w w') := Any.Builder_WriteByte (P:=prog) (ρ:=Tryz.lays159_ren) { lays159 with } Tryz.jR B b bs c w h hlen hBw
theorem Hm {w':ZB} {base:Nat} {e:ZJ} {size:Nat} {v:ZC} {n:Nat} {xs:List ZC} (h:w.ownsRow base e size v n xs) (hb:Below w w w'):w'.ownsRow base e size v n xs := h.kept ⟨hb.os,hb.tape,hb.output,hb.size,fun k hk _=>hb.block k hk⟩ (row:=none) (by cases v.ownBlock <;> simp)
theorem Dr {T e:ZJ} {B b:Nat} {bs:List ZC} {w':ZB} (h:Lib.IsBuilder T e B b bs w) (hb:Below w w w'):Lib.IsBuilder T e B b bs w':=by
 have key:∀ p,Lib.BuilderAt T e B b p bs w->Lib.BuilderAt T e B b p bs w':=fun p hp=>by have hlt:=hp.lt;obtain⟨h1,v,h2,h3,h4⟩:=hp;exact⟨h1,v,(hb.block b hlt).trans h2,Hm h3 hb,h4⟩
 rcases h with h|h;·exact .inl (key _ h)
 ·exact .inr (key _ h)
theorem Hd (n:Int) (w:ZB) (h0:-9223372036854775808<=n) (h1:n<=9223372036854775807) (hG:Gl w) : ZE prog 58 #[↑n] w (Ret w (.string ⟨(ZK n).toArray⟩)) := (Tryz.strconv_Itoa n h0 h1 w hG.pow10).mono fun e w' ⟨he,k,os,hw⟩=>⟨he,by rw [hw];exact below_grow _ _ nR _ _⟩
end
section
open Go.Proofs.Tryz Go.RowKit CH
variable {n k q m g:Nat} {cs:Array ZC}
theorem NC (w:ZB) (hc:w.cell? ⟨9,15,none⟩=some (.int .u8 4)) : ZE prog 268 #[.int .u64 16] w fun e w'=>e=.returned (.int .i64 4)/\w=w':=by have e1:IntKind.u64.wrap (bits BinOp.and IntKind.u64 16 (IntKind.u64.wrap (-16))*285870213051353865) / 288230376151711744=15:=nah;exact FD32
theorem Hb4 (q:Nat) (h:q<16):((ByteArray.mk #[48,49,50,51,52,53,54,55,56,57,97,98,99,100,101,102,103,104,105,106,107,108,109,110,111,112,113,114,115,116,117,118,119,120,121,122])[q]'(Af h dC))=CH.hexDigit q:=by rcases q with _|_|_|_|_|_|_|_|_|_|_|_|_|_|_|_|q;all_goals first|rfl|omega
theorem Pdq (w:ZB):ZE prog 267 #[.int .i64 16] w fun e w'=>e=.returned (.bool true)/\w=w':=by have e1:bits BinOp.and IntKind.i64 16 15=0:=nah;exact FD32
def Rec (n:Nat) (w:ZB) (e:Ending) (w':ZB):Prop := ∃ d:Nat,1<=d/\d<=16/\n<16 ^ d/\e=.returned (.tuple #[.slice none 0 0,.string ⟨(iy d n).toArray⟩])/\Below w w w'
structure jW (n k q m:Nat) (cs:Array ZC) (wr:ZB) (g:Nat):Prop where
 yc:q=n / 16 ^ k
 mkk:m+k=65
 pos:k=0\/16 ^ k<=n
 size:cs.size=65
 tail:cs.toList.drop m=(iy k n).map (fun b=>Value.int .u8 (b.toNat:Int))
 heap:wr.heap[g]?=some (.cells cs 343 (0,0))
theorem Cbv {α:Type} (l:List α) (m:Nat) (v:α) (hm:1<=m) (h:m<=l.length):(l.set (m - 1) v).drop (m - 1)=v::l.drop m:=by
 obtain⟨j,rfl⟩:∃ j,m=j+1:=⟨m - 1,oM⟩
 rw [Nat.add_sub_cancel,Ei naf];simp [List.drop_set]
theorem jW.put {wr:ZB} (h:jW n k q m cs wr g) (hm:1<=m) : (cs.setIfInBounds (m - 1) (Value.int .u8 ((CH.hexDigit (q % 16)).toNat:Int))).toList.drop (m - 1)=(iy (k+1) n).map (fun b=>Value.int .u8 (b.toNat:Int)):=by have hs:=h.size;rw [Array.toList_setIfInBounds,Cbv _ _ _ hm (by rw [I8,hs];have:=h.mkk;omega),h.tail,sK,h.yc];rfl
theorem jW.small {wr:ZB} (h:jW n k q m cs wr g) (hq:1<=q) (hn:n<18446744073709551616):k<=15:=by
 have e:=h.yc;have h1:16 ^ k<=n:=by
  rcases J8 n (16 ^ k) with hlt|hge;·rw [Nv hlt] at e;omega
  ·exact hge
 exact FD96
theorem jW.NK {wr:ZB} (h:jW n k q m cs wr g) (hn:n<18446744073709551616):k<=15:=by
 rcases h.pos with h1|h1;·omega
 ·exact FD96
theorem jW.step {wr:ZB} (h:jW n k q m cs wr g) (hq:16<=q) (hm:1<=m) :
  jW n (k+1) (q / 16) (m - 1) (cs.setIfInBounds (m - 1) (Value.int .u8 ((CH.hexDigit (q % 16)).toNat:Int))) (wr.setCell ⟨g,m - 1,none⟩ (Value.int .u8 ((CH.hexDigit (q % 16)).toNat:Int))) g where
 yc:=by rw [h.yc,Nat.div_div_eq_div_mul,<- Jh]
 mkk:=by have:=h.mkk;omega
 pos:=by
  right
  have e:=h.yc
  rw [e] at hq
  rw [Jh]
  have:=(Nat.le_div_iff_mul_le (Nat.pow_pos (dC:0<16))).1 hq
  rwa [Nh] at this
 size:=by simp [h.size]
 tail:=h.put hm
 heap:=Al _ _ _ _ _ _ _ h.heap
theorem Cal (n:Nat) (w:ZB) (hn:n<18446744073709551616) (hg5:9<w.heap.size) (hc:w.cell? ⟨9,15,none⟩=some (.int .u8 4)) : ZE prog 222 #[.slice none 0 0,.int .u64 n,.int .i64 16,.bool false,.bool false] w (Rec n w):=by
 go_in;go_wp2_with fail;refine (Pdq _).mono ?_;rintro e w' ⟨rfl,rfl⟩;go_wp2_with fail;refine (NC _ (by rw [G9 _ _ _ hg5];exact hc)).mono ?_;rintro e w' ⟨rfl,rfl⟩;go_wp2_with fail;go_loopw [1,13] (fun u i wr=>∃ (k q m:Nat) (cs:Array ZC),u=.int .u64 q/\i=↑m/\q<18446744073709551616/\49<=m/\m<=65/\(k=0\/m<65)/\jW n k q m cs wr w.heap.size/\Below w w wr) (fun u _ _=>(ZG u).toNat);case atStart=>exact⟨0,n,65,Tryz.zeroCells343,rfl,rfl,hn,oM,oM,.inl rfl,⟨sM,rfl,.inl rfl,kR,kR,Array.getElem?_push_size⟩,(Ac _ _).alloc nR _⟩
 case round =>
  obtain⟨k,q,m,cs,rfl,rfl,hq,hm1,hm2,hk0,hinv,hb⟩:=hrel;by_cases hlt:16<=q
  ·have hcell:wr.cell? ⟨w,m - 1,none⟩=cs[m - 1]?:=by simp [World.cell?,hinv.heap]
   have hsz:=hinv.size;obtain⟨old,hold⟩:∃ old,cs[m - 1]?=some old:=⟨_,Eo oM⟩
   rw [hold] at hcell;clear hold hsz;have hfr:wr.frozen? ⟨w,m - 1,none⟩=false:=by simp [World.frozen?,hinv.heap]
   have HI:=Aa hinv;clear hinv;have hand:bits BinOp.and IntKind.u64 (q:Int) 15=((q % 16:Nat):Int):=by rw [show (15:Int)=((15:Nat):Int) from rfl,bits_and_u64_nat _ _ hq dC,nat_mask4]
   have hlo:(0:Int)<=((q % 16:Nat):Int):=oM;have hhi:((q % 16:Nat):Int)<36:=oM;go_wp2;have hk:=HI.out.small oM hn;have hmk:=HI.out.mkk;have hst:=HI.out.step hlt oM;rw [Hb4 _ (Ls _ dC)];refine⟨⟨k+1,q / 16,m - 1,_,by go_num,by go_num,oM,?_,oM,.inr oM,hst,hb.setCell nR _⟩,?_⟩
   ·rcases J8 k 15 with h|h;·omega
    ·have:=hst.small oM hn;omega
   ·simp [ZG];omega
  ·obtain⟨j,rfl⟩:∃ j,m=j+1:=⟨m - 1,oM⟩
   have hput:=hinv.put oM;have hmk:=hinv.mkk;have hqe:=hinv.yc;rw [Nat.add_sub_cancel,Oo oM] at hput;have hcell:wr.cell? ⟨w,j,none⟩=cs[j]?:=by simp [World.cell?,hinv.heap]
   have hsz:=hinv.size;obtain⟨old,hold⟩:∃ old,cs[j]?=some old:=⟨_,Eo oM⟩
   rw [hold] at hcell;have hfr:wr.frozen? ⟨w,j,none⟩=false:=by simp [World.frozen?,hinv.heap]
   have hheap:=Al wr w j (Value.int .u8 ((CH.hexDigit q).toNat:Int)) _ _ _ hinv.heap;have hjk:iy (k+1) n=iy (65 - j) n:=by congr 1;omega
   have hcv:=run_convert_bytes_back (P:=prog) (wr.setCell ⟨w,j,none⟩ (Value.int .u8 ((CH.hexDigit q).toNat:Int))) 118 9 5 ⟨w,j,none⟩ (65 - j) (iy (65 - j) n) underlying118 underlying5 underlying9 (fun i hi=>by
    have hi':i<(iy (k+1) n).length:=by rw [hjk];exact hi
    have hge:(iy (65 - j) n)[i]=(iy (k+1) n)[i]:=by simp only [hjk]
    rw [hge];have h1:(cs.setIfInBounds j (Value.int .u8 ((CH.hexDigit q).toNat:Int))).toList[j+i]?=some (Value.int .u8 (((iy (k+1) n)[i]).toNat:Int)):=by rw [<- Ht,hput];simp [hi']
    rw [show (⟨w,j,none⟩:Addr).add i=⟨w,j+i,none⟩ from by simp [Addr.add],Ab hheap];rw [<- Jv];exact h1)
   rw [lK] at hcv;have hn':n<16 ^ (65 - j):=by rw [show 65 - j=k+1 from by omega,Jh];have:=(Nat.div_lt_iff_lt_mul (Nat.pow_pos (dC:0<16))).1 (show n / 16 ^ k<16 by rw [<- hqe];omega);rwa [Nh] at this
   have UE:k<=15:=hinv.NK hn;have OM:q<16:=oM;have hdig:=Hb4 q OM;have HN:=Aa hn';clear hinv hput hold hsz hheap hjk hqe hn';have hhi:(q:Int)<36:=oM;have hj1:(0:Int)<=(j:Int):=oM;have hj2:(j:Int)<=65:=oM;have hj3:¬ (65=j):=oM;go_wp2;go_ret2;exact⟨65 - j,oM,oM,HN.out,rfl,hb.setCell nR _⟩
theorem B7d (n:Nat) (w:ZB) (hn:n<18446744073709551616) (hg5:9<w.heap.size) (hc:w.cell? ⟨9,15,none⟩=some (.int .u8 4)) : ZE prog 92 #[.int .u64 n,.int .i64 16] w fun e w' => ∃ d:Nat,1<=d/\d<=16/\n<16 ^ d/\e=.returned (.string ⟨(iy d n).toArray⟩)/\Below w w w':=by
 go_in;go_wp2_with (first|(go_at_call 222;refine (Cal n _ hn hg5 hc).mono ?_;rintro e w' ⟨d,h1,h2,h3,rfl,hb⟩)|go_in)
 go_ret;exact⟨d,h1,h2,h3,rfl,hb⟩
end
section
open Go.Lib Go.Proofs.Tryz Go.RowKit CH
variable {base:Nat} {w:ZB} {ls:List Q00}
theorem Rr (X b:Nat) (hX:X<72057594037927936) (hb:b<256):bits .or .u64 (IntKind.u64.wrap ((X:Int)*256)) (IntKind.u64.wrap (b:Int))=((X*256+b:Nat):Int):=by
 have e1:IntKind.u64.wrap ((X:Int)*256)=((X*256:Nat):Int):=by rw [Jo];omega
 have e2:IntKind.u64.wrap (b:Int)=(b:Int):=by rw [Jo];omega
 rw [e1,e2,bits_or_u64_nat _ _ oM oM,nat_join 8 (X*256) b oM oM]
theorem Ggq (s n M:Nat) (hs:s<18446744073709551616) (hn:n<18446744073709551616):IntKind.u64.wrap (bits .xor .u64 (s:Int) (n:Int)*(M:Int))=(((s ^^^ n)*M % 18446744073709551616:Nat):Int):=by rw [bits_xor_u64_nat _ _ hs hn,Jo];omega
theorem Pep (b:Nat) (hb:b<256):bits .or .u64 0 (IntKind.u64.wrap (b:Int))=(b:Int):=by
 have:=Rr 0 b dC hb;have e0:IntKind.u64.wrap (((0:Nat):Int)*256)=0:=by rw [Jo];rfl
 rw [e0] at this;exact FD86
theorem Net (b0 b1 b2 b3 b4 b5 b6 b7:UInt8) : bits .or .u64 (IntKind.u64.wrap (bits .or .u64 (IntKind.u64.wrap (bits .or .u64 (IntKind.u64.wrap (bits .or .u64 (IntKind.u64.wrap (bits .or .u64 (IntKind.u64.wrap (bits .or .u64 (IntKind.u64.wrap (bits .or .u64 (IntKind.u64.wrap (bits .or .u64 0 (IntKind.u64.wrap (b0.toNat:Int))*256)) (IntKind.u64.wrap (b1.toNat:Int))*256)) (IntKind.u64.wrap (b2.toNat:Int))*256)) (IntKind.u64.wrap (b3.toNat:Int))*256)) (IntKind.u64.wrap (b4.toNat:Int))*256)) (IntKind.u64.wrap (b5.toNat:Int))*256)) (IntKind.u64.wrap (b6.toNat:Int))*256)) (IntKind.u64.wrap (b7.toNat:Int))=((be8 [b0,b1,b2,b3,b4,b5,b6,b7]:Nat):Int):=by have h0:=u8_lt b0;have h1:=u8_lt b1;have h2:=u8_lt b2;have h3:=u8_lt b3;have h4:=u8_lt b4;have h5:=u8_lt b5;have h6:=u8_lt b6;have h7:=u8_lt b7;rw [Pep _ h0,Rr _ _ oM h1,Rr _ _ oM h2,Rr _ _ oM h3,Rr _ _ oM h4,Rr _ _ oM h5,Rr _ _ oM h6,Rr _ _ oM h7];rfl
theorem Mpy (s n:Nat) (hs:s<18446744073709551616) (hn:n<18446744073709551616) : bits .xor .u64 (IntKind.u64.wrap (bits .xor .u64 (IntKind.u64.wrap (bits .xor .u64 (s:Int) (n:Int)*2862933555777941757)) (IntKind.u64.wrap (bits .xor .u64 (s:Int) (n:Int)*2862933555777941757) / 4294967296)*3935559000370003845)) (IntKind.u64.wrap (bits .xor .u64 (IntKind.u64.wrap (bits .xor .u64 (s:Int) (n:Int)*2862933555777941757)) (IntKind.u64.wrap (bits .xor .u64 (s:Int) (n:Int)*2862933555777941757) / 4294967296)*3935559000370003845) / 536870912)=((CH.mix s n:Nat):Int):=by have e1:=Ggq s n 2862933555777941757 hs hn;rw [show ((2862933555777941757:Nat):Int)=2862933555777941757 from rfl] at e1;rw [e1];have hx:=zS s n;unfold CH.mix;rw [show (s ^^^ n)*2862933555777941757 % 18446744073709551616=CH.mix1 s n from rfl];generalize CH.mix1 s n=x at hx;have e2:((x:Int) / 4294967296)=((x / 4294967296:Nat):Int):=oM;rw [e2];have e3:=Ggq x (x / 4294967296) 3935559000370003845 hx oM;rw [show ((3935559000370003845:Nat):Int)=3935559000370003845 from rfl] at e3;rw [e3];have hy:=tJ x;rw [show (x ^^^ x / 4294967296)*3935559000370003845 % 18446744073709551616=CH.mix2 x from rfl];generalize CH.mix2 x=y at hy;have e4:((y:Int) / 536870912)=((y / 536870912:Nat):Int):=oM;rw [e4,bits_xor_u64_nat _ _ hy oM];rfl
theorem Mac (b0 b1 b2 b3 b4 b5 b6 b7:UInt8) (s B:Nat) (w:ZB) (hB:B<w.heap.size) (hs:s<18446744073709551616) (hc:w.cell? ⟨B,0,none⟩=some (.int .u64 s)) (hf:w.frozen? ⟨B,0,none⟩=false) : ZE prog 91 #[.pointer (some ⟨B,0,none⟩),.agg #[.int .u8 b0.toNat,.int .u8 b1.toNat,.int .u8 b2.toNat,.int .u8 b3.toNat,.int .u8 b4.toNat,.int .u8 b5.toNat,.int .u8 b6.toNat,.int .u8 b7.toNat]] w fun e w' => e=.returned (.tuple #[])/\Below B w w'/\w'.cell? ⟨B,0,none⟩=some (.int .u64 (CH.mix s (be8 [b0,b1,b2,b3,b4,b5,b6,b7]):Nat))/\w'.frozen? ⟨B,0,none⟩=false:=by
 go_in;go_wp2;refine wp_loop_rounds 9 ?_;iterate 9 (try rw [rounds_succ];go_wp2)
 go_end0;rw [Net,Mpy _ _ hs (FV _)];refine⟨rfl,((Ac B w).setCell nR _).alloc naf _,?_,?_⟩;·rw [G9 _ _ _ (by simpa using hB)];exact J3 _ _ _ (by rw [hc];rfl)
 ·rw [Jg _ _ _ (by simpa using hB),Jt];exact hf
theorem NH {α:Type} (f:UInt8->α) (l:Q00) : (l.take 8).map f++([f 0,f 0,f 0,f 0,f 0,f 0,f 0,f 0].drop (min l.length 8))=[f (l.getD 0 0),f (l.getD 1 0),f (l.getD 2 0),f (l.getD 3 0),f (l.getD 4 0),f (l.getD 5 0),f (l.getD 6 0),f (l.getD 7 0)]:=by rcases l with _|⟨a,_|⟨b,_|⟨c,_|⟨d,_|⟨e,_|⟨g,_|⟨h,_|⟨i,l⟩⟩⟩⟩⟩⟩⟩⟩ <;> simp
theorem LY (text:Q00) (a:Nat) (W:ZB) (ty:ZJ) : (Builtin.copy_ #[118,9] ty #[.slice (some ⟨W,0,none⟩) 8 8,.string ((ByteArray.mk text.toArray).extract a text.length)]).run prog (W.alloc (.cells #[.int .u8 0,.int .u8 0,.int .u8 0,.int .u8 0,.int .u8 0,.int .u8 0,.int .u8 0,.int .u8 0] 225)).drew = .ok (goInt (Nat.min (text.length - a) 8)) ((W.alloc (.cells #[.int .u8 ((text.drop a).getD 0 0).toNat,.int .u8 ((text.drop a).getD 1 0).toNat,.int .u8 ((text.drop a).getD 2 0).toNat,.int .u8 ((text.drop a).getD 3 0).toNat,.int .u8 ((text.drop a).getD 4 0).toNat,.int .u8 ((text.drop a).getD 5 0).toNat,.int .u8 ((text.drop a).getD 6 0).toNat,.int .u8 ((text.drop a).getD 7 0).toNat] 225)).drew):=by
 rw [J5];have hl:(List.take (text.length - a) (List.drop a text))=text.drop a:=Dz sM;rw [hl];generalize hX:text.drop a=X;have hXl:X.length=text.length - a:=by rw [<- hX];simp
 have hg:((W.alloc (.cells #[.int .u8 0,.int .u8 0,.int .u8 0,.int .u8 0,.int .u8 0,.int .u8 0,.int .u8 0,.int .u8 0] 225)).drew).heap[W.heap.size]?=some (.cells #[.int .u8 0,.int .u8 0,.int .u8 0,.int .u8 0,.int .u8 0,.int .u8 0,.int .u8 0,.int .u8 0] 225 (0,0)):=by show (W.heap.push _)[W.heap.size]?=_;simp
 have hcs:(X.take 8).map (fun b=>Value.int .u8 (b.toNat:Int))=(((ByteArray.mk X.toArray).extract 0 (Nat.min (ByteArray.mk X.toArray).size 8)).data.map fun b=>Value.int .u8 b.toNat).toList:=by rw [J5];simp [ByteArray.size];exact Nat.min_comm _ _
 rw [Yk _ _ _ _ _ W 0 8 8 _ _ _ _ underlying118 kR hg hcs naf,<- hXl];have e:=NH (fun b=>Value.int .u8 (b.toNat:Int)) X;have hsz:(ByteArray.mk X.toArray).size=X.length:=by simp [ByteArray.size]
 rw [hsz];have e':(List.take 0 (#[Value.int .u8 0,.int .u8 0,.int .u8 0,.int .u8 0,.int .u8 0,.int .u8 0,.int .u8 0,.int .u8 0]:Array ZC).toList++(X.take 8).map (fun b=>Value.int .u8 (b.toNat:Int))++List.drop (0+((X.take 8).map (fun b=>Value.int .u8 (b.toNat:Int))).length) (#[Value.int .u8 0,.int .u8 0,.int .u8 0,.int .u8 0,.int .u8 0,.int .u8 0,.int .u8 0,.int .u8 0]:Array ZC).toList)
   = [.int .u8 (X.getD 0 0).toNat,.int .u8 (X.getD 1 0).toNat,.int .u8 (X.getD 2 0).toNat,.int .u8 (X.getD 3 0).toNat,.int .u8 (X.getD 4 0).toNat,.int .u8 (X.getD 5 0).toNat,.int .u8 (X.getD 6 0).toNat,.int .u8 (X.getD 7 0).toNat]:=by
  rw [<- e]
  simp only [Ic,Eu,Ce,C9,Ba,Nat.min_comm 8 X.length]
  rfl
 rw [e'];congr 1;exact congrArg World.drew (World.setRow_alloc_new W _ _ _)
theorem I26 (text:Q00) (s B:Nat) (w:ZB) (hB:B<w.heap.size) (hs:s<18446744073709551616) (hlen:text.length<=140737488355328) (hc:w.cell? ⟨B,0,none⟩=some (.int .u64 s)) (hf:w.frozen? ⟨B,0,none⟩=false) : ZE prog 90 #[↑text,.func (.func 91) #[.pointer (some ⟨B,0,none⟩)] #[]] w fun e w' => e=.returned (.tuple #[])/\Below B w w'/\w'.cell? ⟨B,0,none⟩=some (.int .u64 (iU (text.length / 8+1) s text:Nat))/\w'.frozen? ⟨B,0,none⟩=false:=by
 go_in;go_wp2;go_loopw [4] (fun i wr=>∃ k:Nat,i=.int .i64 (8*k:Nat)/\8*k<=text.length+8/\Below B w wr/\B<wr.heap.size/\wr.cell? ⟨B,0,none⟩=some (.int .u64 (iU k s text:Nat))/\wr.frozen? ⟨B,0,none⟩=false) (fun i _=>text.length+8 - (ZG i).toNat);case atStart=>exact⟨0,rfl,oM,Ac _ _,hB,hc,hf⟩
 case round =>
  obtain⟨k,rfl,hk,hb,hB',hc',hf'⟩:=hrel;by_cases hlt:8*k<=text.length
  ·have hcp:=LY text (8*k) wr;go_wp2;go_region;go_wp2_with fail;refine (Mac _ _ _ _ _ _ _ _ (iU k s text) B _ naf (sU k s text hs) ?_ ?_).mono ?_;·show (wr.alloc _).cell? _=_;rw [G9 _ _ _ hB'];exact hc'
   ·show (wr.alloc _).frozen? _=_;rw [Jg _ _ _ hB'];exact hf'
   rintro e w' ⟨rfl,hb1,hc1,hf1⟩;go_wp2;go_roundw;case rel =>
    refine⟨k+1,by go_num,oM,(((hb.alloc (Dy hB') _).drew).trans hb1),?_,?_,hf1⟩;·have:=hb1.size;simp at this;omega
    ·rw [hc1,oU];simp [be8]
   case measure=>simp [ZG];omega
  ·have e:text.length / 8+1=k:=oM;go_wp2;go_end0;exact⟨rfl,hb,by rw [e];exact hc',hf'⟩
theorem Bst (c:Nat):Lib.repeatL [48] c=List.replicate c 48:=by
 induction c with
 |zero=>rfl
 |succ c ih=>rw [Lib.repeatL,ih];rfl
theorem Yu (l:Q00) (w:ZB) (hG:Gl w) (hlen:l.length<=140737488355328) : ZE prog 38 #[↑l] w (Ret w (.string ⟨(CH.sum l).toArray⟩)):=by
 have hx:bits BinOp.xor IntKind.u64 2611923443488327891 (l.length:Int)=((2611923443488327891 ^^^ l.length:Nat):Int) := bits_xor_u64_nat 2611923443488327891 _ dC oM;have hs:2611923443488327891 ^^^ l.length<18446744073709551616:=uw dC oM;have hfin:∀ d,d<=16->iU (l.length / 8+1) (2611923443488327891 ^^^ l.length) l<16 ^ d->Lib.repeatL [48] (16 - d)++iy d (iU (l.length / 8+1) (2611923443488327891 ^^^ l.length) l)=CH.sum l:=fun d hd hlt=>by rw [Bst,<- yV _ _ _ hlt,Nat.sub_add_cancel hd];rfl
 generalize hS:2611923443488327891 ^^^ l.length=s at hx hs hfin;have hst:=sU (l.length / 8+1) s l hs;have HF:=Aa hfin;have hg:=hG.size;clear hS hfin;go_in;go_wp2_with fail;refine (I26 l s w _ sM hs hlen (by rw [Ci _ _ _ _ rfl];rfl) (Kv _ _ _ _ rfl)).mono ?_;rintro e w1 ⟨rfl,hb1,hc1,hf1⟩;have hb1':Below w w w1:=((Ac _ _).alloc nR _).trans hb1;have hG1:=hG.below hb1';clear hx hb1;generalize iU (l.length / 8+1) s l=n at HF hst hc1;go_wp2_with fail;refine (B7d n w1 hst (Af dC hG1.size) hG1.db).mono ?_;rintro e w2 ⟨d,hd1,hd2,hd3,rfl,hb2⟩;have hlenK:(iy d n).length=d:=lK _ _;have hfin:=HF.out d hd2 hd3;have hfl:=congrArg List.length hfin;rw [Am,hlenK,eH] at hfl;have H3:=Aa hfin;clear HF hd3 hfin;go_wp2_with fail;rw [show (16:Int) - (d:Int)=((16 - d:Nat):Int) from by omega];refine CmZ (Tryz.strings_Repeat ⟨#[48]⟩ (16 - d) w2 oM (by simp [ByteArray.size];omega)) fun w3 hb3=>?_;have fK:Below w w w3:=(hb1'.trans (hb2.mono hb1'.size)).trans (hb3.mono (Aj hb1'.size hb2.size));have hrl:(Lib.repeatL [48] (16 - d)).length<=16:=oM;generalize hR:Lib.repeatL [48] (16 - d)=R at H3 hrl;have DN:(iy d n).length<=16:=oM;generalize hK:iy d n=Kx at H3 DN;clear hb1' hb2 hb3 hG1 hc1 hf1 hfl hlenK hK hR;go_wp2;go_ret;refine⟨?_,fK⟩;rw [<- H3.out,ByteArray.mk_append_mk];rfl
theorem Pp (l:Q00) (n:Nat) (w:ZB) (hG:Gl w) (hn:n<=1000) (hlen:l.length<=140737488355328) : ZE prog 87 #[↑l,↑n] w (Ret w (.string ⟨(CH.chain n l).toArray⟩)):=by
 go_in;go_wp2_with fail;go_loopw [0,8] (fun s i wr=>∃ (k:Nat) (t:Q00),k<=n/\i=↑k/\s=↑t/\t.length<=140737488355328/\Hid (t=CH.chain k l)/\Below w w wr) (fun _ i _=>n - (ZG i).toNat);case atStart=>exact⟨0,l,Ak _,rfl,rfl,hlen,rfl,Ac _ _⟩
 case round =>
  obtain⟨k,t,hk,rfl,rfl,ht,hH,hb⟩:=hrel;by_cases hlt:k<n
  ·go_wp2_with fail;refine CmZ (Yu t _ (hG.below hb) ht) fun w1 hb1=>?_;go_wp2;go_roundw;case rel=>exact⟨k+1,CH.sum t,oM,by go_num,rfl,by rw [eH];omega,by rw [hH.out,<- jQ];exact rfl,hb.trans (hb1.mono hb.size)⟩
   case measure=>simp [ZG];omega
  ·have e:k=n:=oM;have hfin:t=CH.chain n l:=by rw [<- e];exact hH.out
   have HF:=Aa hfin;clear e hfin hH;go_wp2;go_ret;exact⟨by rw [<- HF.out];rfl,hb⟩
def Sd:Q00:=[48,49,50,51,52,53,54,55,56,57,97,98,99,100,101,102]
theorem Sj {α:Type} (p:α->Bool) (l:List α):(l.dropWhile p=[])↔∀ x∈l,p x=true:=by
 induction l with
 |nil=>simp
 |cons x r ih=>by_cases h:p x <;> simp [List.dropWhile,h,ih]
theorem Jan (l cs:Q00):Lib.trimS l cs=[]↔∀ x∈l,cs.contains x=true:=by
 have h1:Lib.trimS l cs=[]↔Lib.trimRightS l cs=[]:=by
  constructor
  ·intro h;unfold Lib.trimS Lib.trimLeftS at h;rw [Sj] at h;unfold Lib.trimRightS at h ⊢;rcases hr:l.reverse.dropWhile (cs.contains ·) with _|⟨y,ys⟩;·rfl
   ·have hy:¬ cs.contains y=true:=by have:=List.head?_dropWhile_not (cs.contains ·) l.reverse;rw [hr] at this;exact FD86
    exact (hy (h y (by rw [hr];simp))).elim
  ·intro h;unfold Lib.trimS;rw [h];rfl
 rw [h1];unfold Lib.trimRightS;rw [List.reverse_eq_nil_iff,Sj];simp
theorem Yn (c:UInt8):Sd.contains c=CH.isHex c:=by have h:∀ n:Fin 256,Sd.contains (UInt8.ofNat n.val)=CH.isHex (UInt8.ofNat n.val):=nah;have:=h ⟨c.toNat,c.toNat_lt⟩;exact FD86
theorem B11 (l:Q00):(Lib.trimS l Sd==[])=l.all CH.isHex:=by rw [Fv,Eh,Jan,Dj];simp only [Yn]
theorem Eta (l:Q00) (w:ZB) (hlen:l.length<=9223372036854775807) : ZE prog 53 #[↑l] w (Ret w (.bool (aG l))):=by
 have hfin:aG l=(l.length==16&&(Lib.trimS l Sd==[])):=by rw [B11];rfl
 rw [hfin];generalize hT:Lib.trimS l Sd=T;by_cases h16:l.length=16
 ·have hb:((l.length:Int)==16)=true:=by simp [h16]
  have hb':(l.length==16)=true:=by simp [h16]
  rw [hb'];clear hb' hfin;go_in;go_wp2_with fail;refine CmZ (Any.strings_Trim_laid lays160 kR ⟨l.toArray⟩ ⟨Sd.toArray⟩ w (by simpa [ByteArray.size] using hlen) dC (fun j b hj=>by have h:∀ x∈Sd,x.toNat<128:=dC;exact h b (Bg (by simpa using hj)))) fun w' hb1=>?_;have hT':Lib.trimS (ByteArray.mk l.toArray).data.toList (ByteArray.mk Sd.toArray).data.toList=T:=hT;rw [hT'];clear hT hT';go_wp2;go_ret;exact⟨sM,hb1⟩
 ·have hb:=nal l.length 16;have hb':(l.length==16)=false:=naf;rw [hb'];clear hb' hfin hT;go_in;go_wp2_with fail;go_ret;exact⟨sM,Ac _ _⟩
theorem Wl (v:ZC) (ls:List Q00) (w:ZB) (hG:Gl w) (hv:Strs w w v ls) (hlen:(CH.pack ZK ls).length<=140737488355328) : ZE prog 82 #[v] w (Ret w (.string ⟨(CH.sum (CH.pack ZK ls)).toArray⟩)):=by
 have hv0:=hv;obtain⟨a,cap,rfl,hl,hcap,hne⟩:=hv;have hll:ls.length<=9223372036854775807:=oM;go_in;go_wp2_with fail;go_loopw [8] (fun i wr=>∃ (k:Nat),k<=ls.length/\i=↑k/\Lib.IsBuilder 120 5 w.heap.size w (ZL (CH.pack ZK (ls.take k))) wr/\w.heap.size<wr.heap.size/\Below w w wr) (fun i _=>ls.length - (ZG i).toNat);case atStart=>exact⟨0,Ak _,rfl,Lib.fresh_isBuilder _ _ w,sM,(Ac _ _).alloc nR _⟩
 case round =>
  obtain⟨k,hk,rfl,hB,hsz,hb⟩:=hrel;by_cases hlt:k<ls.length
  ·obtain⟨b,off,rfl,hbl,kj⟩:=hne (by intro h;simp [h] at hlt);obtain⟨l,hl'⟩:∃ l,ls[k]?=some l:=⟨_,Ae hlt⟩
   have hcell:wr.cell? ⟨b,off+k,none⟩=some ↑l:=(hb.cell (p:=⟨b,off+k,none⟩) hbl).trans (kj k l hl');have hts:=aN ls k l hl';have hle:=tq ZK ls (k+1);rw [hts,sG] at hle;have hpk:CH.pack ZK (ls.take (k+1))=CH.pack ZK (ls.take k)++(ZK l.length++[58]++l):=by rw [hts,sG]
   have HP:=Aa hpk;simp only [Am,Dq] at hle;clear hts hpk kj hl';generalize CH.pack ZK (ls.take k)=Pk at HP hle hB;go_wp2_with fail;refine CmZ (Hd _ _ oM oM (hG.below hb)) fun w1 hb1=>?_;have hB1:=Dr hB hb1;have hs1:=hb1.size;go_wp2_with fail;refine (Fc _ _ _ _ _ hB1 (by simp [ZL,ByteArray.size];omega) oM).mono ?_;rintro e w2 ⟨rfl,hB2,hb2⟩;have hs2:=hb2.size;go_wp2_with fail;refine (Vl _ _ _ _ _ (.inr hB2) (by simp [ZL,Lib.strCells];omega) oM).mono ?_;rintro e w3 ⟨rfl,hB3,hb3⟩;have hs3:=hb3.size;go_wp2_with fail;refine (Fc _ _ _ _ _ (.inr hB3) (by simp [ZL,Lib.strCells,ByteArray.size];omega) oM).mono ?_;rintro e w4 ⟨rfl,hB4,hb4⟩;have hs4:=hb4.size;have hbf:Below w w w4:=(((hb.trans (hb1.mono oM)).trans hb2).trans hb3).trans hb4;have hB5:Lib.IsBuilder 120 5 w.heap.size w (ZL (CH.pack ZK (ls.take (k+1)))) w4:=by
    rw [HP.out];refine .inr ?_;have e:ZL (Pk++(ZK l.length++[58]++l))=ZL Pk++Lib.strCells ⟨(ZK l.length).toArray⟩++[Value.int .u8 58]++Lib.strCells ⟨l.toArray⟩:=by simp [ZL,Lib.strCells]
    rw [e];exact hB4
   clear hB1 hB2 hB3 hB4 hb1 hb2 hb3 hb4 hB hb HP;go_wp2;go_roundw;case rel=>exact⟨k+1,oM,by go_num,hB5,oM,hbf⟩
   case measure=>simp [ZG];omega
  ·have e:ls.take k=ls:=Dz oM;rw [e] at hB;clear e hne hv0;go_wp2_with fail;refine CmZ (Tryz.Builder_String_any _ _ _ _ hB oM) fun w1 hb1=>?_;have hb1':Below w w w1:=hb.trans hb1;go_wp2_with fail;refine CmZ (Yu _ _ (hG.below hb1') hlen) fun w2 hb2=>?_;go_wp2;go_ret;exact⟨rfl,hb1'.trans (hb2.mono hb1'.size)⟩
abbrev ay (l:Q00):ZC:=↑l
def Av (base:Nat) (w:ZB) (v:ZC) (ls:List Q00):Prop:=w.ownsRow base 9 1 v ls.length (ls.map ay)
theorem Av.nil (base:Nat) (w:ZB):Av base w (.slice none 0 0) []:=Ji w base _ _
theorem Av.below {w':ZB} {v:ZC} (h:Av base w v ls) (hb:Below w w w'):Av base w' v ls:=Hm h hb
theorem Av.strs {v:ZC} (h:Av base w v ls):Strs w w v ls:=by
 have h':=h;obtain⟨hlen,⟨rfl,h0⟩|⟨g,cap,cur,rfl,hb,hg,hn,hc,hsz,htk⟩⟩:=h;·exact⟨none,0,by rw [h0],oM,oM,fun hne=>absurd (Et.1 h0) hne⟩
 ·have hlt:g<w.heap.size:=(aZ hg)
  refine⟨_,cap,rfl,hn,by unfold maxLen at hc;omega,fun _=>⟨g,0,rfl,hlt,fun j l hj=>?_⟩⟩;have hjl:j<ls.length:=(lS hj)
  rw [Ba,Jf h' j oM];simp [hj]
theorem Ur:(prog.info? 9).map (fun i=>(i.zero,i.size,i.bytes))=some (some (.string ⟨#[]⟩),1,16):=kR
theorem Cs {ops:Array Oper} {rest:List Oper} {o:Oper} {a:Act} {Q:Exit->Act->ZB->Prop} (hgd:o.guard=none) (s x:Operand) (ho:o.op=.call { callee:=.builtin .append,args:=#[s,x],argTypes:=#[23,23] }) (base:Nat) (v:ZC) (ls:List Q00) (hs:a.eval s=v) (hown:Av base w v ls) (g c:Nat) (l:Q00) (hx:a.eval x=.slice (some ⟨g,0,none⟩) 1 c) (hcell:w.cell? ⟨g,0,none⟩=some (ay l)) (hlen:ls.length<=1099511627776) (hbase:base<=w.heap.size) (h:∀ v' w',Av base w' v' (ls++[l])->w.grownBy w' v.ownBlock->(v'.ownBlock=v.ownBlock\/v'.ownBlock=some w.heap.size)->wpList prog ops Q rest (a.put o.dst v') w') : wpList prog ops Q (o::rest) a w:=by
 obtain⟨i,hi,hz0,hz1,hz2⟩:=Jb Ur;refine wpList_append_own_at w hgd s x 23 ho base 9 i _ 1 16 underlying23 hi hz0 hz1 hz2 rfl dC v ls.length _ hs hown ⟨g,0,none⟩ 1 c [ay l] hx rfl ?_ ?_ ?_ ?_ hbase ?_;·exact FD103
 ·intro u hu;simp at hu;subst hu;rfl
 ·unfold maxLen;omega
 ·omega
 ·intro v' w' h1 h2 _ h4;exact h v' w' (by unfold Av;simpa using h1) h2 h4
theorem Av.alloc {v:ZC} (h:Av base w v ls) (o:Obj):Av base (w.alloc o) v ls:=Jj h o
theorem Av.form {v:ZC} (h:Av base w v ls):∃ a cap,v=.slice a ls.length cap/\ls.length<=cap/\cap<=9223372036854775807/\(ls≠[]->∃ g,a=some ⟨g,0,none⟩/\base<=g/\g<w.heap.size):=by
 obtain⟨hlen,⟨rfl,h0⟩|⟨g,cap,cur,rfl,hb,hg,hn,hc,hsz,htk⟩⟩:=h;·exact⟨none,0,by rw [h0],oM,oM,fun hne=>absurd (Et.1 h0) hne⟩
 ·exact⟨_,cap,rfl,hn,by unfold maxLen at hc;omega,fun _=>⟨g,rfl,hb,(Array.getElem?_eq_some_iff.1 hg).1⟩⟩
theorem U8 (n:Nat) (w:ZB) (hn:n<=2305843009213693952):ZE prog 83 #[↑n] w fun e w'=>e=.returned (.int .i64 (CH.half n))/\w=w':=by
 go_in;go_wp2;go_loop [3] (fun t=>∃ k f:Nat,t=↑k/\1<=k/\k<=2305843009213693952/\Hid (n<=k*2 ^ f/\kX f n k=CH.half n)) (fun t=>n - (ZG t).toNat);case atStart=>exact⟨1,n,rfl,oM,oM,by rw [Nat.one_mul];exact Dy Nat.lt_two_pow_self,rfl⟩
 case round =>
  obtain⟨k,f,rfl,hk,hk2,hH⟩:=hrel;by_cases hlt:2*k<n
  ·go_wp2;go_round;case rel =>
    obtain⟨h1,h2⟩:=hH.out;cases f with
    |zero=>simp at h1;omega
    |succ f =>
     refine⟨2*k,f,by go_num,oM,oM,?_,?_⟩;·rw [Jh] at h1;rw [Nh 2 k,Nat.mul_assoc,Nh 2];exact h1
     ·rw [kX,Ah hlt] at h2;exact h2
   case measure=>simp [ZG];omega
  ·go_wp2;go_ret;exact⟨Yw (by rw [<- hH.out.2,qV _ _ _ hlt]),rfl⟩
theorem Cr (w:ZB) (o:Obj):Below w w (w.alloc o):=(Ac _ _).alloc nR _
theorem Qi (ls:List Q00) (m:Nat) (h:∀ l∈ls,l.length<=m) (hm:m<=140737488355328):(CH.pack ZK ls).length<=ls.length*(m+22):=by
 induction ls with
 |nil=>simp [CH.pack]
 |cons x r ih =>have h1:=h x sM;have h2:=Lib.itoa_length_le (x.length:Int) oM oM;have h3:=ih (fun l hl=>h l (by simp [hl]));simp only [CH.pack,Am,Ap,Bf];rw [Nat.add_mul];omega
theorem Wc (w:ZB) (cs:List Q00) (t:ZJ) (h:cs.length<=1000) : Strs (w+1) (w.alloc (.cells (cs.map fun l=>Value.string ⟨l.toArray⟩).toArray t)) (.slice (some ⟨w,0,none⟩) cs.length cs.length) cs:=by refine⟨_,_,rfl,Au _,oM,fun _=>⟨_,_,rfl,oM,fun j l hj=>?_⟩⟩;rw [Ci _ _ _ _ rfl];simp [hj]
theorem Z7 (a b:Q00) (w:ZB) (hG:Gl w) (ha:a.length<=1000000) (hb:b.length<=1000000) : ZE prog 84 #[↑a,↑b] w (Ret w (.string ⟨(CH.node a b).toArray⟩)):=by
 go_in;go_wp2_with fail;refine (Wl _ [wW,a,b] _ (hG.below (Cr w _)) (by rw [Df];exact Wc w [wW,a,b] 9 sM) ?_).mono ?_;·have:=Qi [wW,a,b] 1000000 (by intro l hl;simp at hl;rcases hl with rfl|rfl|rfl;decide;exact ha;exact hb) dC;simp at this ⊢;omega
 rintro e w' ⟨rfl,hb1⟩;go_wp2;go_ret;exact⟨rfl,(Cr w _).trans (hb1.mono sM)⟩
theorem Strs.take {B:Nat} {a:Option Addr} {n cap:Nat} (h:Strs B w (.slice a n cap) ls) (k:Nat) (hk:k<=ls.length):Strs B w (.slice a k cap) (ls.take k):=by obtain⟨a',cap',hv,h1,h2,h3⟩:=h;cases hv;refine⟨a,cap,by simp [Nat.min_eq_left hk],by simp;omega,h2,fun hne=>?_⟩;obtain⟨b,off,ha,hb,hc⟩:=h3 (by rintro rfl;simp at hne);exact⟨b,off,ha,hb,fun j l hj=>hc j l (by rw [List.getElem?_take] at hj;split at hj;exact hj;cases hj)⟩
theorem Strs.drop {B:Nat} {b off n cap:Nat} (h:Strs B w (.slice (some ⟨b,off,none⟩) n cap) ls) (k:Nat) (hk:k<ls.length):Strs B w (.slice (some ⟨b,off+k,none⟩) (n - k) (cap - k)) (ls.drop k):=by obtain⟨a',cap',hv,h1,h2,h3⟩:=h;cases hv;refine⟨some ⟨b,off+k,none⟩,cap - k,sM,by simp;omega,oM,fun _=>?_⟩;obtain⟨b',off',ha,hb,hc⟩:=h3 (by rintro rfl;simp at hk);cases ha;exact⟨b,off+k,rfl,hb,fun j l hj=>by rw [Ht] at hj;rw [Lu];exact hc _ l hj⟩
theorem Zv (f:Nat):∀ (v:ZC) (ls:List Q00) (w:ZB),ls.length<f->Gl w->Strs w w v ls->ls.length<=1000000->(∀ l∈ls,l.length<=1000000) -> ZE prog 34 #[v] w (Ret w (.string ⟨(CH.root ls).toArray⟩)):=by
 induction f with
 |zero=>intro v ls w h;omega
 |succ f ih =>
  intro v ls w hf hG hv hn hl;have IH:=Aa ih;clear ih;have hv0:=hv;obtain⟨a,cap,rfl,hlc,hcap,hne⟩:=hv;by_cases h0:ls=[]
  ·subst h0;go_in;go_wp2_with fail;refine CmZ (Wl _ [vU] _ (hG.below (Cr w _)) (by rw [Df];exact Wc w [vU] 9 sM) nah) fun w' hb1=>?_;go_wp2;go_ret;exact⟨rfl,(Cr w _).trans (hb1.mono sM)⟩
  ·obtain⟨b,off,rfl,hb,hc⟩:=hne h0;by_cases h1:ls.length=1
   ·obtain⟨x,rfl⟩:=List.length_eq_one_iff.1 h1;have hcx:w.cell? ⟨b,off,none⟩=some ↑x:=hc 0 x rfl;clear hc;have hx:=hl x sM;go_in;go_wp2_with fail;refine (Wl _ [nN,x] _ (hG.below (Cr w _)) (by rw [Df];exact Wc w [nN,x] 9 sM) ?_).mono ?_;·have:=Qi [nN,x] 1000000 (by intro l hl;simp at hl;rcases hl with rfl|rfl;decide;exact hx) dC;simp at this ⊢;omega
    rintro e w' ⟨rfl,hb1⟩;go_wp2;go_ret;exact⟨rfl,(Cr w _).trans (hb1.mono sM)⟩
   ·have h2:2<=ls.length:=by cases ls with|nil=>exact absurd rfl h0|cons x r=>simp at h1 ⊢;cases r with|nil=>simp at h1|cons=>simp
    have e0:=nal ls.length 0;have e1:=nal ls.length 1;have hfin:=lG ls h2;have hk1:=jI ls.length;have hk2:=jP ls.length h2;have HF:=Aa hfin;clear hfin hne hc h0 h1;go_in;go_wp2_with fail;refine (U8 ls.length w oM).mono ?_;rintro e w' ⟨rfl,rfl⟩;generalize CH.half ls.length=k at HF hk1 hk2;have hkc:¬ (cap=k):=oM;go_wp2_with fail;have hbd:Below w w w.drew:=(Ac _ _).drew;have hSt:Strs w.drew w.drew _ _:=(hv0.take k oM).below hbd nR;have hSd:Strs w.drew w.drew _ _:=(hv0.drop k oM).below hbd nR;have HSt:=Aa hSt;have HSd:=Aa hSd;have HL:=Aa hl;have HG:=Aa (hG.below hbd);clear hSt hSd hv0 hl hG;go_region_with (first |(go_at_call 84;refine (Z7 _ _ _ ?_ (by rw [jO];decide) (by rw [jO];decide)).mono ?_;exact (HG.out.below (hb1.trans (hb2.mono hb1.size)));rintro e w3 ⟨rfl,hb3⟩) |(go_at_call_of 34 (ls.length - k);refine (IH.out _ (ls.drop k) _ naf ?_ ?_ naf (fun l hl=>HL.out l (Gf hl))).mono ?_;exact HG.out.below hb1;exact (HSd.out.below hb1 nR).mono hb1.size;rintro e w2 ⟨rfl,hb2⟩) |(go_at_call 34;refine (IH.out _ (ls.take k) _ naf ?_ ?_ naf (fun l hl=>HL.out l (Hq hl))).mono ?_;exact HG.out;exact HSt.out;rintro e w1 ⟨rfl,hb1⟩))
    all_goals go_wp2
    all_goals go_ret
    all_goals exact⟨by rw [HF.out];rfl,((hbd.trans hb1).trans (hb2.mono hb1.size)).trans (hb3.mono (Aj hb1.size hb2.size))⟩
def Num (w:ZB) (b:Bool) (e:Ending) (w':ZB):Prop:=∃ i:Int,e=.returned ↑i/\(ZH (0<=i)=b)/\Below w w w'
def rM (g:Nat) (m:Nat) (p:Q00->Bool):Prop := (∀ args w,(callFunc g args).run prog w=.ok (.enter g args) w)/\∀ l w,Gl w->l.length<=m->ZE prog g #[.string ⟨l.toArray⟩] w (Ret w (.bool (p l)))
theorem Sm {α:Type} (p:α->Bool) (ls:List α) (k:Nat) (x:α) (h:ls[k]?=some x):(ls.take (k+1)).any p=((ls.take k).any p||p x):=by rw [aN ls k x h,List.any_append];simp
theorem Glq (g m:Nat) (p:Q00->Bool) (hp:rM g m p) (v:ZC) (ls:List Q00) (w:ZB) (hG:Gl w) (hv:Strs w w v ls) (hm:∀ l∈ls,l.length<=m) : ZE prog 121 #[v,.func (.func g) #[] #[]] w (Num w (ls.any p)):=by exact FD10
theorem Wz (g m:Nat) (p:Q00->Bool) (hp:rM g m p) (v:ZC) (ls:List Q00) (w:ZB) (hG:Gl w) (hv:Strs w w v ls) (hm:∀ l∈ls,l.length<=m) : ZE prog 56 #[v,.func (.func g) #[] #[]] w (Ret w (.bool (ls.any p))):=by have hI:=Glq g m p hp v ls w hG hv hm;exact FD60
theorem Got (g m:Nat) (p:Q00->Bool) (hp:rM g m p) (v:ZC) (ls:List Q00) (w:ZB) (hG:Gl w) (hv:Strs w w v ls) (hm:∀ l∈ls,l.length<=m) : ZE prog 300 #[v,.func (.func g) #[] #[]] w (Num w (ls.any p)):=by exact FD10
theorem Aug (g m:Nat) (p:Q00->Bool) (hp:rM g m p) (v:ZC) (ls:List Q00) (w:ZB) (hG:Gl w) (hv:Strs w w v ls) (hm:∀ l∈ls,l.length<=m) : ZE prog 269 #[v,.func (.func g) #[] #[]] w (Ret w (.bool (ls.any p))):=by have hI:=Got g m p hp v ls w hG hv hm;exact FD60
theorem Ggh:rM 270 9223372036854775807 (fun l=>!aG l):=by refine⟨enters_of func270 kR rfl,fun l w hG hl=>?_⟩;exact FD49
theorem Mid:rM 158 9223372036854775807 (fun l=>!aG l):=by refine⟨enters_of func158 kR rfl,fun l w hG hl=>?_⟩;exact FD49
end
section
open Go.Lib Go.Proofs.Tryz Go.RowKit Go.Sort CH
variable {ls ls' out:List Q00} {S:Nat->Prop} {w w':ZB}
theorem Ms {B b:Nat} {w0:ZB} (hb:B<=b):∀ (vs:List ZC) (o:Nat) (w:ZB),Below B w0 w->Below B w0 (w.setCells b o vs)
 |[],_,_,h=>h
 |_::r,o,_,h=>Ms hb r (o+1) _ (h.setCell (p:=⟨b,o,none⟩) hb _)
theorem Rf (b:Nat):∀ (vs:List ZC) (o:Nat) (w:ZB),(w.setCells b o vs).heap.size=w.heap.size
 |[],_,_=>rfl
 |_::r,o,w=>by rw [World.setCells,Rf b r];simp
theorem Gb8 (base:Nat) (v:ZC) (ls:List Q00) (w:ZB) (hv:Av base w v ls) : ZE prog 152 #[v] w fun e w'=>e=.returned (.tuple #[])/\Strs w' w' v ls.reverse/\Below base w w':=by
 have hS:=hv.strs;have hown:=hv;obtain⟨a,cap,rfl,hl,hcap,hne⟩:=hv.form;by_cases h0:ls=[]
 ·subst h0;refine (Tryz.slices_Reverse_string_empty a cap w).mono ?_;rintro e w' ⟨rfl,rfl⟩;exact⟨rfl,by simpa using hS,Ac _ _⟩
 ·obtain⟨g,rfl,hb,hlt⟩:=hne h0;have hc:∀ i,i<ls.length->w.cell? ⟨g,0+i,none⟩=some (.string ⟨(ls.getD i []).toArray⟩):=fun i hi=>by obtain⟨a',cap',e,_,_,h3⟩:=hS;cases e;obtain⟨b',off',e',_,hcell⟩:=h3 h0;cases e';exact hcell i _ (by simp [hi])
  refine (Tryz.slices_Reverse_string_cells g 0 ls.length cap (fun i=>⟨(ls.getD i []).toArray⟩) w oM hc (fun j _=>by rw [Ba];exact World.ownsRow.frozenAt hown j)).mono ?_;rintro e w' ⟨rfl,q,rfl⟩;have hso:Lib.strsOf (fun i=>⟨(ls.getD i []).toArray⟩) ls.length=ls:=by
   apply Jy;intro i;unfold Lib.strsOf;by_cases hi:i<ls.length;·simp [hi]
   ·simp [hi]
  rw [hso];refine⟨rfl,?_,Ms hb _ _ _ (Go.below_drewN (Ac _ _) q)⟩;refine⟨_,cap,sM,by simpa using hl,hcap,fun _=>⟨g,0,rfl,by rw [Rf];exact hlt,fun j l hj=>?_⟩⟩;have hjl:j<ls.reverse.length:=(lS hj)
  have:=World.cell?_setCells_in g (ls.reverse.map encStr) 0 (w.drewN q) (fun i hi=>by have:=hc i (by simpa using hi);show (w.cell? ⟨g,0+i,none⟩).isSome=true;rw [this];rfl) j (by simpa using hjl);rw [this,List.getElem_map];have e2:ls.reverse[j]=l:=by rw [Ae hjl] at hj;exact Gh hj
  rw [e2]
def Zn:ZC->Nat
 |.slice _ n _=>n
 |_=>0
structure kT (ls:List Q00) (i:Nat) (ls':List Q00) (i':Nat) (out:List Q00):Prop where
 same:∃ f,ls'.length<=f/\out++iL f ls' i'=iL ls.length ls i
 sub:∀ l∈ls',l∈ls
 few:out.length+ls'.length<=ls.length
def Pre (w:ZB) (ls:List Q00) (e:Ending) (w':ZB):Prop:=∃ v,e=.returned (.tuple #[v,.int .i64 0])/\Strs w' w' v ls/\Below w w w'
theorem kT.left {i i':Nat} (h:kT ls i ls' i' out) (h2:2<=ls'.length) (hi:i'<CH.half ls'.length):kT ls i (ls'.take (CH.half ls'.length)) i' (out++[CH.root (ls'.drop (CH.half ls'.length))]):=by
 obtain⟨⟨f,hf,e⟩,hs,hw⟩:=h;have h3:=jP ls'.length h2;refine⟨?_,fun l hl=>hs l (Hq hl),by simp;omega⟩;cases f with
 |zero=>omega
 |succ f=>exact⟨f,by simp;omega,by rw [<- e,ni f ls' i' h2 hi];simp⟩
theorem kT.right {i i':Nat} (h:kT ls i ls' i' out) (h2:2<=ls'.length) (hi:¬ i'<CH.half ls'.length):kT ls i (ls'.drop (CH.half ls'.length)) (i' - CH.half ls'.length) (out++[CH.root (ls'.take (CH.half ls'.length))]):=by
 obtain⟨⟨f,hf,e⟩,hs,hw⟩:=h;have h3:=jI ls'.length;have h4:=jP ls'.length h2;refine⟨?_,fun l hl=>hs l (Gf hl),by simp;omega⟩;cases f with
 |zero=>omega
 |succ f=>exact⟨f,by simp;omega,by rw [<- e,lH f ls' i' h2 hi];simp⟩
theorem Mkb (v:ZC) (ls:List Q00) (i:Nat) (w:ZB) (hG:Gl w) (hv:Strs w w v ls) (hi:i<ls.length) (hn:ls.length<=1000000) (hl:∀ l∈ls,l.length<=1000000) : ZE prog 89 #[v,↑i] w (Pre w (CH.path ls i)):=by
 have hv0:=hv;obtain⟨a,cap,rfl,hlc,hcap,hne⟩:=hv;obtain⟨b,off,rfl,hb,hc⟩:=hne (by rintro rfl;simp at hi);have HL:=Aa hl;clear hne hc hl;have d1:ZH ((i:Int)<0)=false:=sM;have d2:=naj (ls.length<=i);go_in;go_wp2_with fail;go_loopw [0,1,6] (fun lv iv ov wr=>∃ (ls':List Q00) (i' off' cap':Nat) (out:List Q00),lv=.slice (some ⟨b,off',none⟩) ls'.length cap'/\iv=↑i'/\Strs w wr lv ls'/\i'<ls'.length/\ls'.length<=1000000/\cap'<=9223372036854775807/\ls'.length<=cap'/\Av w wr ov out/\Hid (kT ls i ls' i' out)/\Below w w wr) (fun lv _ _ _=>Zn lv);case atStart=>exact⟨ls,i,off,cap,[],rfl,rfl,hv0,hi,hn,hcap,hlc,Av.nil _ _,⟨⟨_,Au _,rfl⟩,fun _ h=>h,sM⟩,Ac _ _⟩
 case round =>
  obtain⟨ls',i',off',cap',out,rfl,rfl,hS,hi',hn',hcap',TU,hO,hI,hbw⟩:=hrel;have hG':=hG.below hbw;have hsz:=hbw.size;by_cases h2:2<=ls'.length
  ·have hgt:(1:Int)<(ls'.length:Int):=oM;have hk1:=jI ls'.length;have hk2:=jP ls'.length h2;have hfew:=hI.out.few;go_wp2_with fail;refine (U8 ls'.length wr oM).mono ?_;rintro e w' ⟨rfl,rfl⟩;by_cases hlt:i'<CH.half ls'.length
   ·have hinv:=hI.out.left h2 hlt;have hSd:=hS.drop (CH.half ls'.length) oM;have hSt:=hS.take (CH.half ls'.length) oM;have hll:(ls'.take (CH.half ls'.length)).length=CH.half ls'.length:=naf;have HI:=Aa hinv;have HSd:=Aa (hSd.mono hsz);have HSt:=Aa hSt;have HLL:=Aa hll;have hsub:∀ l∈ls'.drop (CH.half ls'.length),l.length<=1000000:=fun l hl=>HL.out l (hI.out.sub l (Gf hl));have HSU:=Aa hsub;have hdl:(ls'.drop (CH.half ls'.length)).length<ls'.length+1:=naf;have yX:(ls'.drop (CH.half ls'.length)).length<=1000000:=naf;clear hinv hSd hSt hll hsub hI hS;generalize CH.half ls'.length=k at *;generalize ls'.take k=lt at *;generalize ls'.drop k=ld at *;have hkc:¬ (cap'=k):=oM;go_wp2_with fail;refine CmZ (Zv _ _ ld wr hdl hG' HSd.out yX HSU.out) fun w1 hb1=>?_;have hO1:=(hO.below hb1).alloc (.cells #[.string ⟨(CH.root ld).toArray⟩] 9);have hs1:=hb1.size;go_wp2_with (at_builtin;refine Cs rfl _ _ rfl w _ out rfl hO1 w1 1 (CH.root ld) rfl ?c1 ?c2 ?c3 ?_)
    case c1=>rw [Ci _ _ _ _ rfl];rfl
    case c2=>omega
    case c3=>simp;omega
    intro v' w2 hO2 hg2 EU;have hbf:Below w wr w2:=((hb1.mono hsz).alloc oM _).grown hg2 naf (fun j hj=>(Ih hO1 j hj).1);have hS2:=HSt.out.below hbf nR;have EK:=hbw.trans hbf;clear hO1 hg2 EU hb1 hbf HSd HSt HSU hG' hO hdl yX;go_wp2;go_roundw;case rel=>exact⟨lt,i',off',cap',out++[CH.root ld],by rw [HLL.out],rfl,hS2,by rw [HLL.out];exact hlt,by rw [HLL.out];omega,hcap',by rw [HLL.out];omega,hO2,HI.out,EK⟩
    case measure=>simp [Zn];omega
   ·have hinv:=hI.out.right h2 hlt;have hSd:=hS.drop (CH.half ls'.length) oM;have hSt:=hS.take (CH.half ls'.length) oM;have hll:(ls'.drop (CH.half ls'.length)).length=ls'.length - CH.half ls'.length:=sM;have HI:=Aa hinv;have HSd:=Aa hSd;have HSt:=Aa (hSt.mono hsz);have HLL:=Aa hll;have hsub:∀ l∈ls'.take (CH.half ls'.length),l.length<=1000000:=fun l hl=>HL.out l (hI.out.sub l (Hq hl));have HSU:=Aa hsub;have hdl:(ls'.take (CH.half ls'.length)).length<ls'.length+1:=naf;have yX:(ls'.take (CH.half ls'.length)).length<=1000000:=naf;clear hinv hSd hSt hll hsub hI hS;generalize CH.half ls'.length=k at *;generalize ls'.take k=lt at *;generalize ls'.drop k=ld at *;have hkc:¬ (cap'=k):=oM;have hge:(k:Int)<=(i':Int):=oM;go_wp2_with fail;refine CmZ (Zv _ _ lt wr hdl hG' HSt.out yX HSU.out) fun w1 hb1=>?_;have hO1:=(hO.below hb1).alloc (.cells #[.string ⟨(CH.root lt).toArray⟩] 9);have hs1:=hb1.size;go_wp2_with (at_builtin;refine Cs rfl _ _ rfl w _ out rfl hO1 w1 1 (CH.root lt) rfl ?c1 ?c2 ?c3 ?_)
    case c1=>rw [Ci _ _ _ _ rfl];rfl
    case c2=>omega
    case c3=>simp;omega
    intro v' w2 hO2 hg2 EU;have hbf:Below w wr w2:=((hb1.mono hsz).alloc oM _).grown hg2 naf (fun j hj=>(Ih hO1 j hj).1);have hS2:=HSd.out.below hbf nR;have EK:=hbw.trans hbf;clear hO1 hg2 EU hb1 hbf HSd HSt HSU hG' hO hdl yX;go_wp2;go_roundw;case rel=>exact⟨ld,i' - k,off'+k,cap' - k,out++[CH.root lt],by rw [HLL.out],by go_num,hS2,by rw [HLL.out];omega,by rw [HLL.out];omega,oM,by rw [HLL.out];omega,hO2,HI.out,EK⟩
    case measure=>simp [Zn];omega
  ·have hle:¬ (1:Int)<(ls'.length:Int):=oM;have hfin:CH.path ls i=out.reverse:=by obtain⟨f,_,e⟩:=hI.out.same;rw [pG f ls' i' oM,Fj] at e;rw [CH.path,<- e]
   have HF:=Aa hfin;clear hfin;go_wp2_with fail;refine (Gb8 w _ out wr hO).mono ?_;rintro e w1 ⟨rfl,hS1,hb1⟩;go_wp2;go_ret2;exact⟨u6,rfl,by rw [HF.out];exact hS1,hbw.trans hb1⟩
structure aV (S:Nat->Prop) (w w':ZB):Prop where
 os:w'.os=w.os
 tape:w'.tape=w.tape
 output:w'.output=w.output
 size:w.heap.size<=w'.heap.size
 block:∀ k,k<w.heap.size->¬ S k->w'.heap[k]?=w.heap[k]?
theorem aV.refl (S:Nat->Prop) (w:ZB):aV S w w:=⟨rfl,rfl,rfl,Au _,fun _ _ _=>rfl⟩
theorem aV.trans {a b c:ZB} (h:aV S a b) (k:aV S b c):aV S a c := ⟨k.os.trans h.os,k.tape.trans h.tape,k.output.trans h.output,Aj h.size k.size,fun j hj hs=>(k.block j (Af hj h.size) hs).trans (h.block j hj hs)⟩
theorem aV.of_below (h:Below w w w'):aV S w w':=⟨h.os,h.tape,h.output,h.size,fun k hk _=>h.block k hk⟩
theorem aV.drew {a:ZB} (h:aV S a w):aV S a w.drew:=⟨h.os,h.tape,h.output,h.size,h.block⟩
theorem aV.setCell {a:ZB} (h:aV S a w) {p:Addr} (hp:S p.block) (u:ZC):aV S a (w.setCell p u) := ⟨h.os,h.tape,h.output,by simpa using h.size,fun k hk hs=>by rw [Below.heap_setCell w p u k (fun e=>hs (e ▸ hp))];exact h.block k hk hs⟩
theorem aV.cell (h:aV S w w') {p:Addr} (hp:p.block<w.heap.size) (hs:¬ S p.block):w'.cell? p=w.cell? p:=World.cell?_of_block (w:=w) (h.block p.block hp hs)
theorem aV.below {B:Nat} (h:aV S w w') (hB:B<=w.heap.size) (hS:∀ k,S k->B<=k):Below B w w' := ⟨h.os,h.tape,h.output,h.size,fun k hk=>h.block k oM (fun hs=>by have:=hS k hs;omega)⟩
structure Pf (L Pb:Nat) (w:ZB) (s:PSt):Prop where
 lt:L<Pb
 lt':Pb<w.heap.size
 l:∃ v,w.cell? ⟨L,0,none⟩=some v/\Strs L w v s.1
 p0:w.cell? ⟨Pb,0,none⟩=some (.pointer (some ⟨L,0,none⟩))
 p1:w.cell? ⟨Pb,1,none⟩=some (.bool s.2)
 fl:w.frozen? ⟨L,0,none⟩=false
 fp:w.frozen? ⟨Pb,1,none⟩=false
def Rcp (L:Nat) (w:ZB) (rest:List Q00) (e:Ending) (w':ZB):Prop := e=.returned (.string ⟨((rest.getLast?).getD []).toArray⟩)/\aV (·=L) w w'/\(∃ v,w'.cell? ⟨L,0,none⟩=some v/\Strs L w' v rest.dropLast)/\w'.frozen? ⟨L,0,none⟩=false
theorem Pea (L:Nat) (v:ZC) (rest:List Q00) (w:ZB) (hL:L<w.heap.size) (hc:w.cell? ⟨L,0,none⟩=some v) (hf:w.frozen? ⟨L,0,none⟩=false) (hv:Strs L w v rest) : ZE prog 271 #[.pointer (some ⟨L,0,none⟩)] w (Rcp L w rest):=by
 have hv0:=hv;obtain⟨a,cap,rfl,hl,hcap,hne⟩:=hv;by_cases h0:rest=[]
 ·subst h0;go_in;go_wp2;go_ret;exact⟨rfl,aV.refl _ _,⟨_,hc,hv0⟩,hf⟩
 ·obtain⟨b,off,rfl,hb,kj⟩:=hne h0;obtain⟨n,hn⟩:∃ n,rest.length=n+1:=⟨rest.length - 1,by have:=List.length_pos_iff.2 h0;omega⟩
  obtain⟨d,hd⟩:∃ d,rest.getLast?=some d:=⟨_,List.getLast?_eq_some_getLast h0⟩
  have hdn:rest[n]?=some d:=by rw [List.getLast?_eq_getElem?,hn] at hd;exact hd
  have hcd:=kj n d hdn;have hne0:((n:Int)+1==0)=false:=naf;have hi1:(0:Int)<=(n:Int):=oM;have hi2:(n:Int)<(n:Int)+1:=oM;rw [hn] at hc hl;clear hne kj;have HV:=Aa hv0;clear hv0;go_in;go_wp2;go_quiet (fail);go_wp2;go_region;go_wp2;go_ret;have hk:aV (·=L) w ((w.drewN (nq+1)).setCell ⟨L,0,none⟩ (.slice (some ⟨b,off,none⟩) n cap)) := (aV.of_below (S:=(·=L)) (Go.below_drewN (Ac _ w) _)).setCell (p:=⟨L,0,none⟩) (show L=L from rfl) _;have hdl:rest.dropLast=rest.take n:=by rw [List.dropLast_eq_take,hn];rfl
  refine⟨by rw [hd];rfl,hk,⟨_,J3 _ _ _ (by show (w.cell? _).isSome=true;rw [hc];rfl),?_⟩,by rw [Jt];exact hf⟩;rw [hdl];exact (HV.out.take n oM).below (hk.below oM (fun k e=>by omega)) nR
def I51 (L Pb:Nat) (w:ZB) (s:PSt) (e:Ending) (w':ZB):Prop := e=.returned (.string ⟨(gW s).1.toArray⟩)/\aV (fun k=>k=L\/k=Pb) w w'/\Pf L Pb w' (gW s).2
theorem Tt (s:PSt):(gW s).1=(s.1.getLast?).getD []/\(gW s).2.1=s.1.dropLast/\(gW s).2.2=(s.2||((s.1.getLast?).getD []).isEmpty):=by
 unfold gW;cases h:s.1.getLast? with
 |none =>
  have:s.1=[]:=by simpa using h
  simp [this]
 |some d=>simp
theorem Ggp (L Pb:Nat) (w:ZB) (s:PSt) (h:Pf L Pb w s) : ZE prog 228 #[.pointer (some ⟨Pb,0,none⟩)] w (I51 L Pb w s):=by
 obtain⟨hlt,hlt',⟨v,hcl,hv⟩,hp0,hp1,hfl,hfp⟩:=h;obtain⟨e1,e2,e3⟩:=Tt s;generalize hd:(s.1.getLast?).getD []=d at *;go_in;go_wp2_with fail;refine (Pea L v s.1 w oM hcl hfl hv).mono ?_;rintro e w1 ⟨rfl,hk1,⟨v1,hc1,hv1⟩,hf1⟩;rw [hd];have hs1:=hk1.size;have hp1':w1.cell? ⟨Pb,1,none⟩=some (.bool s.2):=(hk1.cell (p:=⟨Pb,1,none⟩) hlt' (fun e=>by simp at e;omega)).trans hp1;have OO:w1.cell? ⟨Pb,0,none⟩=some (.pointer (some ⟨L,0,none⟩)):=(hk1.cell (p:=⟨Pb,0,none⟩) hlt' (fun e=>by simp at e;omega)).trans hp0;have QC:w1.frozen? ⟨Pb,1,none⟩=false:=(World.frozen?_of_block (hk1.block Pb hlt' (fun e=>by omega))).trans hfp;have HE:=Aa (And.intro e1 (And.intro e2 e3));clear e1 e2 e3 hd hp0 hp1 hcl hv hfp hfl;have hne:L≠Pb:=oM;have hfin:∀ w2:ZB,w2=w1.setCell ⟨Pb,1,none⟩ (.bool (s.2||d.isEmpty))->I51 L Pb w s (.returned ↑d) w2:=fun w2 hw2=>by
  subst hw2;obtain⟨e1,e2,e3⟩:=HE.out;refine⟨by rw [e1],(aV.trans ⟨hk1.os,hk1.tape,hk1.output,hk1.size,fun k hk hs=>hk1.block k hk (fun e=>hs (.inl e))⟩ ((aV.refl _ w1).setCell (.inr rfl) _)),?_⟩;have hkb:Below L w1 (w1.setCell ⟨Pb,1,none⟩ (.bool (s.2||d.isEmpty))):=(Ac L w1).setCell (by show L<=Pb;omega) _;refine⟨hlt,by simp;omega,⟨v1,?_,by rw [e2];exact hv1.below hkb nR⟩,?_,?_,?_,?_⟩;·rw [World.cell?_setCell_other _ _ _ _ sM];exact hc1
  ·rw [World.cell?_setCell_other _ _ _ _ sM];exact OO
  ·rw [e3];exact J3 _ _ _ (by rw [hp1'];rfl)
  ·rw [Jt];exact hf1
  ·rw [Jt];exact QC
 have HF:=Aa hfin;clear hfin HE hk1 hv1 hc1;rcases hs2:s.2 with _|_;·rw [hs2] at hp1' HF;rcases hde:d.isEmpty with _|_;all_goals rw [hde] at HF;go_wp2;go_ret;exact HF.out _ rfl
 ·rw [hs2] at hp1' HF;go_wp2;go_ret;exact HF.out _ rfl
theorem M13 (L Pb:Nat) (w:ZB) (s:PSt) (h:Pf L Pb w s) : ZE prog 229 #[.pointer (some ⟨Pb,0,none⟩)] w fun e w'=>e=.returned (.bool (!s.2&&s.1.isEmpty))/\w=w':=by
 obtain⟨hlt,hlt',⟨v,hcl,hv⟩,hp0,hp1,hfl,hfp⟩:=h;obtain⟨a,cap,rfl,hl,hcap,hne⟩:=hv;rcases hs2:s.2 with _|_
 ·rw [hs2] at hp1;by_cases h0:s.1=[]
  ·have e:((s.1.length:Int)==0)=true:=by simp [h0]
   have e':s.1.isEmpty=true:=by simp [h0]
   clear h0 hne;go_in;go_wp2;go_ret;exact⟨by rw [e'];rfl,rfl⟩
  ·have e:((s.1.length:Int)==0)=false:=by simp;exact h0
   have e':s.1.isEmpty=false:=by simp;exact h0
   clear h0 hne;go_in;go_wp2;go_ret;exact⟨by rw [e'];rfl,rfl⟩
 ·rw [hs2] at hp1;clear hne;exact FD32
theorem Ins (v:ZC) (ls:List Q00) (w:ZB) (hG:Gl w) (hv:Strs w w v ls) (hl:∀ l∈ls,l.length<=9223372036854775807) : ZE prog 226 #[v] w (Ret w (.bool (ls.all aG))):=by
 have hC:=Aug _ _ _ Ggh v ls w hG hv hl;have HC:=Aa hC;clear hC hv hl;go_in;go_wp2_with fail;refine CmZ HC.out fun w1 hb=>?_;have e:(!ls.any fun l=>!aG l)=ls.all aG:=by rw [List.all_eq_not_any_not]
 have HE:=Aa e;clear e HC;generalize (ls.any fun l=>!aG l)=x at HE;go_wp2;go_ret;exact⟨by rw [<- HE.out];rfl,hb⟩
structure vH (L Pb B0 B4 B5:Nat) (leaf:Q00) (w:ZB):Prop where
 lt0:B0<L
 lt4:Pb<B4
 lt5:B4<B5
 lt:B5<w.heap.size
 c0:w.cell? ⟨B0,0,none⟩=some ↑leaf
 c4:w.cell? ⟨B4,0,none⟩=some (.pointer (some ⟨Pb,0,none⟩))
 c5:w.cell? ⟨B5,0,none⟩=some (.func (.func 227) #[] #[.pointer (some ⟨B0,0,none⟩),.pointer (some ⟨B4,0,none⟩),.pointer (some ⟨B5,0,none⟩)])
theorem vH.keep {L Pb B0 B4 B5:Nat} {leaf:Q00} (h:vH L Pb B0 B4 B5 leaf w) (hlt:L<Pb) (hk:aV (fun k=>k=L\/k=Pb) w w'):vH L Pb B0 B4 B5 leaf w':=by obtain⟨a,b,c,d,e,f,g⟩:=h;have hs:=hk.size;exact⟨a,b,c,oM,(hk.cell (p:=⟨B0,0,none⟩) (by show B0<_;omega) (by show ¬ (B0=L\/B0=Pb);omega)).trans e,(hk.cell (p:=⟨B4,0,none⟩) (by show B4<_;omega) (by show ¬ (B4=L\/B4=Pb);omega)).trans f,(hk.cell (p:=⟨B5,0,none⟩) (by show B5<_;omega) (by show ¬ (B5=L\/B5=Pb);omega)).trans g⟩
theorem Pf.keep {L Pb:Nat} {s:PSt} (h:Pf L Pb w s) (hb:Below w w w'):Pf L Pb w' s:=by obtain⟨a,b,⟨v,c,c'⟩,d,e,f,g⟩:=h;have hs:=hb.size;exact⟨a,oM,⟨v,(hb.cell (p:=⟨L,0,none⟩) (by show L<_;omega)).trans c,c'.below hb oM⟩,(hb.cell (p:=⟨Pb,0,none⟩) b).trans d,(hb.cell (p:=⟨Pb,1,none⟩) b).trans e,(hb.frozen (p:=⟨L,0,none⟩) (by show L<_;omega)).trans f,(hb.frozen (p:=⟨Pb,1,none⟩) b).trans g⟩
def MN (L Pb:Nat) (w:ZB) (r:Q00 × PSt) (e:Ending) (w':ZB):Prop := e=.returned ↑r.1/\aV (fun k=>k=L\/k=Pb) w w'/\Pf L Pb w' r.2
theorem I37 (leaf:Q00) (f n i:Nat) (s:PSt):(upF leaf f n i s).1.length<=1000000:=by
 cases f with
 |zero=>simp [upF]
 |succ f =>
  unfold upF;split;·rw [jA];decide
  ·split;·rw [lJ];decide
   ·rw [lJ];decide
theorem Gl.low {B:Nat} (h:Gl w) (hb:Below B w w') (hB:10+1<=B):Gl w' where
 size:=Aj h.size hb.size
 db:=(hb.cell (Af dC hB)).trans h.db
 pow10:=var?_below hb kR (g:=5) (Af dC hB) h.pow10
 utf8:=⟨fun c hc=>(hb.cell (p:=⟨_,c,none⟩) (Af sM hB)).trans (h.utf8.1 c hc),fun i hi=>⟨(hb.cell (p:=⟨_,2*i,none⟩) (Af sM hB)).trans (h.utf8.2 i hi).1,(hb.cell (p:=⟨_,2*i+1,none⟩) (Af sM hB)).trans (h.utf8.2 i hi).2⟩⟩
theorem Pt8 (L Pb B0 B4 B5:Nat) (leaf:Q00) (uT:leaf.length<=1000000) (f:Nat):∀ (n i:Nat) (s:PSt) (w:ZB),1<=n->i<n->n<=f->n<=1000000->Gl w->10+1<=L->(∀ d∈s.1,d.length<=1000000)->vH L Pb B0 B4 B5 leaf w->Pf L Pb w s -> ZE prog 227 #[↑n,↑i,.pointer (some ⟨B0,0,none⟩),.pointer (some ⟨B4,0,none⟩),.pointer (some ⟨B5,0,none⟩)] w (MN L Pb w (upF leaf f n i s)):=by
 induction f with
 |zero=>intro n i s w h1 h2 h3;omega
 |succ f ih =>
  intro n i s w h1 hi hf hn hG h9 hd hE hP;have IH:=Aa ih;clear ih;by_cases hn1:n=1
  ·subst hn1;have e:upF leaf (f+1) 1 i s=(CH.dl [nN,leaf],s):=by rw [upF,Ah rfl]
   rw [e];have hc0:=hE.c0;clear e hE;go_in;go_wp2_with fail;refine (Wl _ [nN,leaf] _ (hG.below (Cr w _)) (by rw [Df];exact Wc w [nN,leaf] 9 sM) ?_).mono ?_;·have:=Qi [nN,leaf] 1000000 (by intro l hl;simp at hl;rcases hl with rfl|rfl;decide;exact uT) dC;simp at this ⊢;omega
   rintro e w' ⟨rfl,hb1⟩;have hb1':=(Cr w _).trans (hb1.mono sM);go_wp2;go_ret;exact⟨rfl,aV.of_below hb1',hP.keep hb1'⟩
  ·have e1:=nal n 1;have hk1:=jI n;have hk2:=jP n oM;have hlen:(gW s).1.length<=1000000:=by
    rw [(Tt s).1];cases hx:s.1.getLast? with
    |none=>simp
    |some d=>exact hd d (List.mem_of_getLast? hx)
   have hd':∀ d∈(gW s).2.1,d.length<=1000000:=fun d hm=>hd d (by rw [(Tt s).2.1] at hm;exact List.dropLast_subset _ hm);have HD:=Aa hd';have KL:=hP.lt;clear hd hd';have hc4:=hE.c4;have hbd:Below w w w.drew:=(Ac _ _).drew;have HPd:=Aa (hP.keep hbd);have SI:=hE.lt4;have SH:=hE.lt5;have UO:=hE.lt;have HE:=Aa hE;have HG:=Aa hG;clear hE hG hP;rw [upF,Ai hn1];by_cases hik:i<CH.half n
   ·rw [Ah hik];generalize hk:CH.half n=k at *;go_in;go_wp2_with fail;go_region_with (first |(go_at_call 83;refine (U8 n _ oM).mono ?_;rw [hk];rintro e w' ⟨rfl,rfl⟩) |(go_at_call 228;refine (Ggp L Pb _ s ?_).mono ?_;exact HPd.out;rintro e w1 ⟨rfl,yx,hP1⟩))
    all_goals clear hk hc4;have hkw:aV (fun k=>k=L\/k=Pb) w w1:=(aV.of_below hbd).trans yx;have hE1:=HE.out.keep KL hkw;have hG1:Gl w1:=HG.out.low (hkw.below (B:=L) oM (fun k e=>by omega)) h9;have hc5:=hE1.c5;have HE1:=Aa hE1;have hs1:=hkw.size;clear hE1 yx hbd;go_wp2_with fail;refine (IH.out k i (gW s).2 w1 oM oM oM oM hG1 h9 HD.out HE1.out hP1).mono ?_;rintro e w2 ⟨rfl,yw,hP2⟩;have hG2:Gl w2:=hG1.low (yw.below (B:=L) oM (fun k e=>by omega)) h9;have hl2:=I37 leaf f k i (gW s).2;generalize upF leaf f k i (gW s).2=r at *;go_wp2_with fail;refine CmZ (Z7 _ _ w2 hG2 hl2 hlen) fun w3 hb3=>?_;go_wp2;go_ret;exact⟨rfl,(hkw.trans yw).trans (aV.of_below hb3),hP2.keep hb3⟩
   ·rw [Ai hik];have hge:((CH.half n:Nat):Int)<=(i:Int):=oM;generalize hk:CH.half n=k at *;go_in;go_wp2_with fail;go_region_with (first |(go_at_call 83;refine (U8 n _ oM).mono ?_;rw [hk];rintro e w' ⟨rfl,rfl⟩) |(go_at_call 228;refine (Ggp L Pb _ s ?_).mono ?_;exact HPd.out;rintro e w1 ⟨rfl,yx,hP1⟩))
    all_goals clear hk hc4;have hkw:aV (fun k=>k=L\/k=Pb) w w1:=(aV.of_below hbd).trans yx;have hE1:=HE.out.keep KL hkw;have hG1:Gl w1:=HG.out.low (hkw.below (B:=L) oM (fun k e=>by omega)) h9;have hc5:=hE1.c5;have HE1:=Aa hE1;have hs1:=hkw.size;clear hE1 yx hbd;go_wp2_with fail;rw [show ((n:Int) - (k:Int))=((n - k:Nat):Int) from by omega,show ((i:Int) - (k:Int))=((i - k:Nat):Int) from by omega];refine (IH.out (n - k) (i - k) (gW s).2 w1 oM oM oM oM hG1 h9 HD.out HE1.out hP1).mono ?_;rintro e w2 ⟨rfl,yw,hP2⟩;have hG2:Gl w2:=hG1.low (yw.below (B:=L) oM (fun k e=>by omega)) h9;have hl2:=I37 leaf f (n - k) (i - k) (gW s).2;generalize upF leaf f (n - k) (i - k) (gW s).2=r at *;go_wp2_with fail;refine CmZ (Z7 _ _ w2 hG2 hlen hl2) fun w3 hb3=>?_;go_wp2;go_ret;exact⟨rfl,(hkw.trans yw).trans (aV.of_below hb3),hP2.keep hb3⟩
def Nov (w:ZB) (ls:List Q00) (e:Ending) (w':ZB):Prop:=∃ v,e=.returned v/\Av w w' v ls/\Below w w w'
theorem Dao (v:ZC) (ls:List Q00) (w:ZB) (hv:Strs w w v ls) (hn:ls.length<=1099511627776) : ZE prog 36 #[v] w (Nov w ls):=by
 obtain⟨a,cap,rfl,hl,hcap,hne⟩:=hv;by_cases h0:ls=[]
 ·subst h0;cases a with
  |none =>refine (Tryz.slices_Clone_string_nil 0 cap w).mono ?_;rintro e w' ⟨rfl,rfl⟩;exact⟨_,rfl,Av.nil _ _,Ac _ _⟩
  |some a =>refine (Tryz.slices_Clone_string_zero a cap w).mono ?_;rintro e w' ⟨v',rfl,ho,_,hb⟩;exact⟨_,rfl,ho,hb⟩
 ·obtain⟨b,off,rfl,hb,hc⟩:=hne h0;refine (Tryz.slices_Clone_string b off ls.length cap (ls.map fun l=>⟨l.toArray⟩) w sM oM (fun j hj=>?_)).mono ?_
  ·have hj':j<ls.length:=by simpa using hj
   rw [hc j ls[j] (Ae hj')];simp [hj']
  ·rintro e w' ⟨v',rfl,ho,_,hb'⟩;refine⟨_,rfl,?_,hb'⟩;unfold Av;have:((ls.map fun l=>(⟨l.toArray⟩:ByteArray)).take ls.length).map Value.string=ls.map ay:=by rw [Dz sM,Ll];rfl
   rwa [this] at ho
def Kl (w2:ZB) (L B0:Nat):ZB := ((w2.alloc (.cells #[.pointer (some ⟨L,0,none⟩),.bool false] 305)).alloc (.cells #[.pointer (some ⟨w2,0,none⟩)] 302)).alloc (.cells #[.func (.func 227) #[] #[.pointer (some ⟨B0,0,none⟩),.pointer (some ⟨w2+1,0,none⟩),.pointer (some ⟨w2+1+1,0,none⟩)]] 306)
theorem Fne (w2:ZB) (L B0:Nat) (leaf:Q00) (path:List Q00) (v:ZC) (h0:B0<L) (hL:L<w2.heap.size) (uT:w2.cell? ⟨B0,0,none⟩=some ↑leaf) (hLc:w2.cell? ⟨L,0,none⟩=some v) (hLf:w2.frozen? ⟨L,0,none⟩=false) (hv:Strs L w2 v path) : Below w2 w2 (Kl w2 L B0)/\vH L w2 B0 (w2+1) (w2.heap.size+1+1) leaf (Kl w2 L B0)/\Pf L w2 (Kl w2 L B0) (path,false):=by
 have hb:Below w2 w2 (Kl w2 L B0):=(((Ac _ _).alloc nR _).alloc sM _).alloc naf _;have hsz:(Kl w2 L B0).heap.size=w2.heap.size+1+1+1:=by unfold Kl;simp
 refine⟨hb,⟨h0,oM,oM,oM,(hb.cell (p:=⟨B0,0,none⟩) (by show B0<_;omega)).trans uT,?_,?_⟩,⟨hL,oM,⟨v,(hb.cell (p:=⟨L,0,none⟩) hL).trans hLc,hv.below hb oM⟩,?_,?_,(hb.frozen (p:=⟨L,0,none⟩) hL).trans hLf,?_⟩⟩;·unfold Kl;rw [G9 _ _ _ sM,Ci _ _ _ _ sM];rfl
 ·unfold Kl;rw [Ci _ _ _ _ sM];rfl
 ·unfold Kl;rw [G9 _ _ _ naf,G9 _ _ _ sM,Ci _ _ _ _ rfl];rfl
 ·unfold Kl;rw [G9 _ _ _ naf,G9 _ _ _ sM,Ci _ _ _ _ rfl];rfl
 ·unfold Kl;rw [Jg _ _ _ naf,Jg _ _ _ sM];exact Kv _ _ _ _ rfl
theorem Blt (root leaf:Q00) (n i:Nat) (v:ZC) (path:List Q00) (w:ZB) (hG:Gl w) (hi:i<n) (hn:n<=1000000) (uT:leaf.length<=1000000) (hv:Strs w w v path) (hp:path.length<=1000000) (hd:∀ d∈path,d.length<=1000000) : ZE prog 159 #[↑root,↑n,↑i,↑leaf,v] w (Ret w (.bool (dS root n i leaf path))):=by
 have hv1:=(hv.below (Cr w (.cells #[↑leaf] 9)) nR).mono (B':=(w.alloc (.cells #[↑leaf] 9)).heap.size) sM;have HV:=Aa hv1;have HD:=Aa hd;have d1:=naj ((1000000:Int)<(n:Int));have d2:ZH ((i:Int)<0)=false:=sM;have d3:=naj (n<=i);clear hv1 hv hd;go_in;go_wp2_with fail;refine (Dao v path _ HV.out oM).mono ?_;rintro e w1 ⟨v1,rfl,hO,hb1⟩;have hs1:=hb1.size;rw [Df] at hs1 hO hb1;have hG1:=(hG.below (Cr w _)).below (by rw [Df];exact hb1);obtain⟨a1,cap1,hv1,hl1,hc1,hne1⟩:=hO.form;subst hv1;have hS:=hO.strs;go_wp2_with fail;have hbA:=Cr w1 (.cells #[Value.slice a1 path.length cap1] 301);refine CmZ (Ins _ path _ (hG1.below hbA) ((hS.below hbA nR).mono sM) (fun l hl=>by have:=HD.out l hl;omega)) fun w2 hb2=>?_;have hs2:=hb2.size;rw [Df] at hs2 hb2;have hLc:w2.cell? ⟨w1,0,none⟩=some (.slice a1 path.length cap1):=by rw [hb2.cell (p:=⟨w1,0,none⟩) sM,Ci _ _ _ _ rfl];rfl
 have hLf:w2.frozen? ⟨w1,0,none⟩=false:=by rw [hb2.frozen (p:=⟨w1,0,none⟩) sM];exact Kv _ _ _ _ rfl
 have BZ:w2.cell? ⟨w,0,none⟩=some ↑leaf:=by rw [hb2.cell (p:=⟨w,0,none⟩) (by show w.heap.size<_;omega),G9 _ _ _ (by show w.heap.size<_;omega),hb1.cell (p:=⟨w,0,none⟩) (by show w.heap.size<_;omega),Ci _ _ _ _ rfl];rfl
 have hS2:Strs w1 w2 (.slice a1 path.length cap1) path:=hS.below (hbA.trans (hb2.mono oM)) nR;have hG2:Gl w2:=(hG1.below hbA).below (by rw [Df];exact hb2);have hbW:Below w w w2:=(((Cr w _).trans (hb1.mono oM)).trans (hbA.mono oM)).trans (hb2.mono oM);have hGs:=hG.size;rcases hall:path.all aG with _|_
 ·have e:dS root n i leaf path=false:=by unfold dS;rw [hall];rfl
  have HE:=Aa e;clear e hS2 hS hO hG1 hG2 hb1 hb2 hbA hLc hLf BZ HV;go_wp2;go_ret;exact⟨by rw [HE.out];rfl,hbW⟩
 ·have e:dS root n i leaf path=((upF leaf n n i (path,false)).1==root&&(!(upF leaf n n i (path,false)).2.2&&(upF leaf n n i (path,false)).2.1.isEmpty)):=by unfold dS;rw [hall];rfl
  have HE:=Aa e;have HS2:=Aa hS2;clear e hS hO hG1 hb1 hb2 hbA HV hall hS2;obtain⟨hbU,KR,hPf⟩:=Fne w2 w1 w leaf path _ oM oM BZ hLc hLf HS2.out;have hGU:=hG2.below hbU;have HU:=Aa (And.intro KR hPf);have HGU:=Aa hGU;clear KR hPf hGU hG2 HS2;go_wp2_with fail;refine (Pt8 w1 w2 w (w2+1) (w2.heap.size+1+1) leaf uT n n i (path,false) (Kl w2 w1 w) oM hi nR hn HGU.out oM HD.out HU.out.1 HU.out.2).mono ?_;rintro e w4 ⟨rfl,hk4,hP4⟩;have hb4:Below w (Kl w2 w1 w) w4:=hk4.below (by have:=hbU.size;omega) (fun k e=>by omega);have hE4:=HU.out.1.keep oM hk4;have hc4:=hE4.c4;have hbF:=(hbW.trans (hbU.mono oM)).trans hb4;generalize upF leaf n n i (path,false)=r at *;have HP:=Aa hP4;clear hP4 hE4 hb4 hk4 HU HGU hbU hbW;rcases heq:(r.1==root) with _|_
  ·have HB:Hid (dS root n i leaf path=false):=by rw [HE.out,heq];exact rfl
   clear HE HP;go_wp2;go_ret;exact⟨by rw [HB.out];rfl,hbF⟩
  ·have HB:Hid (dS root n i leaf path=(!r.2.2&&r.2.1.isEmpty)):=by rw [HE.out,heq];exact rfl
   clear HE;go_wp2_with fail;refine (M13 _ _ w4 r.2 HP.out).mono ?_;rintro e w5 ⟨rfl,rfl⟩;generalize (!r.2.2&&r.2.1.isEmpty)=z at HB ⊢;go_wp2;go_ret;exact⟨by rw [HB.out];rfl,hbF⟩
end
end Go.Proofs.Y
namespace CH
section
def cls (c:UInt8):Nat :=
 if (97<=c.toNat/\c.toNat<=122)\/(65<=c.toNat/\c.toNat<=90) then 3
 else if 48<=c.toNat/\c.toNat<=57 then 4
 else if c.toNat=95 then 5
 else if c.toNat=32\/c.toNat=9\/c.toNat=10 then 1
 else if c.toNat=35 then 2
 else if c.toNat=34 then 6
 else if c.toNat=33 then 7
 else if c.toNat=60\/c.toNat=62 then 8
 else if c.toNat∈[59,44,46,58,40,41,91,93,123,125,61,43,45] then 9
 else 0
def bQ (s:Q00) (i:Nat):Nat:=match s[i]? with|none=>0|some c=>cls c
def bK (s:Q00) (set:List Nat) (i:Nat):Nat:=i+((s.drop i).takeWhile fun c=>set.contains (cls c)).length
theorem fF (s:Q00) (i:Nat) (c:UInt8) (h:s[i]?=some c):bQ s i=cls c:=by unfold bQ;rw [h]
theorem rH (s:Q00) (i:Nat) (h:s.length<=i):bQ s i=0:=by unfold bQ;rw [List.getElem?_eq_none h]
theorem Ab4 (s:Q00) (i:Nat) (c:UInt8) (h:s[i]?=some c):s.drop i=c::s.drop (i+1):=by obtain⟨hi,e⟩:=En.1 h;rw [<- e];exact Ei hi
theorem nI (s:Q00) (set:List Nat) (i:Nat) (hi:i<s.length) (h:set.contains (bQ s i)=true):bK s set i=bK s set (i+1):=by have hg:=Ae hi;rw [fF s i _ hg] at h;unfold bK;rw [Ab4 s i _ hg,List.takeWhile_cons,Ah h];simp;omega
theorem oW (s:Q00) (set:List Nat) (i:Nat) (h:s.length<=i\/set.contains (bQ s i)=false):bK s set i=i:=by
 unfold bK;by_cases hi:i<s.length
 ·have hg:=Ae hi;rcases h with h|h;·omega
  ·rw [fF s i _ hg] at h;rw [Ab4 s i _ hg,List.takeWhile_cons,Ai (by rw [h];decide)];simp
 ·rw [Jq oM];simp
theorem iE (s:Q00) (set:List Nat) (i:Nat):i<=bK s set i:=Nat.le_add_right _ _
theorem jK (s:Q00) (set:List Nat) (i:Nat) (h:i<=s.length):bK s set i<=s.length:=by unfold bK;have:=(List.takeWhile_sublist (fun c=>set.contains (cls c)) (l:=s.drop i)).length_le;rw [Cc] at this;omega
def kC (s:Q00):Nat->Nat->Nat
 |0,i=>i
 |f+1,i =>
  if bQ s (bK s [1] i)=2 then
   match (s.drop (bK s [1] i)).findIdx? (·==10) with
   |none=>s.length
   |some n=>kC s f (bK s [1] i+n)
  else bK s [1] i
def gap (s:Q00) (i:Nat):Nat:=kC s (s.length+1 - i) i
structure Tok where
 kind:Nat
 pos:Nat
 n:Nat
 text:Q00
deriving DecidableEq
def dec (l:Q00):Nat:=l.foldl (fun n c=>n*10+(c.toNat - 48)) 0
def next (s:Q00) (i:Nat):Except Nat (Tok × Nat) :=
 if bQ s i=3 then
  if bK s [3,4,5] i - i > 24 then .error 2 else .ok (⟨1,i,0,(s.drop i).take (bK s [3,4,5] i - i)⟩,bK s [3,4,5] i)
 else if bQ s i=4 then
  if bK s [4] i - i > 13\/bQ s (bK s [4] i)=3\/bQ s (bK s [4] i)=5 then .error 4
  else .ok (⟨2,i,dec ((s.drop i).take (bK s [4] i - i)),(s.drop i).take (bK s [4] i - i)⟩,bK s [4] i)
 else if bQ s i=6 then
  match (s.drop (i+1)).findIdx? (fun c=>c==34||c==10) with
  |none=>.error 6
  |some n=>if (s.drop (i+1))[n]?=some 10 then .error 6 else if n > 400 then .error 2 else .ok (⟨3,i,0,(s.drop (i+1)).take n⟩,i+n+2)
 else if bQ s i=7\/bQ s i=8 then
  if s[i+1]?=some 61 then .ok (⟨4,i,0,(s.drop i).take 2⟩,i+2)
  else if bQ s i=7 then .error 3 else .ok (⟨4,i,0,(s.drop i).take 1⟩,i+1)
 else if bQ s i=9 then .ok (⟨4,i,0,(s.drop i).take 1⟩,i+1)
 else .error 3
theorem Adf (s:Q00):∀ f i,i<=kC s f i\/kC s f i=s.length:=by
 intro f;induction f with
 |zero=>intro i;left;exact Au _
 |succ f ih =>
  intro i;have hw:=iE s [1] i;unfold kC;split
  ·split;·right;rfl
   ·rename_i n _;rcases ih (bK s [1] i+n) with h|h;·left;omega
    ·right;exact h
  ·left;exact hw
theorem Ade (s:Q00):∀ f i,i<=s.length->kC s f i<=s.length:=by
 intro f;induction f with
 |zero=>intro i h;exact h
 |succ f ih =>
  intro i h;have hw:=jK s [1] i h;unfold kC;split
  ·split;·exact Au _
   ·rename_i n hn;have:=(F9.1 hn).1;rw [Cc] at this;exact ih _ oM
  ·exact hw
theorem wH (s:Q00) (i:Nat) (h:i<=s.length):i<=gap s i:=by
 rcases Adf s (s.length+1 - i) i with h1|h1;·exact h1
 ·unfold gap;omega
theorem wG (s:Q00) (i:Nat) (h:i<=s.length):gap s i<=s.length:=Ade s _ i h
theorem Aaz (s:Q00):∀ f g i,i<=s.length->s.length<f+i->s.length<g+i->kC s f i=kC s g i:=by
 intro f;induction f with
 |zero=>intro g i h h1;omega
 |succ f ih =>
  intro g i h h1 h2;cases g with
  |zero=>omega
  |succ g =>
   have hw:=iE s [1] i;have hl:=jK s [1] i h;show (if _ then _ else _)=(if _ then _ else _)
   by_cases hc:bQ s (bK s [1] i)=2
   ·rw [Ah hc,Ah hc];cases hf:(s.drop (bK s [1] i)).findIdx? (·==10) with
    |none=>rfl
    |some n =>
     show kC s f _=kC s g _;obtain⟨hn,hb,_⟩:=F9.1 hf;rw [Cc] at hn;have hn0:n≠0:=by exact FD66
     exact ih g _ oM oM oM
   ·rw [Ai hc,Ai hc]
theorem uZ (s:Q00) (i:Nat) (h:i<=s.length) (hc:bQ s (bK s [1] i)≠2):gap s i=bK s [1] i:=by
 unfold gap;obtain⟨f,e⟩:∃ f,s.length+1 - i=f+1:=⟨s.length - i,oM⟩
 rw [e];unfold kC;rw [if_neg hc]
theorem zI (s:Q00) (i:Nat) (h:i<=s.length) (hc:bQ s (bK s [1] i)=2) (hf:(s.drop (bK s [1] i)).findIdx? (·==10)=none):gap s i=s.length:=by
 unfold gap;obtain⟨f,e⟩:∃ f,s.length+1 - i=f+1:=⟨s.length - i,oM⟩
 rw [e];unfold kC;rw [if_pos hc,hf]
theorem zH (s:Q00) (i n:Nat) (h:i<=s.length) (hc:bQ s (bK s [1] i)=2) (hf:(s.drop (bK s [1] i)).findIdx? (·==10)=some n) : gap s i=gap s (bK s [1] i+n)/\i<bK s [1] i+n/\bK s [1] i+n<s.length:=by
 have hw:=iE s [1] i;obtain⟨hn,hb,_⟩:=F9.1 hf;rw [Cc] at hn;have hn0:n≠0:=by exact FD66
 refine⟨?_,oM,oM⟩;unfold gap;obtain⟨f,e⟩:∃ f,s.length+1 - i=f+1:=⟨s.length - i,oM⟩
 have:kC s (f+1) i=kC s f (bK s [1] i+n):=by
  conv=>lhs;unfold kC
  rw [Ah hc,hf]
 rw [e,this];exact Aaz s _ _ _ oM oM oM
def jm (s:Q00):Nat->Nat->List Tok->Except (Nat × Nat) (List Tok)
 |0,_,out=>.ok out
 |f+1,i,out =>
  if i<s.length then
   match next s i with
   |.error e=>.error (e,i)
   |.ok (t,j)=>if out.length=5000 then .error (2,i) else jm s f (gap s j) (out++[t])
  else .ok out
def lex (s:Q00):Except (Nat × Nat) (List Tok):=jm s (s.length+1) (gap s 0) []
theorem wZ (s:Q00) (i:Nat) (hi:i<s.length) (t:Tok) (j:Nat) (h:next s i=.ok (t,j)):i<j/\j<=s.length:=by
 have h3:bQ s i=3->i<bK s [3,4,5] i:=fun e=>by rw [nI s _ i hi (by rw [e];rfl)];exact iE _ _ _
 have h4:bQ s i=4->i<bK s [4] i:=fun e=>by rw [nI s _ i hi (by rw [e];rfl)];exact iE _ _ _
 have l3:=jK s [3,4,5] i oM;have l4:=jK s [4] i oM;unfold next at h
 split at h
 ·rename_i e;split at h;·cases h
  ·cases h;exact⟨h3 e,l3⟩
 split at h
 ·rename_i e;split at h;·cases h
  ·cases h;exact⟨h4 e,l4⟩
 split at h
 ·split at h;·cases h
  ·rename_i n hn;obtain⟨hn,_⟩:=F9.1 hn;rw [Cc] at hn;split at h;·cases h
   split at h;·cases h
   ·cases h;omega
 split at h
 ·split at h
  ·rename_i e;have:=(lS e)
   cases h;omega
  ·split at h;·cases h
   ·cases h;omega
 split at h;·cases h;omega
 ·cases h
def ident (s:Q00):Bool :=
 ZH (s.length<=20000)&&(match lex s with
  |.ok [t]=>t.kind==1&&t.text==s
  |_=>false)
abbrev Str:=Q00
structure Name where
 script:Int
 words:List Str
structure Entry where
 id:Str
 names:List Name
structure Change where
 kind:Int
 id:Str
 entry:Entry
 pos:Int
inductive Formula where
 |mk (op:Int) (name:Str) (cmp n:Int) (kids:List Formula)
structure aC where
 id:Str
 authority:Str
 kind:Int
 target:Str
 aB:Formula
 start:Int
 aF:Int
 aQ:Int
structure fV where
 id:Str
 measures:List Str
 aO:List Str
 quota:Int
 uses:Int
 start:Int
 aF:Int
structure bC where
 id:Str
 company:Str
 holder:Str
 aH:Str
 aJ:Str
 joint:List Str
 capital:Int
 dV:Int
 start:Int
 stop:Int
structure Act where
 kind:Int
 change:Change
 measure:aC
 licence:fV
 holding:bC
 id:Str
 n:Int
structure yF where
 index:Int
 sig:List Str
 path:List Str
structure Version where
 authority:Int
 number:Int
 pos:Int
 prev:Str
 acts:List Act
 sel:yF
def isIn (s:Str) (i:Nat) (set:Str):Bool:=match s[i]? with|none=>false|some c=>set.contains c
def smalls:Str:=([97,98,99,100,101,102,103,104,105,106,107,108,109,110,111,112,113,114,115,116,117,118,119,120,121,122]:Q00)
def dK (s:Str):Bool:=match s[0]? with|none=>false|some c=>smalls.contains c||smalls.contains (c+32)&&ZH (65<=c.toNat)&&ZH (c.toNat<=90)
def slen (script:Int) (s:Str):Nat :=
 if script=1 then (if isIn s 0 smalls then 1 else 0)
 else if script=2 then (if dK s then (if isIn s 1 [39,96,94] then 2 else 1) else 0)
 else if script=3 then (if isIn s 0 ([98,100,102,103,104,106,107,108,109,110,112,113,114,115,116,119,120,121,122,39]:Q00) then 1 else 0)
 else if script=4 then
  (if isIn s 0 ([107,115,116,110,104,109,121,114,119,103,122,100,98,112]:Q00)&&isIn s 1 ([97,105,117,101,111]:Q00) then 2 else if isIn s 0 ([97,105,117,101,111]:Q00)||isIn s 0 [110] then 1 else 0)
 else 0
def letters (script:Int):Nat->Str->List Str × Str
 |0,s=>([],s)
 |f+1,s=>if slen script s=0 then ([],s) else
   ((s.take (slen script s))::(letters script f (s.drop (slen script s))).1,(letters script f (s.drop (slen script s))).2)
def eY (script:Int) (s:Str):Bool := (letters script 13 s).2==[]&&!((letters script 13 s).1==[])&&ZH ((letters script 13 s).1.length<=12)
def cZ (n:Name):Bool:=n.words.all (eY n.script)&&(ZH (0<n.words.length)&&ZH (n.words.length<=6))
def title (k:Int):Str:=if k=1 then ([112,108,97,105,110]:Q00) else if k=2 then ([99,97,115,101,100]:Q00) else if k=3 then ([97,98,106,97,100]:Q00) else if k=4 then ([115,121,108,108,97,98]:Q00) else []
def join (sep:Str):List Str->Str
 |[]=>[]
 |[x]=>x
 |x::y::l=>x++sep++join sep (y::l)
def bD (n:Name):Str:=title n.script++[58]++join [32] n.words
def dD (t:Int):Bool:=ZH (0<=t)&&ZH (t<=144001439)
def gJ (e:Entry):Bool:=ident e.id&&(ZH (0<e.names.length)&&(ZH (e.names.length<=8)&&!(e.names.any fun n=>!cZ n)))
def eu (c:Change):Bool :=
 let entry:=c.kind==1||c.kind==3
 let CQ:=c.kind==1||c.kind==2
 if !ident c.id||ZH (c.kind<1)||ZH (c.kind > 4) then false
 else if entry&&(c.entry.id != c.id||!gJ c.entry) then false
 else if !entry&&(c.entry.id != []||ZH (0<c.entry.names.length)) then false
 else CQ&&dD c.pos||!CQ&&c.pos==0
def kindWord (k:Int):Str:=if k=1 then ([97,100,100]:Q00) else if k=2 then ([114,101,109,111,118,101]:Q00) else if k=3 then ([99,111,114,114,101,99,116]:Q00) else if k=4 then ([118,111,105,100]:Q00) else []
def bH (c:Change):Option Str :=
 if eu c then
  some (join [32] ([kindWord c.kind,c.id]++(if c.kind==1||c.kind==2 then [Go.Lib.itoa c.pos] else [])++c.entry.names.map (fun n=>[34]++bD n++[34]))++[59])
 else none
def isKey (s:Str):Bool:=[([111,114]:Q00),([97,110,100]:Q00),([110,111,116]:Q00),([116,114,117,101]:Q00),([102,97,108,115,101]:Q00)].contains s
def jG (op:Int) (name:Str) (cmp n:Int) (kids:Nat):Bool :=
 if op=3 then kids==0&&(ZH (1<=cmp)&&(ZH (cmp<=6)&&(ident name&&!isKey name)))
 else if name != []||cmp != 0||n != 0 then false
 else if op=1\/op=2 then kids==0
 else if op=4 then kids==1
 else (op==5||op==6)&&ZH (2<=kids)
mutual
def Formula.count:Formula->Nat
 |.mk _ _ _ _ kids=>1+aA kids
def aA:List Formula->Nat
 |[]=>0
 |f::l=>f.count+aA l
end
mutual
def Formula.depth:Formula->Nat
 |.mk _ _ _ _ kids=>1+aX kids
def aX:List Formula->Nat
 |[]=>0
 |f::l=>max f.depth (aX l)
end
mutual
def Formula.ok:Formula->Bool
 |.mk op name cmp n kids=>jG op name cmp n kids.length&&!(op==3&&(ZH (n<0)||ZH (n > 1000000)||isKey name))&&fH kids
def fH:List Formula->Bool
 |[]=>true
 |f::l=>f.ok&&fH l
end
def bZ (k:Int):Str:=if k=1 then ([61]:Q00) else if k=2 then ([33,61]:Q00) else if k=3 then ([60]:Q00) else if k=4 then ([60,61]:Q00) else if k=5 then ([62]:Q00) else if k=6 then ([62,61]:Q00) else []
def Formula.op:Formula->Int|.mk op _ _ _ _=>op
def Formula.name:Formula->Str|.mk _ name _ _ _=>name
def Formula.cmp:Formula->Int|.mk _ _ cmp _ _=>cmp
def Formula.n:Formula->Int|.mk _ _ _ n _=>n
def Formula.kids:Formula->List Formula|.mk _ _ _ _ kids=>kids
mutual
def Formula.text:Formula->Str
 |.mk op name cmp n kids =>
  if op=1 then ([116,114,117,101]:Q00) else if op=2 then ([102,97,108,115,101]:Q00)
  else if op=3 then name++[32]++bZ cmp++[32]++Go.Lib.itoa n
  else if op=4 then ([110,111,116,32]:Q00)++((jL op kids)[0]?.getD [])
  else if op=5 then join ([32,97,110,100,32]:Q00) (jL op kids)
  else join ([32,111,114,32]:Q00) (jL op kids)
def jL (op:Int):List Formula->List Str
 |[]=>[]
 |f::l=>(if f.op==6||f.op==5&&op != 6 then [40]++f.text++[41] else f.text)::jL op l
end
def bJ (f:Formula):Option Str :=
 if ZH (f.count > 200)||ZH (f.depth > 20) then none else if f.ok then some f.text else none
def letterB (c:UInt8):Bool:=(ZH (97<=c.toNat)&&ZH (c.toNat<=122))||(ZH (65<=c.toNat)&&ZH (c.toNat<=90))
def tailB (c:UInt8):Bool:=letterB c||((ZH (48<=c.toNat)&&ZH (c.toNat<=57))||c==95)
def isName (s:Str):Bool :=
 match s with
 |[]=>false
 |c::l=>letterB c&&l.all tailB&&ZH (s.length<=24)
def jc (c:UInt8):Bool:=ZH (97<=(c ||| 32).toNat)&&ZH ((c ||| 32).toNat<=122)
def nM (c:UInt8):Bool:=jc c||((ZH (48<=c.toNat)&&ZH (c.toNat<=57))||c==95)
def fU (s:Str):Bool :=
 match s with
 |[]=>false
 |c::l=>jc c&&l.all nM&&ZH (s.length<=24)
def dH (m:aC):Bool :=
 let ok:=fU m.id&&fU m.authority
 if m.kind=1 then ok&&m.target==[]
 else if m.kind=2 then ok&&(fU m.target&&m.target != m.id)
 else if m.kind=3 then ok&&(fU m.target&&m.target != m.authority)
 else false
def dM (m:aC):Bool :=
 let u:=m.aF==-1||ZH (m.aF > m.start)&&ZH (m.aF<=100000)
 ZH (m.start >= 0)&&(ZH (m.start<=100000)&&(u&&(ZH (m.aQ >= 0)&&ZH (m.aQ<=if m.kind=1 then 400 else 0))))
def dw (k:Int):Str:=if k=1 then ([102,111,114,98,105,100]:Q00) else if k=2 then ([101,120,101,109,112,116]:Q00) else if k=3 then ([98,108,111,99,107]:Q00) else []
def dJ (m:aC):Option Str :=
 match bJ m.aB with
 |none=>none
 |some t =>
  if dH m&&dM m then
   some (join [32] ([dw m.kind]++(if m.target != [] then [m.target] else [])++[m.id,([111,102]:Q00),m.authority] ++
    (if m.aB.op != 1 then [([105,102]:Q00),t] else [])++[([102,114,111,109]:Q00),Go.Lib.itoa m.start]++(if m.aF >= 0 then [([117,110,116,105,108]:Q00),Go.Lib.itoa m.aF] else []) ++
    (if m.aQ > 0 then [([119,105,110,100]:Q00),Go.Lib.itoa m.aQ] else []))++[59])
  else none
def dI (m:aC):Bool := [m.id,m.authority,m.target,Go.Lib.itoa m.kind,Go.Lib.itoa m.start,Go.Lib.itoa m.aF,Go.Lib.itoa m.aQ]==[[],[],[],[48],[48],[48],[48]] && (m.aB.op==0&&m.aB.name==[]&&m.aB.cmp==0&&m.aB.n==0&&m.aB.kids.length==0)
def Nw:List Str->Bool
 |[]=>true
 |x::l=>!l.contains x&&Nw l
def bF (l:List Str):Bool:=l.all isName&&Nw l
def within (n most:Int):Bool:=ZH (0<=n)&&ZH (n<=most)
def aW (l:fV):Bool :=
 let lists:=bF l.measures&&bF l.aO&&(ZH (0<l.measures.length)&&ZH (l.measures.length<=12)&&ZH (l.aO.length<=60))
 isName l.id&&lists&&within l.quota 1000000000&&within l.uses 1000&&within l.start 144001439&&within l.aF 144001439&&ZH (l.start<l.aF)
def dF (h:bC):Bool := isName h.id&&isName h.company&&isName h.holder&&(h.aH==[]||isName h.aH)&&(h.aJ==[]||isName h.aJ)&&ZH (h.joint.length<=4) && !(h.aH != []&&ZH (0<h.joint.length))&&(h.joint.all isName&&Nw (h.holder::h.joint)) && !((h.holder::h.joint).contains h.company||h.company==h.aH||!within h.capital 100||!within h.dV 100) && (within h.start 100000&&(h.stop==-1||within h.stop 100000&&ZH (h.stop > h.start)))
inductive Word where
 |int (n:Int)
 |str (s:Str)
 |strs (l:List Str)
def Word.texts:Word->List Str
 |.int n=>if n = -1 then [[45]] else [Go.Lib.itoa n]
 |.str s=>[if s=[] then [45] else s]
 |.strs l=>l
def words (l:List Word):Str:=join [32] (l.flatMap Word.texts)
def iJ (c:Change):Bool:=c.kind != 0||c.id != []||c.pos != 0||c.entry.id != []||ZH (0<c.entry.names.length)
def gK (l:fV):Bool:=l.id != []||ZH (0<l.measures.length)||ZH (0<l.aO.length)||l.quota != 0||l.uses != 0||l.start != 0||l.aF != 0
def gQ (h:bC):Bool:=h.id != []||h.company != []||h.holder != []||h.aH != []||h.aJ != []||ZH (0<h.joint.length)||h.capital != 0||h.dV != 0||h.start != 0||h.stop != 0
def unused (a:Act):Bool :=
 let used:=if a.kind=3\/a.kind=5 then 7 else a.kind
 !(iJ a.change&&(1:Int) != used)&&!(!dI a.measure&&(2:Int) != used)&&!(gK a.licence&&(4:Int) != used)&&!(gQ a.holding&&(6:Int) != used)&&!((a.id != []||a.n != 0)&&(7:Int) != used)
def mg (k:Int):Str:=if k=5 then ([114,101,118,111,107,101]:Q00) else if k=3 then ([114,101,112,101,97,108]:Q00) else if k=7 then ([101,110,100]:Q00) else []
def aY (a:Act):Option Str :=
 if !unused a then none
 else if a.kind=1 then (bH a.change).map (([99,104,97,110,103,101,32]:Q00)++·)
 else if a.kind=2 then (dJ a.measure).map (([109,101,97,115,117,114,101,32]:Q00)++·)
 else if a.kind=4 then
  if aW a.licence then
   some (words [.str ([108,105,99,101,110,99,101]:Q00),.str a.licence.id,.int a.licence.quota,.int a.licence.uses,.int a.licence.start,.int a.licence.aF,.int a.licence.measures.length,.strs a.licence.measures,.strs a.licence.aO]++[59])
  else none
 else if a.kind=6 then
  if dF a.holding then
   some (words [.str ([104,111,108,100,105,110,103]:Q00),.str a.holding.id,.str a.holding.company,.str a.holding.holder,.str a.holding.aH,.str a.holding.aJ,.int a.holding.capital,.int a.holding.dV,.int a.holding.start,.int a.holding.stop,.strs a.holding.joint]++[59])
  else none
 else if a.kind=5\/a.kind=3\/a.kind=7 then
  if ident a.id&&within a.n (if a.kind=5 then 144001439 else 100000) then some (words [.str (mg a.kind),.str a.id,.int a.n]++[59]) else none
 else none
def eF:List Act->Option Str
 |[]=>some []
 |a::l=>match aY a with
  |none=>none
  |some t=>(eF l).map (t++[10]++·)
def bare (v:Version):Option Str :=
 if !(within v.authority 5&&(ZH (1<=v.number)&&ZH (v.number<=200))&&dD v.pos&&ZH (v.acts.length<=40))||((v.number==1) != (v.prev==[]))||(v.prev != []&&!aG v.prev) then none
 else (eF v.acts).map (words [.str ([118,101,114,115,105,111,110]:Q00),.int v.authority,.int v.number,.int v.pos,.str v.prev]++[10]++·)
def dN (l:List Str) (most:Nat):Bool:=ZH (l.length<=most)&&!(l.any fun s=>!aG s)
def bM (v:Version):Except Int Str :=
 match bare v with
 |none=>.error 1
 |some s =>
  if within v.sel.index 255&&dN v.sel.sig 18&&dN v.sel.path 8 then
   let t:=s++words [.str ([115,101,97,108]:Q00),.int v.sel.index,.strs v.sel.sig,.str [47],.strs v.sel.path]++[10]
   if t.length > 20000 then .error 2 else .ok t
  else .error 1
theorem beq_toNat (a b:UInt8):(a==b)=ZH (a.toNat=b.toNat):=by
 by_cases h:a=b;·subst h;simp
 ·rw [Dl.2 h,Cj (fun e=>h (UInt8.toNat_inj.1 e))]
theorem oO (c:UInt8) (h:cls c=4):48<=c.toNat/\c.toNat<=57:=by
 unfold cls at h;split at h;·cases h
 split at h;·assumption
 ·exfalso;repeat (split at h;· cases h)
  cases h
theorem uy (s:Q00) (set:List Nat) (i:Nat):∀ c∈(s.drop i).take (bK s set i - i),set.contains (cls c)=true:=by
 intro c hc;unfold bK at hc;rw [Hg] at hc;have:(s.drop i).take ((s.drop i).takeWhile fun c=>set.contains (cls c)).length=(s.drop i).takeWhile fun c=>set.contains (cls c):=by rw [<- List.prefix_iff_eq_take.1 (List.takeWhile_prefix _)]
 rw [this] at hc;exact Dj.1 List.all_takeWhile c hc
def upTo (a t:UInt8->Bool) (s:Q00) (k:Nat):Bool:=(List.range k).all fun j=>match s[j]? with|none=>true|some c=>if j=0 then a c else t c
theorem upTo_zero (a t:UInt8->Bool) (s:Q00):upTo a t s 0=true:=rfl
theorem upTo_succ (a t:UInt8->Bool) (s:Q00) (k:Nat) (c:UInt8) (h:s[k]?=some c):upTo a t s (k+1)=(upTo a t s k&&(if k=0 then a c else t c)):=by unfold upTo;rw [List.range_succ,Ju];simp [h]
theorem Aau (a t:UInt8->Bool) (c:UInt8) (l:Q00):upTo a t (c::l) (l.length+1)=(a c&&l.all t):=by
 unfold upTo;rw [List.range_succ_eq_map,Nu,List.all_map];congr 1;have:(List.range l.length).all ((fun j=>match (c::l)[j]? with|none=>true|some c=>if j=0 then a c else t c) ∘ Nat.succ)=(List.range l.length).all fun j=>match l[j]? with|none=>true|some c=>t c:=by apply List.all_congr rfl;intro j;simp
 rw [this];clear this;apply Fv.2;rw [Dj,Dj];constructor;·intro h x hx;obtain⟨j,hj,e⟩:=Nz hx;have:=h j (Jl.2 hj);rw [Ae hj,e] at this;exact this
 ·intro h j hj;rw [Jl] at hj;rw [Ae hj];exact h _ (Jc hj)
theorem upTo_false (a t:UInt8->Bool) (s:Q00) (k:Nat) (c:UInt8) (h:s[k]?=some c) (hc:(if k=0 then a c else t c)=false):upTo a t s s.length=false:=by unfold upTo;rw [Np];exact⟨k,Jl.2 (lS h),by rw [h];simpa using hc⟩
theorem isName_eq (s:Q00):isName s=(upTo letterB tailB s s.length&&(s != []&&ZH (s.length<=24))):=by
 cases s with
 |nil=>rfl
 |cons c l =>rw [Ap,Aau];unfold isName;rw [show (c::l != [])=true from rfl];simp
theorem qQ (s:Q00):fU s=(upTo jc nM s s.length&&(s != []&&ZH (s.length<=24))):=by
 cases s with
 |nil=>rfl
 |cons c l =>rw [Ap,Aau];unfold fU;rw [show (c::l != [])=true from rfl];simp
end
end CH
namespace Go.Proofs.Y
section
open Go.Lib Go.Proofs.Tryz Go.RowKit Go.Shelf Go.Sort CH
theorem Ay {w w':ZB} (h:∃ p:Regrown,w'=grow (redrawn w p.d) p.os):Below w w w':=by obtain⟨p,rfl⟩:=h;exact Ea w p.d p.os
end
section
open Go.Lib Go.Proofs.Tryz Go.RowKit CH
theorem Qv (s:Q00) (k:Nat) (hk:k<s.length) (c:UInt8) (h:s[k]?=some c):(⟨s.toArray⟩:ByteArray)[k]'(by show k<s.toArray.size;simpa using hk)=c:=by rw [Ae hk] at h;show s.toArray[k]'(by simpa using hk)=c;simpa using h
theorem Xx (s:Q00) (w:ZB) (hs:s.length<=4611686018427387904) :
  ZE prog 111 #[↑s] w (fun e w'=>e=.returned (.bool (CH.isName s))/\w'=w):=by
 go_in
 go_wp2_with fail
 go_loopw [8] (fun iv wr=>∃ k:Nat,k<=s.length/\iv=↑k/\Hid (CH.upTo CH.letterB CH.tailB s k=true)/\wr=w) (fun iv _=>s.length - (ZG iv).toNat)
 case atStart=>exact⟨0,Ak _,rfl,Aa (CH.upTo_zero _ _ _),rfl⟩
 case round =>
  obtain⟨k,hk,rfl,hu,rfl⟩:=hrel
  by_cases hlt:k<s.length
  ·obtain⟨ch,hch⟩:∃ ch,s[k]?=some ch:=⟨_,Ae hlt⟩
   have hgk:=Qv s k hlt ch hch
   have Hch:=Aa hch
   clear hch
   have hcb:=Fz ch
   have good:∀ b:Bool,(if k=0 then CH.letterB ch else CH.tailB ch)=b->(b=true->CH.upTo CH.letterB CH.tailB s (k+1)=true)/\(b=false->CH.isName s=false):=fun b hb =>
    ⟨fun h=>by rw [CH.upTo_succ _ _ _ _ _ Hch.out,hu.out,hb,h];rfl,fun h=>by rw [CH.isName_eq,CH.upTo_false _ _ _ _ _ Hch.out (hb.trans h)];rfl⟩
   have G:=Aa good
   clear good
   by_cases hk0:k=0
   ·subst hk0
    rcases (oM:(0<=ch.toNat/\ch.toNat<=47)\/(48<=ch.toNat/\ch.toNat<=57)\/(58<=ch.toNat/\ch.toNat<=64)\/(65<=ch.toNat/\ch.toNat<=90)\/(91<=ch.toNat/\ch.toNat<=94)\/(95<=ch.toNat/\ch.toNat<=95)\/(96<=ch.toNat/\ch.toNat<=96)\/(97<=ch.toNat/\ch.toNat<=122)\/(123<=ch.toNat/\ch.toNat<=255)) with⟨r1,r2⟩|⟨r1,r2⟩|⟨r1,r2⟩|⟨r1,r2⟩|⟨r1,r2⟩|⟨r1,r2⟩|⟨r1,r2⟩|⟨r1,r2⟩|⟨r1,r2⟩
    all_goals
     cases g97:ZH ((97:Int)<=(ch.toNat:Int)) <;> try (simp at g97;omega)
     cases l122:ZH ((ch.toNat:Int)<=(122:Int)) <;> try (simp at l122;omega)
     cases g65:ZH ((65:Int)<=(ch.toNat:Int)) <;> try (simp at g65;omega)
     cases l90:ZH ((ch.toNat:Int)<=(90:Int)) <;> try (simp at l90;omega)
     cases n95:(ch.toNat:Int) != (95:Int) <;> try (simp at n95;omega)
     cases l48:ZH ((ch.toNat:Int)<(48:Int)) <;> try (simp at l48;omega)
     cases g57:ZH ((57:Int)<(ch.toNat:Int)) <;> try (simp at g57;omega)
     cases hv:CH.letterB ch <;> try (simp [CH.letterB,CH.tailB,CH.beq_toNat] at hv;omega)
     first
     |replace hv:=Aa ((G.out _ ((Ah rfl).trans hv)).1 rfl)
      go_wp2
      go_roundw
      case rel=>exact⟨0+1,oM,by go_num,hv,trivial⟩
      case measure=>simp [ZG];omega
     |replace hv:=Aa ((G.out _ ((Ah rfl).trans hv)).2 rfl)
      go_wp2
      go_ret
      exact⟨by rw [hv.out];rfl,rfl⟩
   ·have z0:=nal k 0
    rcases (oM:(0<=ch.toNat/\ch.toNat<=47)\/(48<=ch.toNat/\ch.toNat<=57)\/(58<=ch.toNat/\ch.toNat<=64)\/(65<=ch.toNat/\ch.toNat<=90)\/(91<=ch.toNat/\ch.toNat<=94)\/(95<=ch.toNat/\ch.toNat<=95)\/(96<=ch.toNat/\ch.toNat<=96)\/(97<=ch.toNat/\ch.toNat<=122)\/(123<=ch.toNat/\ch.toNat<=255)) with⟨r1,r2⟩|⟨r1,r2⟩|⟨r1,r2⟩|⟨r1,r2⟩|⟨r1,r2⟩|⟨r1,r2⟩|⟨r1,r2⟩|⟨r1,r2⟩|⟨r1,r2⟩
    all_goals
     cases g97:ZH ((97:Int)<=(ch.toNat:Int)) <;> try (simp at g97;omega)
     cases l122:ZH ((ch.toNat:Int)<=(122:Int)) <;> try (simp at l122;omega)
     cases g65:ZH ((65:Int)<=(ch.toNat:Int)) <;> try (simp at g65;omega)
     cases l90:ZH ((ch.toNat:Int)<=(90:Int)) <;> try (simp at l90;omega)
     cases n95:(ch.toNat:Int) != (95:Int) <;> try (simp at n95;omega)
     cases l48:ZH ((ch.toNat:Int)<(48:Int)) <;> try (simp at l48;omega)
     cases g57:ZH ((57:Int)<(ch.toNat:Int)) <;> try (simp at g57;omega)
     cases hv:CH.tailB ch <;> try (simp [CH.letterB,CH.tailB,CH.beq_toNat] at hv;omega)
     first
     |replace hv:=Aa ((G.out _ ((Ai hk0).trans hv)).1 rfl)
      go_wp2
      go_roundw
      case rel=>exact⟨k+1,oM,by go_num,hv,trivial⟩
      case measure=>simp [ZG];omega
     |replace hv:=Aa ((G.out _ ((Ai hk0).trans hv)).2 rfl)
      go_wp2
      go_ret
      exact⟨by rw [hv.out];rfl,rfl⟩
  ·have e:k=s.length:=oM
   subst e
   have hres:CH.isName s=(s != []&&ZH (s.length<=24)):=by rw [CH.isName_eq,hu.out];rfl
   have Hr:=Aa hres
   clear hres
   cases s with
   |nil =>
    go_wp2
    go_ret
    exact⟨by rw [Hr.out];rfl,rfl⟩
   |cons c l =>
    have z1:((⟨(c::l).toArray⟩:ByteArray) != ⟨#[]⟩)=true:=rfl
    go_wp2
    go_ret
    refine⟨?_,rfl⟩
    rw [Hr.out]
    simp
    rw [show (c::l != [])=true from rfl,a_Bool_true_and]
    exact Ed.2 oM
theorem Wf (s:Q00) (w:ZB) (hs:s.length<=4611686018427387904) :
  ZE prog 179 #[↑s] w (fun e w'=>e=.returned (.bool (CH.isName s))/\w'=w):=by
 go_in
 go_wp2_with fail
 go_loopw [8] (fun iv wr=>∃ k:Nat,k<=s.length/\iv=↑k/\Hid (CH.upTo CH.letterB CH.tailB s k=true)/\wr=w) (fun iv _=>s.length - (ZG iv).toNat)
 case atStart=>exact⟨0,Ak _,rfl,Aa (CH.upTo_zero _ _ _),rfl⟩
 case round =>
  obtain⟨k,hk,rfl,hu,rfl⟩:=hrel
  by_cases hlt:k<s.length
  ·obtain⟨ch,hch⟩:∃ ch,s[k]?=some ch:=⟨_,Ae hlt⟩
   have hgk:=Qv s k hlt ch hch
   have Hch:=Aa hch
   clear hch
   have hcb:=Fz ch
   have good:∀ b:Bool,(if k=0 then CH.letterB ch else CH.tailB ch)=b->(b=true->CH.upTo CH.letterB CH.tailB s (k+1)=true)/\(b=false->CH.isName s=false):=fun b hb =>
    ⟨fun h=>by rw [CH.upTo_succ _ _ _ _ _ Hch.out,hu.out,hb,h];rfl,fun h=>by rw [CH.isName_eq,CH.upTo_false _ _ _ _ _ Hch.out (hb.trans h)];rfl⟩
   have G:=Aa good
   clear good
   by_cases hk0:k=0
   ·subst hk0
    rcases (oM:(0<=ch.toNat/\ch.toNat<=47)\/(48<=ch.toNat/\ch.toNat<=57)\/(58<=ch.toNat/\ch.toNat<=64)\/(65<=ch.toNat/\ch.toNat<=90)\/(91<=ch.toNat/\ch.toNat<=94)\/(95<=ch.toNat/\ch.toNat<=95)\/(96<=ch.toNat/\ch.toNat<=96)\/(97<=ch.toNat/\ch.toNat<=122)\/(123<=ch.toNat/\ch.toNat<=255)) with⟨r1,r2⟩|⟨r1,r2⟩|⟨r1,r2⟩|⟨r1,r2⟩|⟨r1,r2⟩|⟨r1,r2⟩|⟨r1,r2⟩|⟨r1,r2⟩|⟨r1,r2⟩
    all_goals
     cases g97:ZH ((97:Int)<=(ch.toNat:Int)) <;> try (simp at g97;omega)
     cases l122:ZH ((ch.toNat:Int)<=(122:Int)) <;> try (simp at l122;omega)
     cases g65:ZH ((65:Int)<=(ch.toNat:Int)) <;> try (simp at g65;omega)
     cases l90:ZH ((ch.toNat:Int)<=(90:Int)) <;> try (simp at l90;omega)
     cases n95:(ch.toNat:Int) != (95:Int) <;> try (simp at n95;omega)
     cases l48:ZH ((ch.toNat:Int)<(48:Int)) <;> try (simp at l48;omega)
     cases g57:ZH ((57:Int)<(ch.toNat:Int)) <;> try (simp at g57;omega)
     cases hv:CH.letterB ch <;> try (simp [CH.letterB,CH.tailB,CH.beq_toNat] at hv;omega)
     first
     |replace hv:=Aa ((G.out _ ((Ah rfl).trans hv)).1 rfl)
      go_wp2
      go_roundw
      case rel=>exact⟨0+1,oM,by go_num,hv,trivial⟩
      case measure=>simp [ZG];omega
     |replace hv:=Aa ((G.out _ ((Ah rfl).trans hv)).2 rfl)
      go_wp2
      go_ret
      exact⟨by rw [hv.out];rfl,rfl⟩
   ·have z0:=nal k 0
    rcases (oM:(0<=ch.toNat/\ch.toNat<=47)\/(48<=ch.toNat/\ch.toNat<=57)\/(58<=ch.toNat/\ch.toNat<=64)\/(65<=ch.toNat/\ch.toNat<=90)\/(91<=ch.toNat/\ch.toNat<=94)\/(95<=ch.toNat/\ch.toNat<=95)\/(96<=ch.toNat/\ch.toNat<=96)\/(97<=ch.toNat/\ch.toNat<=122)\/(123<=ch.toNat/\ch.toNat<=255)) with⟨r1,r2⟩|⟨r1,r2⟩|⟨r1,r2⟩|⟨r1,r2⟩|⟨r1,r2⟩|⟨r1,r2⟩|⟨r1,r2⟩|⟨r1,r2⟩|⟨r1,r2⟩
    all_goals
     cases g97:ZH ((97:Int)<=(ch.toNat:Int)) <;> try (simp at g97;omega)
     cases l122:ZH ((ch.toNat:Int)<=(122:Int)) <;> try (simp at l122;omega)
     cases g65:ZH ((65:Int)<=(ch.toNat:Int)) <;> try (simp at g65;omega)
     cases l90:ZH ((ch.toNat:Int)<=(90:Int)) <;> try (simp at l90;omega)
     cases n95:(ch.toNat:Int) != (95:Int) <;> try (simp at n95;omega)
     cases l48:ZH ((ch.toNat:Int)<(48:Int)) <;> try (simp at l48;omega)
     cases g57:ZH ((57:Int)<(ch.toNat:Int)) <;> try (simp at g57;omega)
     cases hv:CH.tailB ch <;> try (simp [CH.letterB,CH.tailB,CH.beq_toNat] at hv;omega)
     first
     |replace hv:=Aa ((G.out _ ((Ai hk0).trans hv)).1 rfl)
      go_wp2
      go_roundw
      case rel=>exact⟨k+1,oM,by go_num,hv,trivial⟩
      case measure=>simp [ZG];omega
     |replace hv:=Aa ((G.out _ ((Ai hk0).trans hv)).2 rfl)
      go_wp2
      go_ret
      exact⟨by rw [hv.out];rfl,rfl⟩
  ·have e:k=s.length:=oM
   subst e
   have hres:CH.isName s=(s != []&&ZH (s.length<=24)):=by rw [CH.isName_eq,hu.out];rfl
   have Hr:=Aa hres
   clear hres
   cases s with
   |nil =>
    go_wp2
    go_ret
    exact⟨by rw [Hr.out];rfl,rfl⟩
   |cons c l =>
    have z1:((⟨(c::l).toArray⟩:ByteArray) != ⟨#[]⟩)=true:=rfl
    go_wp2
    go_ret
    refine⟨?_,rfl⟩
    rw [Hr.out]
    simp
    rw [show (c::l != [])=true from rfl,a_Bool_true_and]
    exact Ed.2 oM
end
section
open Go.Lib Go.Proofs.Tryz Go.RowKit Go.Shelf Go.Sort CH
structure Scan (b:Nat) (s:Q00) (w:ZB):Prop where
 lt:b<w.heap.size
 text:w.cell? ⟨b,0,none⟩=some ↑s
 cls:∀ c:UInt8,w.cell? ⟨b,1+c.toNat,none⟩=some (.int .i64 (CH.cls c))
theorem Scan.below {b:Nat} {s:Q00} {w w':ZB} (h:Scan b s w) (hb:Below w w w'):Scan b s w' := ⟨Af h.lt hb.size,(hb.cell (p:=⟨b,0,none⟩) h.lt).trans h.text,fun c=>(hb.cell (p:=⟨b,1+c.toNat,none⟩) h.lt).trans (h.cls c)⟩
theorem Fig (b i:Nat) (s:Q00) (w:ZB) (hs:s.length<=1000000) (hi:i<=1000000) (hS:Scan b s w) : ZE prog 247 #[.pointer (some ⟨b,0,none⟩),↑i] w (Ret w (.int .i64 (bQ s i))):=by
 have ht:=hS.text;go_in;by_cases hlt:i<s.length
 ·obtain⟨ch,hch⟩:∃ ch,s[i]?=some ch:=⟨_,Ae hlt⟩
  have hgk:=Qv s i hlt ch hch;have hc:=hS.cls ch;have hcb:=Fz ch;have QF:((ch.toNat:Nat):Int)<256:=oM;have d1:=naj ((s.length:Int)<=(i:Int));have hv:=fF s i ch hch;have HV:=Aa hv;clear hv hch hS;go_wp2_with fail;go_quiet (fail);go_wp2;go_ret;exact⟨by rw [HV.out];rfl,Go.below_drewN (Ac _ _) _⟩
 ·have d1:=nai ((s.length:Int)<=(i:Int));have hv:=rH s i oM;have HV:=Aa hv;clear hv hS;go_wp2;go_ret;exact⟨by rw [HV.out];rfl,Ac _ _⟩
structure Nums (g:Nat) (cl:List Nat) (w:ZB):Prop where
 lt:g<w.heap.size
 cells:∀ j,j<cl.length->w.cell? ⟨g,0+j,none⟩=some (.int .i64 ((cl.map Int.ofNat).getD j 0))
theorem Nums.below {g:Nat} {cl:List Nat} {w w':ZB} (h:Nums g cl w) (hb:Below w w w'):Nums g cl w' := ⟨Af h.lt hb.size,fun j hj=>(hb.cell (p:=⟨g,0+j,none⟩) h.lt).trans (h.cells j hj)⟩
theorem E3a (cl:List Nat) (x:Nat):(((cl.map Int.ofNat).take cl.length).contains (x:Int))=cl.contains x:=by
 rw [Dz sM];rw [Fv];simp;constructor;·rintro⟨a,h,e⟩;have:a=x:=oM;rw [<- this];exact h
 ·intro h;exact⟨x,h,rfl⟩
theorem P8 (b i g cap:Nat) (s:Q00) (cl:List Nat) (w:ZB) (hs:s.length<=1000000) (hi:i<=s.length) (hcl:cl.length<=10) (hS:Scan b s w) (hN:Nums g cl w) : ZE prog 246 #[.pointer (some ⟨b,0,none⟩),↑i,.slice (some ⟨g,0,none⟩) cl.length cap] w (Ret w (.int .i64 (bK s cl i))):=by
 go_in;generalize hcn:cl.length=cn at *;go_wp2_with fail;go_loopw [1] (fun iv wr=>∃ k:Nat,k<=s.length/\iv=↑k/\Hid (bK s cl k=bK s cl i)/\Below w w wr) (fun iv _=>s.length - (ZG iv).toNat);case atStart=>exact⟨i,hi,rfl,Aa rfl,Ac _ _⟩
 case round =>
  obtain⟨k,hk,rfl,hu,hb⟩:=hrel;have hS1:=hS.below hb;have hN1:=hN.below hb;have ht:=hS1.text;by_cases hlt:k<s.length
  ·have d1:=nai ((k:Int)<(s.length:Int));have A:=Aa (Fig b k s wr hs oM hS1);clear hS hS1;go_wp2_with fail;refine CmZ A.out fun w1 hb1=>?_;have hN2:=hN1.below hb1;have C:=Aa (Tryz.slices_Contains_int g 0 cn cap (cl.map Int.ofNat) (bQ s k) w1 naf oM (fun j hj=>hN2.cells j (by simpa using hj)));clear A hN hN1 hN2;generalize hx:bQ s k=x at *;go_wp2_with fail;refine C.out.mono ?_;clear C;rw [<- hcn,E3a];rintro e w2 ⟨rfl,hw2⟩;subst hw2;have hb2:=hb.trans (hb1.mono hb.size);cases hc:cl.contains x with
   |true =>
    have hg:=hu.out;rw [nI s cl k hlt (by rw [hx];exact hc)] at hg;have HG:=Aa hg;clear hg hu;go_wp2;go_roundw;case rel=>exact⟨k+1,oM,by go_num,HG,hb2⟩
    case measure=>simp [ZG];omega
   |false =>have hg:=hu.out;rw [oW s cl k (.inr (by rw [hx];exact hc))] at hg;have HG:=Aa hg;clear hg hu;go_wp2;go_ret;exact⟨by rw [<- HG.out];rfl,hb2⟩
  ·have d1:=naj ((k:Int)<(s.length:Int));have hg:=hu.out;rw [oW s cl k (.inl oM)] at hg;have HG:=Aa hg;clear hg hu hS hS1 hN hN1;go_wp2;go_ret;exact⟨by rw [<- HG.out];rfl,hb⟩
theorem Ex (s:Q00) (p:Nat):(ByteArray.mk s.toArray).extract p s.length=⟨(s.drop p).toArray⟩:=by rw [J5];simp;rw [Dz sM]
theorem Fu (s:Q00) (p q:Nat):(ByteArray.mk s.toArray).extract p q=⟨((s.drop p).take (q - p)).toArray⟩:=by rw [J5]
theorem Tw (c:UInt8):∀ l:Q00,Lib.indexByte l c=match l.findIdx? (·==c) with|none=>-1|some n=>(n:Int):=by
 intro l;induction l with
 |nil=>rfl
 |cons b l ih =>
  rw [Lib.indexByte,List.findIdx?_cons,ih];by_cases h:b==c;·simp [h]
  ·cases hf:l.findIdx? (·==c) with
   |none=>simp [h]
   |some n =>have:¬ ((n:Int) = -1):=oM;simp [h,this]
theorem Tl (w:ZB) (cl:List Nat) (t:ZJ):Nums w cl (w.alloc (.cells (cl.map fun c=>Value.int .i64 (c:Nat)).toArray t)):=by refine⟨sM,fun j hj=>?_⟩;rw [Cb];simp [hj]
theorem I43 (b i:Nat) (s:Q00) (w:ZB) (hs:s.length<=1000000) (hi:i<=s.length) (hS:Scan b s w) : ZE prog 188 #[.pointer (some ⟨b,0,none⟩),↑i] w (Ret w (.int .i64 (CH.gap s i))):=by
 have hBa:∀ o,Below w w (w.alloc o):=fun o=>(Ac _ w).alloc nR _;have A:=Aa fun t=>P8 b i w 1 s [1] (w.alloc (.cells #[.int .i64 1] t)) hs hi dC (hS.below (hBa _)) (Tl w [1] t);go_in;go_wp2_with fail;refine CmZ (A.out _) fun w1 hb1=>?_;have hb1':=(hBa _).trans (hb1.mono sM);clear hb1 A hBa;have hwl:=jK s [1] i hi;generalize hpp:bK s [1] i=p at *;go_wp2_with fail;go_loopw [1] (fun iv wr=>∃ k:Nat,k<=s.length/\bK s [1] k<=s.length/\iv=.int .i64 (bK s [1] k)/\Hid (CH.gap s k=CH.gap s i)/\Below w w wr) (fun iv _=>s.length+1 - (ZG iv).toNat);case atStart=>exact⟨i,hi,by rw [hpp];exact hwl,by rw [hpp],Aa rfl,hb1'⟩
 case round =>
  obtain⟨k,hk,hkl,rfl,hu,hb⟩:=hrel;have PL:=iE s [1] k;have hS1:=hS.below hb;have ht:=hS1.text;have A:=Aa (Fig b (bK s [1] k) s wr hs oM hS1);have hq:∃ q,Hid (q=bK s [1] k):=⟨_,Aa rfl⟩
  obtain⟨q,hq⟩:=hq;rw [<- hq.out] at A hkl PL ⊢;clear hS1;go_wp2_with fail;refine CmZ A.out fun w1 hb1=>?_;clear A;have hbn:=hb.trans (hb1.mono hb.size);have hS2:=hS.below hbn;have ht2:=hS2.text;by_cases hc:bQ s q=2
  ·have hlt:q<s.length:=by apply Ik;intro hn;rw [rH s q oM] at hc;exact absurd hc dC
   rw [hc];cases hf:(s.drop q).findIdx? (·==10) with
   |none =>
    have HR:=Aa (hu.out.symm.trans (zI s k hk (by rw [<- hq.out];exact hc) (by rw [<- hq.out];exact hf)));have hI:Lib.indexByte (ByteArray.mk (s.drop q).toArray).data.toList ((10:Int).toNat.toUInt8) = -1:=by show Lib.indexByte (s.drop q) 10 = -1;rw [Tw,hf]
    have C:=Aa (Tryz.strings_IndexByte ((ByteArray.mk s.toArray).extract q s.length) 10 w1);rw [Ex,hI] at C;clear hu hc hf hI hS2;go_wp2_with fail;rw [Ex];refine CmZ C.out fun w2 hw2=>?_;subst hw2;clear C;go_wp2;go_ret;exact⟨by rw [HR.out];rfl,hbn⟩
   |some n =>
    obtain⟨g1,g2,g3⟩:=zH s k n hk (by rw [<- hq.out];exact hc) (by rw [<- hq.out];exact hf);rw [<- hq.out] at g1 g2 g3;have HR:=Aa (g1.symm.trans hu.out);have hI:Lib.indexByte (ByteArray.mk (s.drop q).toArray).data.toList ((10:Int).toNat.toUInt8)=n:=by show Lib.indexByte (s.drop q) 10=n;rw [Tw,hf]
    have C:=Aa (Tryz.strings_IndexByte ((ByteArray.mk s.toArray).extract q s.length) 10 w1);rw [Ex,hI] at C;have hw:=iE s [1] (q+n);have OD:=jK s [1] (q+n) oM;have hn0:n≠0:=by
     intro e;subst e;obtain⟨_,hb0,_⟩:=F9.1 hf;have hg:=Ae hlt;rw [fF s _ _ hg] at hc;have:s[q]=10:=by simpa using hb0
     rw [this] at hc;exact absurd hc dC
    clear hu hc hf hI g1;have d1:ZH ((n:Int)<0)=false:=sM;have hBa:∀ o,Below w1 w1 (w1.alloc o):=fun o=>(Ac _ w1).alloc nR _;have A:=Aa fun t=>P8 b (q+n) w1.heap.size 1 s [1] (w1.alloc (.cells #[.int .i64 1] t)) hs oM dC (hS2.below (hBa _)) (Tl w1 [1] t);clear hS2;go_wp2_with fail;rw [Ex];refine CmZ C.out fun w2 hw2=>?_;subst hw2;clear C;go_wp2_with fail;refine CmZ (A.out _) fun w3 hb3=>?_;clear A;have fK:=hbn.trans (((hBa _).trans (hb3.mono sM)).mono hbn.size);clear hb3;go_wp2;go_roundw;case rel=>exact⟨q+n,oM,OD,rfl,HR,fK⟩
    case measure=>simp [ZG];omega
  ·have d1:((bQ s q:Int)==2)=false:=naf;have HR:=Aa (hu.out.symm.trans (uZ s k hk (by rw [<- hq.out];exact hc)));rw [<- hq.out] at HR;generalize bQ s q=x at *;clear hS2;go_wp2;go_ret;exact⟨by rw [HR.out];rfl,hbn⟩
end
end Go.Proofs.Y
abbrev Q01:=CH.Version
abbrev Q02:=CH.Act
abbrev Q03:=CH.Tok
abbrev Q05:=CH.Name
abbrev Q07:=CH.Change
