/- ChainTexts, part 14 of 31. -/
import Derived.Test.YtkboocifdaebgaaGreatDoorP12
set_option linter.all false
set_option maxHeartbeats 40000000
set_option maxRecDepth 100000
open Go renaming World -> ZB, Value -> ZC, Calls -> ZE
namespace Go.Proofs.Y
section
open Go.Lib Go.Proofs.Tryz Go.RowKit Go.Shelf Go.Sort CH
variable {w w':ZB} {ops:Array Oper} {rest:List Oper} {a:Option Addr} {Q:Exit->Act->ZB->Prop} {q:Nat->Bool} {p n B base:Nat} {v:ZC} {R:List Nat} {ts:List Q03} {s:CH.St} {T:TypeId} {f:CH.Formula} {fs:List CH.Formula}
structure Gp (w:ZB):Prop where
 gc:Gc w
 syn:∃ ev,w.cell? ⟨3,0,none⟩=some ev/\(ev=.nilIface\/∃ te pe,ev=.iface te pe)
 rng:∃ ev,w.cell? ⟨4,0,none⟩=some ev/\(ev=.nilIface\/∃ te pe,ev=.iface te pe)
 spaces:Lib.TabIs prog w "strings.asciiSpace" .u8 Lib.asciiSpaceTab
 white:Lib.WhiteTab 1 w
theorem Gp.below (h:Gp w) (hb:Below w w w'):Gp w' where
 gc:=h.gc.below hb
 syn:=by
  obtain⟨ev,h1,h2⟩:=h.syn
  exact⟨ev,(hb.cell (Bd w _ h1)).trans h1,h2⟩
 rng:=by
  obtain⟨ev,h1,h2⟩:=h.rng
  exact⟨ev,(hb.cell (Bd w _ h1)).trans h1,h2⟩
 spaces:=var?_below hb kR (g:=0) (Af dC h.gc.gl.size) h.spaces
 white:=WhiteTab_below h.white hb
theorem Xg {c:UInt8}:∀ {s a b:Q00},iG c s=some (a,b)->s=a++c::b
 |[],_,_,h=>by cases h
 |x::s,a,b,h=>by
  unfold iG at h
  split at h
  ·rename_i e
   cases h
   rw [e]
   rfl
  ·obtain⟨p,hp,e⟩:=F7.1 h
   cases e
   rw [Xg hp]
   rfl
theorem Sc (c:UInt8):∀ s:Q00,Lib.indexByte s c=match iG c s with|none=>-1|some p=>(p.1.length:Int)
 |[]=>rfl
 |x::s=>by
  unfold Lib.indexByte iG
  by_cases e:x=c
  ·subst e
   simp
  ·rw [Ai (by simpa using e),Ai e,Sc c s]
   cases iG c s with
   |none=>rfl
   |some p =>
    have:((p.1.length:Int)==-1)=false:=Dl.2 oM
    show (if ((p.1.length:Int)==-1)=true then (-1:Int) else (p.1.length:Int)+1)=(((x::p.1).length:Nat):Int)
    rw [this,Ai dC,Ap]
    omega
theorem Ggu (s:Q00) (c:UInt8) (w:ZB) (hs:s.length<=1000000) : ZE prog 71 #[↑s,.string ⟨#[c]⟩] w (Ret w (.tuple #[.string ⟨(CH.cut c s).1.toArray⟩,.string ⟨(CH.cut c s).2.toArray⟩,.bool (iG c s).isSome])):=by
 have IX:=Aa (Tryz.stringslite_Index_one ⟨s.toArray⟩ c w);have hi:=Sc c s;cases hc:iG c s with
 |none =>
  rw [hc] at hi;have IX:Hid (ZE prog 141 #[↑s,.string ⟨#[c]⟩] w fun e w'=>e=.returned (.int .i64 (-1))/\w'=w):=by have:=IX.out;rw [show Lib.indexByte (⟨s.toArray⟩:ByteArray).data.toList c = -1 from hi] at this;exact Aa this
  have e1:CH.cut c s=(s,[]):=by unfold CH.cut;rw [hc];rfl
  rw [e1];clear hi hc;go_in;go_wp2_with fail;refine IX.out.mono ?_;rintro e w1 ⟨rfl,rfl⟩;go_wp2;go_ret3;exact⟨rfl,Ac _ _⟩
 |some p =>
  obtain⟨a,b⟩:=p;rw [hc] at hi;have IX:Hid (ZE prog 141 #[↑s,.string ⟨#[c]⟩] w fun e w'=>e=.returned (.int .i64 (a.length:Int))/\w'=w):=by have:=IX.out;rw [show Lib.indexByte (⟨s.toArray⟩:ByteArray).data.toList c=(a.length:Int) from hi] at this;exact Aa this
  have e1:CH.cut c s=(a,b):=by unfold CH.cut;rw [hc];rfl
  have hsp:=Xg hc;have x1:(⟨a.toArray⟩:ByteArray)=(⟨s.toArray⟩:ByteArray).extract 0 a.length:=by
   rw [Lib.extract_eq];show _=(⟨((s.drop 0).take (a.length - 0)).toArray⟩:ByteArray)
   rw [hsp];simp
  have x2:(⟨b.toArray⟩:ByteArray)=(⟨s.toArray⟩:ByteArray).extract (a.length+1) s.length:=by
   rw [Lib.extract_eq];show _=(⟨((s.drop (a.length+1)).take (s.length - (a.length+1))).toArray⟩:ByteArray)
   have:s.drop (a.length+1)=b:=by rw [hsp,<- List.drop_drop,List.drop_left];rfl
   rw [this,Dz (by rw [hsp];simp;omega)]
  have hl:a.length+1+b.length=s.length:=by rw [hsp];simp;omega
  rw [e1];dsimp only;rw [x1,x2];have c1:(0:Int)<=(a.length:Int):=oM;have c2:(a.length:Int)<=(s.length:Int):=oM;have c3:(0:Int)<=(a.length:Int)+1:=oM;have c4:(a.length:Int)+1<=(s.length:Int):=oM;clear hi hc e1 hsp x1 x2;go_in;go_wp2_with fail;refine IX.out.mono ?_;rintro e w1 ⟨rfl,rfl⟩;clear IX;go_wp2_with fail;go_region;go_wp2;go_ret3;exact⟨rfl,Go.below_drewN (Ac _ _) _⟩
theorem Ex2 (s:Q00) (c:UInt8) (w:ZB) (hs:s.length<=1000000) : ZE prog 28 #[↑s,.string ⟨#[c]⟩] w (Ret w (.tuple #[.string ⟨(CH.cut c s).1.toArray⟩,.string ⟨(CH.cut c s).2.toArray⟩,.bool (iG c s).isSome])):=by have LC:=Aa (Ggu s c w hs);go_in;go_wp2_with fail;refine CmZ LC.out fun w1 hb=>?_;go_wp2;go_ret3;exact⟨rfl,hb⟩
theorem Fri (c:UInt8):∀ (k:Nat) (s:Q00),Lib.splitK [c] 0 k s=jS c k s
 |0,s=>rfl
 |k+1,s=>by
  unfold Lib.splitK jS
  have hi:=Sc c s
  rw [Lib.index_one]
  cases hc:iG c s with
  |none =>
   rw [hc] at hi
   rw [hi]
   rfl
  |some p =>
   obtain⟨a,b⟩:=p
   rw [hc] at hi
   have hi:Lib.indexByte s c=(a.length:Int):=hi
   have:((a.length:Int)==-1)=false:=Dl.2 oM
   rw [hi,this,Ai dC,Xg hc]
   show List.take ((a.length:Int).toNat+0) (a++c::b)::_=a::jS c k b
   rw [Int.toNat_natCast,Hu,List.take_left,<- Fri c k b]
   congr 1
   show Lib.splitK [c] 0 k (List.drop (a.length+1) (a++c::b))=_
   rw [<- List.drop_drop,List.drop_left]
   rfl
theorem Xr (c:UInt8) (s:Q00):(Lib.splitB ⟨#[c]⟩ 0 (Lib.countB ⟨s.toArray⟩ ⟨#[c]⟩) ⟨s.toArray⟩).map Value.string=(CH.split c s).map ay:=by have h1:Lib.countB ⟨s.toArray⟩ ⟨#[c]⟩=s.count c:=Lib.count_one c s;have h2:=Lib.splitB_data ⟨#[c]⟩ 0 (s.count c) ⟨s.toArray⟩;have h3:(Lib.splitB ⟨#[c]⟩ 0 (s.count c) ⟨s.toArray⟩).map (·.data.toList)=CH.split c s:=h2.trans (Fri c _ s);rw [h1,<- h3,Ll];refine List.map_congr_left fun b _=>?_;show Value.string b=Value.string ⟨b.data.toList.toArray⟩;rw [Array.toArray_toList]
theorem V8 (c:UInt8) (s:Q00):(CH.split c s).length<=s.length+1:=by
 have hle:Lib.countB ⟨s.toArray⟩ ⟨#[c]⟩<=(⟨s.toArray⟩:ByteArray).size:=Lib.countB_le ⟨#[c]⟩ (Au 1) _ _ nR;have hsz:(⟨s.toArray⟩:ByteArray).size=s.length:=by show s.toArray.size=_;simp
 have hlen:=Lib.splitB_all ⟨#[c]⟩ (Au 1) 0 _ ⟨s.toArray⟩ rfl;have:=congrArg List.length (Xr c s);rw [Ce,Ce,hlen] at this;omega
theorem Clz (s:Q00) (c:UInt8) (w:ZB) (hs:s.length<=1000000) : ZE prog 23 #[↑s,.string ⟨#[c]⟩] w fun e w'=>∃ v b,e=.returned v/\v=.slice (some ⟨b,0,none⟩) (CH.split c s).length (CH.split c s).length/\Av w w' v (CH.split c s)/\Below w w w':=by
 have hle:Lib.countB ⟨s.toArray⟩ ⟨#[c]⟩<=(⟨s.toArray⟩:ByteArray).size:=Lib.countB_le ⟨#[c]⟩ (Au 1) _ _ nR;have hsz:(⟨s.toArray⟩:ByteArray).size=s.length:=by show s.toArray.size=_;simp
 have hlen:=Lib.splitB_all ⟨#[c]⟩ (Au 1) 0 _ ⟨s.toArray⟩ rfl;have hv:=Xr c s;have G:=Any.strings_genSplit_core lays221 kR ⟨s.toArray⟩ ⟨#[c]⟩ 0 (-1) (Lib.countB ⟨s.toArray⟩ ⟨#[c]⟩+1) w (by rw [hsz];omega) (Au 1) (Ak _) (fun x cc _=>(Tryz.strings_Index_one x c _).mono fun e w' ⟨h1,h2⟩=>⟨by rw [h1];show _=Ending.returned (Value.int .i64 (Lib.index x.data.toList [c]));rw [Lib.index_one],h2⟩) ((Tryz.strings_Count_one ⟨s.toArray⟩ c w).mono fun e w' ⟨h1,h2⟩=>⟨by rw [h1];show _=Ending.returned (Value.int .i64 ((Lib.count s [c]:Nat):Int));rw [Lib.count_one];rfl,h2⟩) dC dC (by rw [Ah dC];omega);rw [Nat.add_sub_cancel,hlen] at G;have e2:Lib.cellsOf (Lib.splitB ⟨#[c]⟩ 0 (Lib.countB ⟨s.toArray⟩ ⟨#[c]⟩) ⟨s.toArray⟩) (Lib.countB ⟨s.toArray⟩ ⟨#[c]⟩+1)=((CH.split c s).map ay).toArray:=by rw [<- hlen,Lib.cellsOf_full,hv]
 rw [e2] at G;have hcl:(CH.split c s).length=Lib.countB ⟨s.toArray⟩ ⟨#[c]⟩+1:=by have:=congrArg List.length hv;simpa [hlen] using this.symm
 rw [<- hcl] at G;have G:Hid (ZE prog 61 #[↑s,.string ⟨#[c]⟩,.int .i64 0,.int .i64 (-1)] w fun e w'=>e=.returned (.slice (some ⟨w,0,none⟩) (CH.split c s).length (CH.split c s).length)/\w'=w.alloc (.cells ((CH.split c s).map ay).toArray 9)):=Aa G;have hcs:(CH.split c s).length<=1000001:=by rw [hcl];omega
 clear hle hlen hv e2 hcl;generalize CH.split c s=ls at *;go_in;go_wp2_with fail;refine G.out.mono ?_;rintro e w1 ⟨rfl,rfl⟩;go_wp2;go_ret;exact⟨_,w.heap.size,rfl,rfl,⟨sM,.inr ⟨w,ls.length,(ls.map ay).toArray,rfl,Au _,Ag w _,Au _,by unfold maxLen;omega,sM,by simp [List.take_of_length_le]⟩⟩,(Below.refl _ w).alloc (Nat.le_refl _) _⟩
theorem Qt (s:Q00) (w:ZB) (hs:s.length<=1000000) (hG:Gp w):ZE prog 25 #[↑s] w (Ret w (.int .i64 (bY s))):=by
 have hsz:(⟨s.toArray⟩:ByteArray).size=s.length:=by show s.toArray.size=_;simp
 by_cases h:s=[45]
 ·subst h;exact FD64
 ·have hv:∀ v,(match Lib.atoiAll s with|.ok v=>v|.range=>Lib.atoiSat s|_=>0)=v->bY s=v:=fun v e=>by rw [<- e];unfold bY;rw [Ai h];cases Lib.atoiAll s <;> rfl
  have q:(s==[45])=false:=by simpa using h
  have AT:Hid (ZE prog 62 #[↑s] w fun e w'=>∃ x,e=.returned (.tuple #[.int .i64 (bY s),x])/\Below w w w'):=by
   obtain⟨ev,h1,h2⟩:=hG.syn;obtain⟨rv,h3,h4⟩:=hG.rng;cases ha:Lib.atoiAll s with
   |ok v =>
    rw [hv v (by rw [ha])];refine Aa ((Tryz.strconv_Atoi_ok ⟨s.toArray⟩ (by rw [hsz];omega) v ha w).mono fun e w' ⟨h1,h2⟩=>⟨_,h1,?_⟩);rcases h2 with rfl|⟨t,rfl⟩;·exact Ac _ _
    ·exact Lib.bytesWorld_below _ _ _
   |range =>rw [hv (Lib.atoiSat s) (by rw [ha])];exact Aa ((Tryz.strconv_Atoi_range ⟨s.toArray⟩ (by rw [hsz];omega) ha rv w h3 h4).mono fun e w' ⟨N,q1,_,_,q4⟩=>⟨_,q1,q4⟩)
   |_ =>rw [hv 0 (by rw [ha])];exact Aa ((Tryz.strconv_Atoi_syntax ⟨s.toArray⟩ (by rw [hsz];omega) ha ev w h1 h2).mono fun e w' ⟨N,q1,_,_,q4⟩=>⟨_,q1,q4⟩)
  generalize bY s=n at *;clear hv;go_in;go_wp2_with fail;refine AT.out.mono ?_;rintro e w1 ⟨x,rfl,hb⟩;go_wp2;go_ret;exact⟨rfl,hb⟩
theorem T7 (s:Q00) (w:ZB):ZE prog 26 #[↑s] w (Ret w (.string ⟨(mF s).toArray⟩)):=by
 unfold mF;by_cases h:s=[45]
 ·subst h;exact FD64
 ·rw [Ai h];have q:(s==[45])=false:=by simpa using h
  exact FD64
theorem Zt {P:Program} (w:ZB) (t xt ty e:TypeId) (i:TypeInfo) (ht:P.underlying t=some (.slice e)) (hx:P.underlying xt=some (.int .i64)) (hi:P.info? e=some i) (hz:i.zero=some (.string ByteArray.empty)) (hs:i.size=1) (hb:i.bytes=16) (b:Addr) (n:Nat) (olds:List ZC) (hlo:olds.length=n) (holds:∀ j v,olds[j]?=some v->w.cell? (b.add j)=some v) (hn:n<=10000000) : (Builtin.append_ #[t,xt] ty #[.slice (some b) n n,.int .i64 10]).run P w = .ok (.slice (some ⟨w,0,none⟩) (n+10) (grownCap w (n+10) n e)) (w.drew.alloc (.cells ((olds++List.replicate 10 (Value.string ByteArray.empty)).toArray++Builtin.zeroCells #[.string ByteArray.empty] (grownCap w (n+10) n e - (n+10))) e)):=by
 have h0:¬ (n+10<=n):=oM;have h48:¬ (281474976710656<Builtin.nextslicecap (n+10) n*16):=by have:=Go.growslice_fits (need:=n+10) (old:=n) (bytes:=16) oM oM;omega
 have hfo:=run_firstCells_some (P:=P) w.drew 1 n b n n olds oM (by simpa using holds);have hw:IntKind.i64.wrap 10=10:=dC;simp [Builtin.append_,Dv ht,Dv hx,sizeOf,typeInfo,zeroValue,hi,hz,hs,hb,asInt,asIntOf,hw,h0,h48,Question.forced,hfo,newRow,grownCap,Value.cells];have OA:Builtin.zeroCells #[Value.string ByteArray.empty] 10=(List.replicate 10 (Value.string ByteArray.empty)).toArray:=by
  apply Array.ext;·simp [Builtin.zeroCells]
  ·intro j h1 h2;simp only [Builtin.zeroCells,Array.getElem_map,Array.getElem_range,List.getElem_toArray,List.getElem_replicate];have:j % (#[Value.string ByteArray.empty]:Array ZC).size=0:=Nat.mod_one j;rw [this];rfl
 rw [Ai oM,OA];congr 2;apply congrArg (fun c=>Obj.cells c e (0,0));apply Array.ext';simp
theorem Uj {o:Oper} {a:Act} (hgd:o.guard=none) (s x:Operand) (ho:o.op=.call { callee:=.builtin .append,args:=#[s,x],argTypes:=#[23,3] }) (base:Nat) (v:ZC) (ls:List Q00) (hs:a.eval s=v) (hx:a.eval x=.int .i64 10) (hown:Av base w v ls) (b:Nat) (hv:v=.slice (some ⟨b,0,none⟩) ls.length ls.length) (hn:ls.length<=10000000) (hbase:base<=w.heap.size) (h:∀ v' w',Av base w' v' (ls++List.replicate 10 [])->Below w w w'->wpList prog ops Q rest (a.put o.dst v') w'):wpList prog ops Q (o::rest) a w:=by
 obtain⟨i,hi,hz0,hz1,hz2⟩:=Jb Ur;have kj:∀ j u,(ls.map ay)[j]?=some u->w.cell? ((⟨b,0,none⟩:Addr).add j)=some u:=World.ownsRow.cells (g:=b) hown (by rw [hv];rfl);have hr:=Zt (P:=prog) w 23 3 o.type 9 i underlying23 underlying3 hi hz0 hz1 hz2 ⟨b,0,none⟩ ls.length (ls.map ay) sM kj hn;refine wpList_plain hgd fun K hK=>?_;unfold Oper.wp execOp;simp only [ho,resolve,invoke,builtin,I9,Lh,Io,List.map_toArray,Gg,Ja,hs,hx,hv,hr];refine hK _ _ (h _ _ ?_ ?_)
 ·have hge:=grownCap_ge w (ls.length+10) ls.length 9;have hcm:=grownCap_le_maxLen w (ls.length+10) ls.length 9 (by unfold maxLen;omega);refine⟨sM,.inr ⟨w,_,_,sM,hbase,Ag w.drew _,by simpa using hge,hcm,?_,?_⟩⟩;·simp [Builtin.zeroCells];omega
  ·simp only [Array.toList_append];rw [List.take_append_of_le_length sM,Dz sM,Gi,List.map_replicate];rfl
 ·exact (Ac _ w).drew.alloc nR _
theorem Tn (s:Q00) (w:ZB) (hs:s.length<=1000000) : ZE prog 24 #[↑s] w fun e w'=>∃ v,e=.returned v/\Av w w' v (CH.spl s)/\Below w w w':=by
 have SP:=Aa (Clz s 32 w hs);have hl:(CH.split 32 s).length<=10000000:=by have:=V8 32 s;omega
 unfold CH.spl;generalize CH.split 32 s=ls at *;go_in;go_wp2_with fail;refine SP.out.mono ?_;rintro e w1 ⟨v,b,rfl,rfl,hO,hb⟩;go_wp2_with (refine Uj rfl _ _ rfl w _ ls rfl rfl hO b rfl hl hb.size ?_;intro v2 w2 hO2 hb2)
 go_ret;exact⟨_,rfl,hO2,hb.trans (hb2.mono hb.size)⟩
theorem X8 (W:ZB) (x:Q00):FnGives prog 74 #[] #[encStr x] (.bool (x==[])) W:=by
 have he:((⟨x.toArray⟩:ByteArray)==⟨#[]⟩)=(x==[]):=by cases x <;> rfl
 unfold FnGives encStr;go_in;go_wp2;go_ret;exact⟨sM,0,rfl⟩
theorem Tx (b off n c:Nat) (ls:List Q00) (w:ZB) (hn:n=ls.length) (hl:ls.length<=10000000) (hc:∀ j,j<ls.length->w.cell? ⟨b,off+j,none⟩=some (ay (ls.getD j []))) : ZE prog 30 #[.slice (some ⟨b,off,none⟩) n c] w fun e w'=>∃ v,e=.returned v/\Av w w' v (CH.fill ls)/\Below w w w':=by
 subst hn;have G:=Aa (Tryz.slices_Clone_string b off ls.length c (ls.map fun x=>⟨x.toArray⟩) w sM oM fun j hj=>by
  have hj':j<ls.length:=by simpa using hj
  rw [hc j hj'];simp [ay,List.getD,Ae hj'])
 obtain⟨kp,hkp,hl2⟩:∃ kp,Hid (CH.fill ls=kp)/\kp.length<=ls.length:=⟨_,Aa rfl,List.length_filter_le _ _⟩
 rw [hkp.out];go_in;go_wp2_with fail;refine G.out.mono ?_;rintro e w1 ⟨v,rfl,hO,hne,hb⟩;rcases hO.2 with⟨h0,_⟩|⟨g,cap,cur,hv,hg,hh,h1,h2,h3,h4⟩;·exact absurd h0 hne
 subst hv;have h4':cur.toList.take ls.length=ls.map encStr:=by rw [Nat.mul_one] at h4;rw [h4,Dz sM,Ll];rfl
 have hH:Holds encStr w1 g 0 ls.toArray:=holds_of_block hh h4';have D:=Aa (Tryz.slices_DeleteFunc encStr (fun _=>rfl) (fun x=>x==[]) 74 #[] (enters_of func74 kR rfl) [] (fun w=>zeroValue9 w) g 0 cap ls.toArray w1 (fun W x _=>X8 W x) (fun n os dk x _=>X8 _ x) hH naf (by simpa using h1));simp only [Gu] at D;rw [show (ls.filter fun x=>!(x==[]))=kp from hkp.out] at D;clear hkp;go_wp2_with (refine D.out.mono ?_;rintro e w2 ⟨rfl,q,rfl⟩)
 go_ret;have hz:∀ zs:List Q00,(kp++zs).length=ls.length->Av w (putRow encStr (Sort.ahead w1 q) g 0 (kp++zs).toArray) (.slice (some ⟨g,0,none⟩) kp.length cap) kp/\Below w w (putRow encStr (Sort.ahead w1 q) g 0 (kp++zs).toArray):=fun zs hzs=>by
  have h:=heap_sorted (n:=q) (os:=#[]) (kp++zs).toArray hh;rw [grow_empty] at h;have ht:=take_putCells cur (kp++zs) oM;refine⟨⟨sM,.inr ⟨g,cap,_,rfl,hg,h,oM,h2,by simp [putCells,h3],?_⟩⟩,?_⟩
  ·have:=congrArg (List.take kp.length) ht;rw [List.take_take,Nat.min_eq_left sM,<- List.map_take,List.take_left'] at this;·exact FD86
   ·rfl
  ·have hG:=grownBy_sorted (w:=w1) (g:=g) (n:=q) (os:=#[]) (kp++zs).toArray;rw [grow_empty] at hG;exact hb.trans ⟨hG.os,hG.tape,hG.output,hG.size,fun k hk=>hG.block k (by have:=hb.size;omega) (fun e=>by cases e;omega)⟩
 have hzz:=hz (List.replicate (ls.length - kp.length) []) naf;exact⟨_,rfl,hzz.1,hzz.2⟩
def Kk (q:Nat->Bool) (w:ZB):ZB:={ w with heap:=w.heap.mapIdx fun i o=>if q i then .deferred (some []) else o }
abbrev era (n:Nat) (w:ZB):ZB:=Kk (fun k=>decide (k<n)) w
theorem P7 (q:Nat->Bool) (w:ZB) (k:Nat):(Kk q w).heap[k]?=(w.heap[k]?).map fun o=>if q k then .deferred (some []) else o:=by simp [Kk]
theorem G0 (q:Nat->Bool) (w:ZB):(Kk q w).heap.size=w.heap.size:=by simp [Kk]
theorem Vw {p:Addr} (h:(Kk q w).cell? p=some v):q p.block=false/\w.cell? p=some v:=by
 cases hq:q p.block with
 |true =>
  exfalso;cases hw:w.heap[p.block]? with
  |none=>simp [World.cell?,P7,hw] at h
  |some o=>simp [World.cell?,P7,hw,hq] at h
 |false =>refine⟨rfl,?_⟩;rw [<- h];refine (Dd ?_).symm;rw [P7];cases w.heap[p.block]? <;> simp [hq]
theorem Mz {p:Addr} (h:w.cell? p=some v) (hq:q p.block=false):(Kk q w).cell? p=some v:=by rw [<- h];refine Dd ?_;rw [P7];cases w.heap[p.block]? <;> simp [hq]
theorem Hi {q':Nat->Bool} (h:∀ p v,w.cell? p=some v->q p.block=false->w'.cell? p=some v/\q' p.block=false):Cells (Kk q w) (Kk q' w'):=fun p v hp=>by obtain⟨h1,h2⟩:=Vw hp;obtain⟨h3,h4⟩:=h p v h2 h1;exact Mz h3 h4
theorem Kj (q:Nat->Bool) (w:ZB):Cells (Kk q w) w:=fun _ _ h=>(Vw h).2
theorem Sh (h:Held R w w') (hR:∀ r∈R,q r=true):Cells (Kk q w) (Kk q w') :=
 Hi fun p v hp hq=>⟨by
  rw [Dd (h.block _ (Bd w p hp) fun hr=>by rw [hR _ hr] at hq;cases hq)]
  exact hp,hq⟩
theorem Bw (h:Held R w w') (hR:∀ r∈R,r<n):Cells (era n w) (era n w'):=Sh h fun r hr=>Di (hR r hr)
theorem Eg {m:Nat} (h:m<=n):Cells (era n w) (era m w):=Hi fun p v hp hq=>⟨hp,by (rw [Dw] at hq ⊢;omega)⟩
def El (B:Nat) (w:ZB) (v:ZC) (ts:List Q03):Prop := ∃ a cap,v=.slice a ts.length cap/\ts.length<=cap/\cap<=9223372036854775807 /\ (ts≠[]->∃ b off,a=some ⟨b,off,none⟩/\b<B/\∀ j t,ts[j]?=some t->∀ i u,(A7 t)[i]?=some u->w.cell? ⟨b,off+j*4+i,none⟩=some u)
theorem El.held (h:El B w v ts) (hh:Held R w w') (hR:∀ r∈R,B<=r) (hB:B<=w.heap.size):El B w' v ts:=by obtain⟨a,cap,h1,h2,h3,h4⟩:=h;refine⟨a,cap,h1,h2,h3,fun hne=>?_⟩;obtain⟨b,off,e,hlt,hc⟩:=h4 hne;exact⟨b,off,e,hlt,fun j t hj i u hi=>((hh.below hB hR).cell (p:=⟨b,off+j*4+i,none⟩) hlt).trans (hc j t hj i u hi)⟩
theorem El.tail {cap:Nat} {t:Q03} (h:El B w (.slice a n cap) (t::ts)):∃ b off,a=some ⟨b,off,none⟩/\b<B/\n=ts.length+1/\n<=cap/\cap<=9223372036854775807 /\ (∀ i u,(A7 t)[i]?=some u->w.cell? ⟨b,off+i,none⟩=some u)/\El B w (.slice (some ⟨b,off+4,none⟩) (n - 1) (cap - 1)) ts:=by obtain⟨a',cap',h1,h2,h3,h4⟩:=h;cases h1;obtain⟨b,off,rfl,hlt,hc⟩:=h4 sM;rw [Ap] at h2 ⊢;refine⟨b,off,rfl,hlt,rfl,h2,h3,fun i u hi=>by have:=hc 0 t rfl i u hi;simpa using this,_,cap - 1,rfl,oM,oM,fun _=>⟨b,off+4,rfl,hlt,fun j x hj i u hi=>?_⟩⟩;have:=hc (j+1) x (by simpa using hj) i u hi;rw [show off+4+j*4+i=off+(j+1)*4+i from by omega];exact this
theorem El.form (h:El B w v ts):∃ a cap,v=.slice a ts.length cap/\ts.length<=cap/\cap<=9223372036854775807:=by exact FD72
theorem Wr {α:Type} {f:α->List ZC} {s:Nat} (hf:∀ x,(f x).length=s):∀ (xs:List α) (j:Nat) (x:α) (i:Nat) (u:ZC),xs[j]?=some x->(f x)[i]?=some u->(xs.flatMap f)[j*s+i]?=some u
 |[],j,x,i,u,h,_=>by simp at h
 |y::l,0,x,i,u,h,hi=>by
  simp only [H9,G6] at h
  subst h
  rw [Fe,Nat.zero_mul,Ba,Gn (lS hi)]
  exact hi
 |y::l,j+1,x,i,u,h,hi=>by
  rw [Fe,Eb (by rw [hf,Nat.succ_mul];omega),hf,show (j+1)*s+i - s=j*s+i from by rw [Nat.succ_mul];omega]
  exact Wr hf l j x i u (by simpa using h) hi
theorem Cy {s:Nat} {xs:List ZC} (h:w.ownsRow base T s v n xs):(v=.slice none 0 0/\n=0)\/∃ g cap,v=.slice (some ⟨g,0,none⟩) n cap/\base<=g/\g<w.heap.size/\n<=cap/\cap<=9223372036854775807/\∀ j u,xs[j]?=some u->w.cell? ⟨g,j,none⟩=some u:=by
 obtain⟨hlen,⟨rfl,h0⟩|⟨g,cap,cur,rfl,hb,hg,hn,hc,hsz,htk⟩⟩:=h;·exact .inl ⟨rfl,h0⟩
 ·refine .inr ⟨g,cap,rfl,hb,(aZ hg),hn,by unfold maxLen at hc;omega,fun j u hj=>?_⟩;rw [Ab hg j];have hlt:=(lS hj)
  rw [<- htk,Iq oM] at hj;simpa using hj
theorem Gb.at (h:Gb base w v ts):El w w v ts:=by
 rcases Cy h with⟨rfl,h0⟩|⟨g,cap,rfl,h1,h2,h3,h4,h5⟩;·have:ts=[]:=List.eq_nil_of_length_eq_zero h0;subst this;exact FD83
 ·refine⟨_,cap,rfl,h3,h4,fun _=>⟨g,0,rfl,h2,fun j t hj i u hi=>?_⟩⟩;rw [Ba];exact h5 _ _ (Wr (f:=A7) (s:=4) (fun _=>rfl) ts j t i u hj hi)
abbrev but (base:Nat) (v:ZC) (k:Nat):Bool:=decide (k<base)||v.ownBlock==some k
def Ff (base:Nat) (w:ZB) (v:ZC) (fs:List CH.Formula):Prop := ∃ xs:List (CH.Formula × ZC),xs.map (·.1)=fs/\w.ownsRow base 58 5 v fs.length (xs.flatMap fun x=>(An x.1 x.2).toList)/\∀ x∈xs,Ax w (Kk (but base v) w) x.1 x.2
theorem Ax.cells {q':Nat->Bool} (h:Ax w (Kk q w) f v) (hc:Cells (Kk q w) (Kk q' w')) (hs:w.heap.size<=w'.heap.size):Ax w' (Kk q' w') f v := Ax.mono hs _ _ (Ax.kept hc _ _ h)
theorem Ax.real (h:Ax B (Kk q w) f v):Ax B w f v:=Ax.kept (Kj q w) _ _ h
theorem Ff.held (h:Ff base w v fs) (hh:Held R w w') (hR:∀ r∈R,r<base):Ff base w' v fs:=by
 obtain⟨xs,h1,h2,h3⟩:=h;refine⟨xs,h1,?_,fun x hx=>(h3 x hx).cells (Sh hh fun r hr=>?_) hh.size⟩
 ·obtain⟨hlen,⟨e1,e2⟩|⟨g,cap,cur,e1,hb,hg,hr⟩⟩:=h2;·exact⟨hlen,.inl ⟨e1,e2⟩⟩
  ·exact FD93
 ·simp [but,hR r hr]
theorem Ax.newer {vk:ZC} (h:Ax B (era n w) f vk) (hb:base<=n) (hv:∀ r,v.ownBlock=some r->r<n):Ax B (Kk (but base v) w) f vk := Ax.kept (Hi fun p u hp hq=>⟨hp,by rw [Dw] at hq;simp only [Ez,Dw,Dl,ne_eq];exact⟨oM,fun e=>by have:=hv _ e;omega⟩⟩) _ _ h
theorem bP.of_cells {b:Nat}:∀ (xs:List (CH.Formula × ZC)) (off:Nat),(∀ j u,(xs.flatMap fun x=>(An x.1 x.2).toList)[j]?=some u->w.cell? ⟨b,off+j,none⟩=some u)->(∀ x∈xs,Ax B w x.1 x.2)->bP B w (xs.map (·.1)) b off
 |[],_,_,_=>by unfold bP;trivial
 |x::l,off,hc,hk=>by
  rw [Gg]
  unfold bP
  refine⟨⟨x.2,by simpa [An] using hc 0 _ rfl,by simpa [An] using hc 1 _ rfl,by simpa [An] using hc 2 _ rfl,by simpa [An] using hc 3 _ rfl,by simpa [An] using hc 4 _ rfl,hk x sM⟩,?_⟩
  refine bP.of_cells l (off+5) (fun j u hj=>?_) fun y hy=>hk y (Bv _ hy)
  have:=hc (5+j) u (by rw [Fe,Eb (by show 5<=_;omega)];simpa [An] using hj)
  rw [show off+5+j=off+(5+j) from by omega]
  exact this
theorem Ff.kids (h:Ff base w v fs) (op:Int) (name:Q00) (cmp n:Int):Ax w (era base w) (.mk op name cmp n fs) v:=by
 obtain⟨xs,rfl,h2,h3⟩:=h;unfold Ax;have hc:Cells (Kk (but base v) w) (era base w):=Hi fun p u hp hq=>⟨hp,by simp only [Ez] at hq;exact hq.1⟩
 have h3':=fun x hx=>Ax.kept hc _ _ (h3 x hx);rcases Cy h2 with⟨rfl,h0⟩|⟨g,cap,rfl,h1,h2,h5,h6,h7⟩;·exact⟨none,0,by rw [h0],oM,dC,fun e=>absurd (List.eq_nil_of_length_eq_zero h0) e⟩
 ·refine⟨_,cap,rfl,h5,h6,fun _=>⟨g,0,rfl,h2,bP.of_cells xs 0 (fun j u hj=>?_) h3'⟩⟩;rw [Ba];exact Mz (h7 j u hj) (Cj (by show ¬ g<base;omega))
theorem Ff.first {cap:Nat} (h:Ff base w (.slice a n cap) [f]):∃ g vk,a=some ⟨g,0,none⟩/\n=1/\base<=g/\(∀ j u,(An f vk)[j]?=some u->w.cell? ⟨g,j,none⟩=some u)/\Ax w (era base w) f vk:=by
 obtain⟨xs,h1,h2,h3⟩:=h;obtain⟨x,rfl,rfl⟩:∃ x,xs=[x]/\x.1=f:=by
  match xs,h1 with
  |[x],h1=>exact⟨x,rfl,by simpa using h1⟩
 have hc:Cells (Kk (but base (.slice a n cap)) w) (era base w):=Hi fun p u hp hq=>⟨hp,by simp only [Ez] at hq;exact hq.1⟩
 rcases Cy h2 with⟨_,h0⟩|⟨g,cap',e,q1,q2,q3,q4,q5⟩;·exact absurd h0 sM
 ·cases e;exact⟨g,x.2,rfl,rfl,q1,fun j u hj=>q5 j u (by simpa using hj),Ax.kept hc _ _ (h3 x sM)⟩
theorem Ff.form (h:Ff base w v fs):∃ a cap,v=.slice a fs.length cap/\fs.length<=cap:=by
 obtain⟨xs,_,h2,_⟩:=h;rcases Cy h2 with⟨rfl,h0⟩|⟨g,cap,rfl,_,_,h5,_⟩;·exact⟨none,0,by rw [h0],oM⟩
 ·exact⟨_,cap,rfl,h5⟩
theorem Msk:(prog.info? 58).map (fun i=>(i.zero,i.size,i.bytes))=some (some (.agg #[.int .i64 0,.string ⟨#[]⟩,.int .i64 0,.int .i64 0,.slice none 0 0]),5,64):=kR
theorem Ax.vC (h:Ax B w f v):∀ u∈(An f v).toList,u.oneCell'=true:=by obtain⟨a,cap,rfl,_⟩:=h.form;intro u hu;simp [An] at hu;rcases hu with rfl|rfl|rfl|rfl|rfl <;> rfl
theorem Hd1 {o:Oper} {a:Act} (hgd:o.guard=none) (s x:Operand) (ho:o.op=.call { callee:=.builtin .append,args:=#[s,x],argTypes:=#[56,56] }) (base:Nat) (v:ZC) (fs:List CH.Formula) (hs:a.eval s=v) (hown:Ff base w v fs) (g c:Nat) (f:CH.Formula) (vk:ZC) (hx:a.eval x=.slice (some ⟨g,0,none⟩) 1 c) (hcell:∀ j u,(An f vk)[j]?=some u->w.cell? ⟨g,j,none⟩=some u) (hk:Ax w (Kk (but base v) w) f vk) (hlen:fs.length<=1000000) (hbase:base<=w.heap.size) (h:∀ v' w',Ff base w' v' (fs++[f])->w.grownBy w' v.ownBlock->(v'.ownBlock=v.ownBlock\/v'.ownBlock=some w.heap.size)->wpList prog ops Q rest (a.put o.dst v') w') : wpList prog ops Q (o::rest) a w:=by
 obtain⟨i,hi,hz0,hz1,hz2⟩:=Jb Msk;obtain⟨xs,h1,h2,h3⟩:=hown;refine L0 w hgd s x 56 ho base 58 i _ 5 64 underlying56 hi hz0 hz1 hz2 rfl dC v fs.length _ hs h2 _ 1 (An f vk).toList hx (.inl ⟨⟨g,0,none⟩,c,rfl,?_⟩) rfl hk.vC ?_ ?_ hbase ?_;·intro j u hj;rw [show (⟨g,0,none⟩:Addr).add j=⟨g,j,none⟩ from by simp [Addr.add];exact fun e=>e.symm];exact hcell j u (by simpa using hj)
 ·unfold maxLen;omega
 ·omega
 ·intro v' w' q1 q2 q3;have hc:Cells (Kk (but base v) w) (Kk (but base v') w'):=Hi fun p u hp hq=>by exact FD57
  refine h v' w' ⟨xs++[(f,vk)],by simp [h1],by simpa using q1,fun y hy=>?_⟩ q2 q3;rcases Bz.1 hy with hy|hy;·exact (h3 y hy).cells hc q2.size
  ·rw [Ad] at hy;subst hy;exact hk.cells hc q2.size
def Par (p:Nat) (w:ZB) (s:CH.St) (m:Int):Prop :=
 ∃ (v:ZC) (e a:Int),w.heap[p]?=some (.cells #[v,↑m,↑e,↑a] 335 (0,0)) /\
  match s with
  |none=>e≠0/\v=.slice none 0 0
  |some L=>e=0/\El p w v L
theorem Par.held {m:Int} (h:Par p w s m) (hh:Held R w w') (hR:∀ r∈R,p<r):Par p w' s m:=by
 obtain⟨v,e,a,h1,h2⟩:=h;have hlt:=(aZ h1)
 refine⟨v,e,a,(hh.block p hlt fun hr=>by have:=hR p hr;omega).trans h1,?_⟩;cases s with
 |none=>exact h2
 |some L=>exact⟨h2.1,h2.2.held hh (fun r hr=>Dy (hR r hr)) (Dy hlt)⟩
theorem Par.below {m:Int} (h:Par p w s m) (hb:Below w w w'):Par p w' s m:=h.held (Held.of_below (R:=[]) hb) (fun r hr=>by cases hr)
theorem Par.lt {m:Int} (h:Par p w s m):p<w.heap.size:=by obtain⟨v,e,a,h1,_⟩:=h;exact (aZ h1)
theorem Held.setCell (h:Held [p] w w') (o:Nat) (v:ZC) (hlt:p<w.heap.size):Held [p] w (w'.setCell ⟨p,o,none⟩ v) :=
 ⟨h.os,h.tape,h.output,by simpa using h.size,fun k hk hR=>by
  rw [bf _ _ _ _ _ (fun e=>hR (by simp [e]))]
  exact h.block k hk hR⟩
theorem Held.kH (h:Held R w w') (b o:Nat) (v:ZC) (hb:w.heap.size<=b):Held R w (w'.setCell ⟨b,o,none⟩ v) :=
 ⟨h.os,h.tape,h.output,by simpa using h.size,fun k hk hR=>by
  rw [bf _ _ _ _ _ oM]
  exact h.block k hk hR⟩
theorem Held.refl (R:List Nat) (w:ZB):Held R w w:=Held.of_below (Ac _ w)
theorem Held.alloc (h:Held R w w') (o:Obj):Held R w (w'.alloc o):=h.trans (Held.of_below ((Ac _ w').alloc nR o))
theorem Pw {b:Nat} {z:Nat × Nat}:∀ (cs pre old:List ZC) (w:ZB),old.length=cs.length->w.heap[b]?=some (.cells (pre++old).toArray T z)->(w.setCells b pre.length cs).heap[b]?=some (.cells (pre++cs).toArray T z)/\Held [b] w (w.setCells b pre.length cs)/\(w.setCells b pre.length cs).heap.size=w.heap.size
 |[],pre,old,w,hl,h=>by
  have:old=[]:=Et.1 (by simpa using hl)
  subst this
  exact⟨h,Held.refl _ _,rfl⟩
 |v::cs,pre,old,w,hl,h=>by
  cases old with
  |nil=>simp at hl
  |cons u old =>
   have h1:=Al w b pre.length v _ _ _ h
   rw [show ((pre++u::old).toArray.setIfInBounds pre.length v)=((pre++[v])++old).toArray from by simp] at h1
   obtain⟨q1,q2,q3⟩:=Pw cs (pre++[v]) old _ (by simpa using hl) h1
   rw [Am,Dq] at q1 q2 q3
   rw [World.setCells]
   refine⟨by simpa using q1,((Held.refl _ _).setCell _ _ (aZ h)).trans q2,by rw [q3];simp⟩
theorem Ca {op:Oper} {a:Act} (hgd:op.guard=none) (ty:TypeId) (x y:Operand) (ho:op.op=.store ty x y) (b:Nat) (cs:List ZC) (old:Array ZC) (hx:a.eval x=.pointer (some ⟨b,0,none⟩)) (hy:a.eval y=.agg cs.toArray) (hb:w.heap[b]?=some (.cells old T (0,0))) (hl:old.size=cs.length) (hi:(prog.info? ty).map (·.size)=some cs.length) (h1:∀ v∈cs,v.oneCell'=true) (h:∀ X,X.heap[b]?=some (.cells cs.toArray T (0,0))->Held [b] w X->X.heap.size=w.heap.size->wpList prog ops Q rest (a.put op.dst undef) X):wpList prog ops Q (op::rest) a w:=by
 refine Ig hgd ty x y ho b 0 cs.toArray hx hy (fun j hj=>?_) (by simpa using hi) (Fh h1) ?_;·rw [Ba];refine⟨?_,Ao hb j⟩;rw [Ab hb j,Eo (by rw [hl];simpa using hj)];rfl
 ·exact FD70
theorem Ck {fn:Func} {p:Tmp} {R:Ending->ZB->Prop} {tmps:Array ZC} (ty b:Nat) (cs:List ZC) {d:TypeDesc} (hr:fn.results=#[.cell p ty]) (hp:tmps.getD p undef=.pointer (some ⟨b,0,none⟩)) (hc:w.heap[b]?=some (.cells cs.toArray ty (0,0))) (hu:prog.underlying ty=some d) (hd:d.isRow=true) (hi:(prog.info? ty).map (·.size)=some cs.length) (h:R (.returned (.agg cs.toArray)) w):bodyPost prog fn R .ret { tmps:=tmps,defers:=[] } w := Ar (Ge hr _ _ _ _ hp (Fq w b 0 ty cs d (fun j v hj=>by rw [Ba,Ab hc j];simpa using hj) hu hd hi)) rfl h
theorem Iv (p:Nat) (s:CH.St) (m e a:Int) (w:ZB) (he:e≠0) (h:Par p w s m) : ZE prog 260 #[.pointer (some ⟨p,0,none⟩),↑e,↑a] w fun r w'=>r=.returned (.tuple #[])/\Held [p] w w'/\Par p w' none m:=by
 have hlt:=h.lt;obtain⟨v,e0,a0,hb,hs⟩:=h;have c0:=Ab hb 0;have c2:=Ab hb 2;have c3:=Ab hb 3;have f0:=Ao hb 0;have f2:=Ao hb 2;have f3:=Ao hb 3;simp at c0 c2 c3;cases s with
 |none =>
  obtain⟨h0,rfl⟩:=hs;have z:(e0==0)=false:=by simpa using h0
  go_in;go_wp2;go_end0;exact⟨rfl,Held.refl _ _,.slice none 0 0,e0,a0,hb,h0,rfl⟩
 |some L =>obtain⟨rfl,ht⟩:=hs;go_in;go_wp2;go_end0;refine⟨rfl,(((Held.refl _ _).setCell _ _ hlt).setCell _ _ hlt).setCell _ _ hlt,.slice none 0 0,e,a,?_,he,rfl⟩;rw [Al _ _ _ _ _ _ _ (Al _ _ _ _ _ _ _ (Al _ _ _ _ _ _ _ hb))];rfl
theorem M6 (p:Nat) (s:CH.St) (m:Int) (w:ZB) (h:Par p w s m) : ZE prog 312 #[.pointer (some ⟨p,0,none⟩)] w fun r w'=>r=.returned (mG (CH.shift s).1)/\Held [p] w w'/\Par p w' (CH.shift s).2 m:=by
 have hlt:=h.lt;have A:=fun o=>Aa (h.below ((Ac _ w).alloc nR o));have F:=fun o=>Aa (Iv p s m 6 m (w.alloc o) dC (A o).out);obtain⟨v,e0,a0,hb,hs⟩:=h;have hb1:=fun o=>(((Ac _ w).alloc nR o).block p hlt).trans hb;have c0:=fun o=>Ab (hb1 o) 0;have c1:=fun o=>Ab (hb1 o) 1;have f0:=fun o=>Ao (hb1 o) 0;simp at c0 c1;by_cases he:∃ t L,s=some (t::L)
 ·obtain⟨t,L,rfl⟩:=he;clear A F;obtain⟨rfl,ht⟩:=hs;obtain⟨av,cv,rfl,hc1,hc2⟩:=ht.form;obtain⟨b,off,rfl,hbp,hn,h1,h2,hcell,htail⟩:=ht.tail;rw [Ap] at *;have z:((L.length+1:Nat):Int)≠0:=oM;have d0:=fun o=>(((Ac _ w).alloc nR o).cell (p:=⟨b,off,none⟩) (Nat.lt_trans hbp hlt)).trans (by simpa using hcell 0 _ rfl);have d1:=fun o=>(((Ac _ w).alloc nR o).cell (p:=⟨b,off+1,none⟩) (Nat.lt_trans hbp hlt)).trans (hcell 1 _ rfl);have d2:=fun o=>(((Ac _ w).alloc nR o).cell (p:=⟨b,off+2,none⟩) (Nat.lt_trans hbp hlt)).trans (hcell 2 _ rfl);have d3:=fun o=>(((Ac _ w).alloc nR o).cell (p:=⟨b,off+3,none⟩) (Nat.lt_trans hbp hlt)).trans (hcell 3 _ rfl);go_in;go_wp2;all_goals
   refine Ck 190 w.heap.size (A7 t) rfl rfl ?_ underlying190 rfl kR ?_;·exact (Hj (w.setCell _ _) _ _).1 |> fun h=>by simpa [A7] using h
   refine⟨rfl,(((Held.refl _ w).setCell 0 _ hlt).alloc _).alloc _,?_⟩;refine Par.below (w:=w.setCell ⟨p,0,none⟩ _) ⟨_,0,a0,Al w p 0 _ _ _ _ hb,rfl,El.held (R:=[p]) ?_ ((Held.refl _ w).setCell 0 _ hlt) (fun r hr=>by rw [Ad] at hr;omega) (Dy hlt)⟩ (((Ac _ _).alloc nR _).alloc sM _)
  ·rename_i h;have:L=[]:=List.eq_nil_of_length_eq_zero oM;subst this;exact⟨_,_,rfl,Ak _,oM,fun e=>absurd rfl e⟩
  ·simpa using htail
 ·have hs0:CH.shift s=(tk0,none):=by
   match s,he with
   |none,_=>rfl
   |some [],_=>rfl
   |some (t::L),he=>exact absurd ⟨t,L,rfl⟩ he
  rw [hs0];obtain⟨av,cv,rfl⟩:∃ a c,v=.slice a 0 c:=by
   match s,he,hs with
   |none,_,hs=>exact⟨_,_,hs.2⟩
   |some [],_,hs =>obtain⟨a,c,e,_⟩:=hs.2.form;exact⟨a,c,e⟩
   |some (t::L),he,_=>exact absurd ⟨t,L,rfl⟩ he
  go_in;go_wp2_with fail;refine (F _).out.mono ?_;rintro e w1 ⟨rfl,hh,hP⟩;have g1:=(hh.block w sM naf).trans (Ag w _);have e0:=Ab g1 0;have e1:=Ab g1 1;have e2:=Ab g1 2;have e3:=Ab g1 3;have fz:=Ao g1;simp at e0 e1 e2 e3;go_wp2;refine Ck 190 w.heap.size (A7 tk0) rfl rfl ?_ underlying190 rfl kR ?_;·rw [Al _ _ _ _ _ _ _ (Al _ _ _ _ _ _ _ (Al _ _ _ _ _ _ _ (Al _ _ _ _ _ _ _ g1)))];rfl
  have hl:w.heap.size<w1.heap.size:=Af sM hh.size;have H:=(((Held.refl [w.heap.size] w1).setCell 0 (.int .i64 0) hl).setCell 1 (.int .i64 0) hl).setCell 2 (.int .i64 0) hl |>.setCell 3 (.string ⟨#[]⟩) hl;exact⟨rfl,(((Held.refl _ w).alloc _).trans hh).kH _ _ _ nR |>.kH _ _ _ nR |>.kH _ _ _ nR |>.kH _ _ _ nR,hP.held H fun r hr=>by rw [Ad] at hr;omega⟩
end
end Go.Proofs.Y
