/- ChainTexts, part 10 of 31. -/
import Derived.Test.YtkboocifdaebgaaGreatDoorP06
import Derived.Test.YtkboocifdaebgaaGreatDoorP07
import Derived.Test.YtkboocifdaebgaaGreatDoorP08
import Derived.Shelf.SlSortCmp.InsertionK
set_option linter.all false
set_option maxHeartbeats 40000000
set_option maxRecDepth 100000
open Go renaming undef -> ZA, World -> ZB, Value -> ZC, Calls -> ZE, redrawn -> ZI
open Go.RowKit renaming intOf -> ZG
open Decidable renaming decide -> ZH
open Go.Lib renaming itoa -> ZK
namespace Go.Proofs.Y
section
open Go.Lib Go.Proofs.Tryz Go.RowKit Go.Shelf Go.Sort CH
variable {ls:List Q00} {B B':Nat} {w w':ZB} {R:List Nat}
theorem R9 (op:Int) (x:CH.Formula) (h:(x.op==6||x.op==5&&op != 6)=true):ah op x=[40]++x.text++[41]:=by unfold ah;rw [if_pos h]
theorem Ts (op:Int) (x:CH.Formula) (h:(x.op==6||x.op==5&&op != 6)=false):ah op x=x.text:=by unfold ah;rw [if_neg (by rw [h];simp)]
def Vs (f:CH.Formula):Prop:=∀ x∈f.kids,∀ (vx:ZC) (W:ZB),Ax W W x vx->Gl W->ZE prog 176 #[.agg (An x vx)] W (Ret W ↑x.text)
theorem Jun (f:CH.Formula) (vk:ZC) (w:ZB) (hG:Gl w) (hK:Ax w w f vk) (hop:f.op=5) (hlen:f.kids.length<=100000) (hxl:∀ x∈f.kids,x.text.length<=3000000000) (hIH:Vs f) (hJl:(CH.join ([32,97,110,100,32]:Q00) (f.kids.map (ah 5))).length<=140737488355328):ZE prog 176 #[.agg (An f vk)] w (Ret w ↑f.text):=by
 obtain⟨R,hR⟩:=nac f.text;rw [hR.out];obtain⟨ak,ck,rfl,hc1,hc2,hrow⟩:=hK.form;replace hrow:=Aa hrow;replace hIH:=Aa hIH;replace hxl:=Aa hxl;generalize hKN:f.kids.length=KN at *;replace hKN:=Aa hKN;dsimp only [An];rw [hop];replace hop:=Aa hop;have hB0:=(Ac _ w).alloc nR (.cells #[.int .i64 5,↑f.name,↑f.cmp,↑f.n,.slice ak KN ck] 58);have hblk:=Ag w (.cells #[.int .i64 5,↑f.name,↑f.cmp,↑f.n,.slice ak KN ck] 58);have hs1:(w.alloc (.cells #[.int .i64 5,↑f.name,↑f.cmp,↑f.n,.slice ak KN ck] 58)).heap.size=w.heap.size+1:=sM;clear hK;go_in;go_wp2_with fail;generalize w.alloc (.cells #[.int .i64 5,↑f.name,↑f.cmp,↑f.n,.slice ak KN ck] 58)=w1 at *;replace hs1:=Aa hs1;replace hblk:=Aa hblk;go_loopw [3,31] (fun lv iv wr=>∃ j:Nat,j<=KN/\iv=↑j/\Hid (Av (w+1) wr lv ((f.kids.take j).map (ah 5)))/\Hid (Below (w+1) w1 wr)) (fun _ iv _=>KN - (ZG iv).toNat);case atStart=>exact⟨0,Ak _,rfl,Aa (Av.nil _ _),Aa (Ac _ _)⟩
 case round =>
  obtain⟨j,hj,rfl,hO,hb⟩:=hrel;have hB:Below w w wr:=hB0.trans (hb.out.mono oM);have hsz:w.heap.size+1<=wr.heap.size:=by have:=hb.out.size;have:=hs1.out;omega
  have m0:wr.cell? ⟨w,0,none⟩=some (.int .i64 5):=(hb.out.cell (p:=⟨w,0,none⟩) (Cm _)).trans (Ab hblk.out 0);obtain⟨a3,c3,rfl,hf1,hf2,hf3⟩:=hO.out.form;replace hf3:=Aa hf3;by_cases hlt:j<KN
  ·obtain⟨x,hx⟩:∃ x,f.kids[j]?=some x:=⟨_,Ae (by rw [hKN.out];omega)⟩
   obtain⟨bb,off,rfl,hblt,hcs⟩:=hrow.out (fun e=>by have:=hKN.out;rw [e] at this;simp at this;omega);obtain⟨vx,c0,c1,c2,c3',c4,hkx⟩:=bP.get _ _ _ _ _ hcs hx;have hc:=fun o=>hB.cell (p:=⟨bb,o,none⟩) hblt;have e0:=(hc _).trans c0;have e1:=(hc _).trans c1;have e2:=(hc _).trans c2;have e3:=(hc _).trans c3';have e4:=(hc _).trans c4;have hmem:x∈f.kids:=Bg hx;have hxt:=hxl.out x hmem;have IH:=Aa fun (W:ZB) (hbW:Below w w W)=>hIH.out x hmem vx W (Ax.mono hbW.size _ _ (Ax.below hbW nR _ _ hkx)) (hG.below hbW);have hts:Hid ((f.kids.take (j+1)).map (ah 5)=(f.kids.take j).map (ah 5)++[ah 5 x]):=Aa (by rw [aN f.kids j x hx];simp);obtain⟨ax,cx,rfl,_,_⟩:=hkx.form;have hLl:((f.kids.take j).map (ah 5)).length=j:=by have:=hKN.out;simp;omega
   replace hLl:=Aa hLl;generalize hL:(f.kids.take j).map (ah 5)=L at *;have hkP:=R9 5 x;have hkB:=Ts 5 x;replace hkP:=Aa hkP;replace hkB:=Aa hkB;generalize hKT:ah 5 x=KT at *;replace hL:=Aa hL;replace hKT:=Aa hKT;generalize x.kids.length=xn at *;generalize x.text=T at *;clear c0 c1 c2 c3' c4 hc hcs hkx hmem hx;dsimp only [An] at IH;go_wp2_with fail;refine CmZ (IH.out _ (hB.alloc hB.size _)) fun w2 hb2=>?_;have hblk2:=(hb2.block wr sM).trans (Ag wr _);have n0:w2.cell? ⟨wr,0,none⟩=some ↑x.op:=Ab hblk2 0;have n1:w2.cell? ⟨w,0,none⟩=some (.int .i64 5):=(hb2.cell (p:=⟨w,0,none⟩) naf).trans (by rw [Em _ _ _ (by rw [m0];rfl)];exact m0);have hO2:Hid (Av (w+1) w2 (.slice a3 L.length c3) L):=Aa ((hO.out.alloc _).below hb2);have hB2:Hid (Below (w+1) w1 w2):=Aa ((hb.out.alloc oM _).trans (hb2.mono naf));have hs2:w.heap.size+1<=w2.heap.size:=by have:=hB2.out.size;have:=hs1.out;omega
   clear IH hb2 hblk2 e0 e1 e2 e3 e4 m0 hO hb hB;have STEP:∀ (v':ZC) (w3:ZB) (o:Obj),Av (w+1) w3 v' (L++[KT])->(w2.alloc o).grownBy w3 (Value.slice a3 L.length c3).ownBlock->Hid (Av (w+1) w3 v' ((f.kids.take (j+1)).map (ah 5)))/\Hid (Below (w+1) w1 w3):=fun v' w3 o h1 h2 =>⟨Aa (by rw [hts.out];exact h1),Aa ((hB2.out.alloc hs2 _).grown h2 naf (fun j hj=>(Ih hO2.out j hj).1))⟩
   replace STEP:=Aa STEP;obtain⟨b6,p6⟩:=naa (x.op==6);obtain⟨b5,p5⟩:=naa (x.op==5);have hpar:Hid ((x.op==6||x.op==5&&(5:Int) != 6)=(b6||b5&&(5:Int) != 6)):=Aa (by rw [p6,p5]);exact FD63
  ·obtain rfl:j=KN:=oM;have htk:f.kids.take j=f.kids:=by rw [<- hKN.out,D5]
   clear hf3;rw [htk] at hO hf1 ⊢;clear htk;have hO:Hid (Av (w+1) wr (.slice a3 (f.kids.map (ah 5)).length c3) (f.kids.map (ah 5))):=hO;have J:=Aa (Mq _ (f.kids.map (ah 5)) ([32,97,110,100,32]:Q00) wr hO.out.strs (by have:=hKN.out;simp;omega) hJl);have hRe:Hid (CH.join ([32,97,110,100,32]:Q00) (f.kids.map (ah 5))=R):=Aa (by rw [<- hR.out,text_eq,hop.out];rfl);generalize (f.kids.map (ah 5)).length=LL at *;generalize CH.join ([32,97,110,100,32]:Q00) (f.kids.map (ah 5))=JJ at *;exact FD68
theorem Jul (f:CH.Formula) (vk:ZC) (w:ZB) (hG:Gl w) (hK:Ax w w f vk) (hop:f.op=6) (hlen:f.kids.length<=100000) (hxl:∀ x∈f.kids,x.text.length<=3000000000) (hIH:Vs f) (hJl:(CH.join ([32,111,114,32]:Q00) (f.kids.map (ah 6))).length<=140737488355328):ZE prog 176 #[.agg (An f vk)] w (Ret w ↑f.text):=by
 obtain⟨R,hR⟩:=nac f.text;rw [hR.out];obtain⟨ak,ck,rfl,hc1,hc2,hrow⟩:=hK.form;replace hrow:=Aa hrow;replace hIH:=Aa hIH;replace hxl:=Aa hxl;generalize hKN:f.kids.length=KN at *;replace hKN:=Aa hKN;dsimp only [An];rw [hop];replace hop:=Aa hop;have hB0:=(Ac _ w).alloc nR (.cells #[.int .i64 6,↑f.name,↑f.cmp,↑f.n,.slice ak KN ck] 58);have hblk:=Ag w (.cells #[.int .i64 6,↑f.name,↑f.cmp,↑f.n,.slice ak KN ck] 58);have hs1:(w.alloc (.cells #[.int .i64 6,↑f.name,↑f.cmp,↑f.n,.slice ak KN ck] 58)).heap.size=w.heap.size+1:=sM;clear hK;go_in;go_wp2_with fail;generalize w.alloc (.cells #[.int .i64 6,↑f.name,↑f.cmp,↑f.n,.slice ak KN ck] 58)=w1 at *;replace hs1:=Aa hs1;replace hblk:=Aa hblk;go_loopw [3,31] (fun lv iv wr=>∃ j:Nat,j<=KN/\iv=↑j/\Hid (Av (w+1) wr lv ((f.kids.take j).map (ah 6)))/\Hid (Below (w+1) w1 wr)) (fun _ iv _=>KN - (ZG iv).toNat);case atStart=>exact⟨0,Ak _,rfl,Aa (Av.nil _ _),Aa (Ac _ _)⟩
 case round =>
  obtain⟨j,hj,rfl,hO,hb⟩:=hrel;have hB:Below w w wr:=hB0.trans (hb.out.mono oM);have hsz:w.heap.size+1<=wr.heap.size:=by have:=hb.out.size;have:=hs1.out;omega
  have m0:wr.cell? ⟨w,0,none⟩=some (.int .i64 6):=(hb.out.cell (p:=⟨w,0,none⟩) (Cm _)).trans (Ab hblk.out 0);obtain⟨a3,c3,rfl,hf1,hf2,hf3⟩:=hO.out.form;replace hf3:=Aa hf3;by_cases hlt:j<KN
  ·obtain⟨x,hx⟩:∃ x,f.kids[j]?=some x:=⟨_,Ae (by rw [hKN.out];omega)⟩
   obtain⟨bb,off,rfl,hblt,hcs⟩:=hrow.out (fun e=>by have:=hKN.out;rw [e] at this;simp at this;omega);obtain⟨vx,c0,c1,c2,c3',c4,hkx⟩:=bP.get _ _ _ _ _ hcs hx;have hc:=fun o=>hB.cell (p:=⟨bb,o,none⟩) hblt;have e0:=(hc _).trans c0;have e1:=(hc _).trans c1;have e2:=(hc _).trans c2;have e3:=(hc _).trans c3';have e4:=(hc _).trans c4;have hmem:x∈f.kids:=Bg hx;have hxt:=hxl.out x hmem;have IH:=Aa fun (W:ZB) (hbW:Below w w W)=>hIH.out x hmem vx W (Ax.mono hbW.size _ _ (Ax.below hbW nR _ _ hkx)) (hG.below hbW);have hts:Hid ((f.kids.take (j+1)).map (ah 6)=(f.kids.take j).map (ah 6)++[ah 6 x]):=Aa (by rw [aN f.kids j x hx];simp);obtain⟨ax,cx,rfl,_,_⟩:=hkx.form;have hLl:((f.kids.take j).map (ah 6)).length=j:=by have:=hKN.out;simp;omega
   replace hLl:=Aa hLl;generalize hL:(f.kids.take j).map (ah 6)=L at *;have hkP:=R9 6 x;have hkB:=Ts 6 x;replace hkP:=Aa hkP;replace hkB:=Aa hkB;generalize hKT:ah 6 x=KT at *;replace hL:=Aa hL;replace hKT:=Aa hKT;generalize x.kids.length=xn at *;generalize x.text=T at *;clear c0 c1 c2 c3' c4 hc hcs hkx hmem hx;dsimp only [An] at IH;go_wp2_with fail;refine CmZ (IH.out _ (hB.alloc hB.size _)) fun w2 hb2=>?_;have hblk2:=(hb2.block wr sM).trans (Ag wr _);have n0:w2.cell? ⟨wr,0,none⟩=some ↑x.op:=Ab hblk2 0;have n1:w2.cell? ⟨w,0,none⟩=some (.int .i64 6):=(hb2.cell (p:=⟨w,0,none⟩) naf).trans (by rw [Em _ _ _ (by rw [m0];rfl)];exact m0);have hO2:Hid (Av (w+1) w2 (.slice a3 L.length c3) L):=Aa ((hO.out.alloc _).below hb2);have hB2:Hid (Below (w+1) w1 w2):=Aa ((hb.out.alloc oM _).trans (hb2.mono naf));have hs2:w.heap.size+1<=w2.heap.size:=by have:=hB2.out.size;have:=hs1.out;omega
   clear IH hb2 hblk2 e0 e1 e2 e3 e4 m0 hO hb hB;have STEP:∀ (v':ZC) (w3:ZB) (o:Obj),Av (w+1) w3 v' (L++[KT])->(w2.alloc o).grownBy w3 (Value.slice a3 L.length c3).ownBlock->Hid (Av (w+1) w3 v' ((f.kids.take (j+1)).map (ah 6)))/\Hid (Below (w+1) w1 w3):=fun v' w3 o h1 h2 =>⟨Aa (by rw [hts.out];exact h1),Aa ((hB2.out.alloc hs2 _).grown h2 naf (fun j hj=>(Ih hO2.out j hj).1))⟩
   replace STEP:=Aa STEP;obtain⟨b6,p6⟩:=naa (x.op==6);obtain⟨b5,p5⟩:=naa (x.op==5);have hpar:Hid ((x.op==6||x.op==5&&(6:Int) != 6)=(b6||b5&&(6:Int) != 6)):=Aa (by rw [p6,p5]);have l1:¬ (9223372036854775807<1+T.length):=oM;have l2:¬ (9223372036854775807<1+T.length+1):=oM;cases b6 <;> cases b5;·exact FD11
   ·exact FD11
   ·exact FD2
   ·exact FD2
  ·obtain rfl:j=KN:=oM;have htk:f.kids.take j=f.kids:=by rw [<- hKN.out,D5]
   clear hf3;rw [htk] at hO hf1 ⊢;clear htk;have hO:Hid (Av (w+1) wr (.slice a3 (f.kids.map (ah 6)).length c3) (f.kids.map (ah 6))):=hO;have J:=Aa (Mq _ (f.kids.map (ah 6)) ([32,111,114,32]:Q00) wr hO.out.strs (by have:=hKN.out;simp;omega) hJl);have hRe:Hid (CH.join ([32,111,114,32]:Q00) (f.kids.map (ah 6))=R):=Aa (by rw [<- hR.out,text_eq,hop.out];rfl);generalize (f.kids.map (ah 6)).length=LL at *;generalize CH.join ([32,111,114,32]:Q00) (f.kids.map (ah 6))=JJ at *;exact FD68
theorem Ka8 (f:CH.Formula) (vk:ZC) (w:ZB) (hG:Gl w) (hK:Ax w w f vk) (hop:f.op=4) (hlen:f.kids.length<=100000) (hxl:∀ x∈f.kids,x.text.length<=3000000000) (hone:f.kids.length=1) (hIH:Vs f) (hJl:(CH.join ([32,111,114,32]:Q00) (f.kids.map (ah 4))).length<=140737488355328):ZE prog 176 #[.agg (An f vk)] w (Ret w ↑f.text):=by
 obtain⟨R,hR⟩:=nac f.text;rw [hR.out];obtain⟨ak,ck,rfl,hc1,hc2,hrow⟩:=hK.form;replace hrow:=Aa hrow;replace hIH:=Aa hIH;replace hxl:=Aa hxl;generalize hKN:f.kids.length=KN at *;replace hone:=Aa hone;replace hKN:=Aa hKN;dsimp only [An];rw [hop];replace hop:=Aa hop;have hB0:=(Ac _ w).alloc nR (.cells #[.int .i64 4,↑f.name,↑f.cmp,↑f.n,.slice ak KN ck] 58);have hblk:=Ag w (.cells #[.int .i64 4,↑f.name,↑f.cmp,↑f.n,.slice ak KN ck] 58);have hs1:(w.alloc (.cells #[.int .i64 4,↑f.name,↑f.cmp,↑f.n,.slice ak KN ck] 58)).heap.size=w.heap.size+1:=sM;clear hK;go_in;go_wp2_with fail;generalize w.alloc (.cells #[.int .i64 4,↑f.name,↑f.cmp,↑f.n,.slice ak KN ck] 58)=w1 at *;replace hs1:=Aa hs1;replace hblk:=Aa hblk;go_loopw [3,31] (fun lv iv wr=>∃ j:Nat,j<=KN/\iv=↑j/\Hid (Av (w+1) wr lv ((f.kids.take j).map (ah 4)))/\Hid (Below (w+1) w1 wr)) (fun _ iv _=>KN - (ZG iv).toNat);case atStart=>exact⟨0,Ak _,rfl,Aa (Av.nil _ _),Aa (Ac _ _)⟩
 case round =>
  obtain⟨j,hj,rfl,hO,hb⟩:=hrel;have hB:Below w w wr:=hB0.trans (hb.out.mono oM);have hsz:w.heap.size+1<=wr.heap.size:=by have:=hb.out.size;have:=hs1.out;omega
  have m0:wr.cell? ⟨w,0,none⟩=some (.int .i64 4):=(hb.out.cell (p:=⟨w,0,none⟩) (Cm _)).trans (Ab hblk.out 0);obtain⟨a3,c3,rfl,hf1,hf2,hf3⟩:=hO.out.form;replace hf3:=Aa hf3;by_cases hlt:j<KN
  ·obtain⟨x,hx⟩:∃ x,f.kids[j]?=some x:=⟨_,Ae (by rw [hKN.out];omega)⟩
   obtain⟨bb,off,rfl,hblt,hcs⟩:=hrow.out (fun e=>by have:=hKN.out;rw [e] at this;simp at this;omega);obtain⟨vx,c0,c1,c2,c3',c4,hkx⟩:=bP.get _ _ _ _ _ hcs hx;have hc:=fun o=>hB.cell (p:=⟨bb,o,none⟩) hblt;have e0:=(hc _).trans c0;have e1:=(hc _).trans c1;have e2:=(hc _).trans c2;have e3:=(hc _).trans c3';have e4:=(hc _).trans c4;have hmem:x∈f.kids:=Bg hx;have hxt:=hxl.out x hmem;have IH:=Aa fun (W:ZB) (hbW:Below w w W)=>hIH.out x hmem vx W (Ax.mono hbW.size _ _ (Ax.below hbW nR _ _ hkx)) (hG.below hbW);have hts:Hid ((f.kids.take (j+1)).map (ah 4)=(f.kids.take j).map (ah 4)++[ah 4 x]):=Aa (by rw [aN f.kids j x hx];simp);obtain⟨ax,cx,rfl,_,_⟩:=hkx.form;have hLl:((f.kids.take j).map (ah 4)).length=j:=by have:=hKN.out;simp;omega
   replace hLl:=Aa hLl;generalize hL:(f.kids.take j).map (ah 4)=L at *;have hkP:=R9 4 x;have hkB:=Ts 4 x;replace hkP:=Aa hkP;replace hkB:=Aa hkB;generalize hKT:ah 4 x=KT at *;replace hL:=Aa hL;replace hKT:=Aa hKT;generalize x.kids.length=xn at *;generalize x.text=T at *;clear c0 c1 c2 c3' c4 hc hcs hkx hmem hx;dsimp only [An] at IH;go_wp2_with fail;refine CmZ (IH.out _ (hB.alloc hB.size _)) fun w2 hb2=>?_;have hblk2:=(hb2.block wr sM).trans (Ag wr _);have n0:w2.cell? ⟨wr,0,none⟩=some ↑x.op:=Ab hblk2 0;have n1:w2.cell? ⟨w,0,none⟩=some (.int .i64 4):=(hb2.cell (p:=⟨w,0,none⟩) naf).trans (by rw [Em _ _ _ (by rw [m0];rfl)];exact m0);have hO2:Hid (Av (w+1) w2 (.slice a3 L.length c3) L):=Aa ((hO.out.alloc _).below hb2);have hB2:Hid (Below (w+1) w1 w2):=Aa ((hb.out.alloc oM _).trans (hb2.mono naf));have hs2:w.heap.size+1<=w2.heap.size:=by have:=hB2.out.size;have:=hs1.out;omega
   clear IH hb2 hblk2 e0 e1 e2 e3 e4 m0 hO hb hB;have STEP:∀ (v':ZC) (w3:ZB) (o:Obj),Av (w+1) w3 v' (L++[KT])->(w2.alloc o).grownBy w3 (Value.slice a3 L.length c3).ownBlock->Hid (Av (w+1) w3 v' ((f.kids.take (j+1)).map (ah 4)))/\Hid (Below (w+1) w1 w3):=fun v' w3 o h1 h2 =>⟨Aa (by rw [hts.out];exact h1),Aa ((hB2.out.alloc hs2 _).grown h2 naf (fun j hj=>(Ih hO2.out j hj).1))⟩
   replace STEP:=Aa STEP;obtain⟨b6,p6⟩:=naa (x.op==6);obtain⟨b5,p5⟩:=naa (x.op==5);have hpar:Hid ((x.op==6||x.op==5&&(4:Int) != 6)=(b6||b5&&(4:Int) != 6)):=Aa (by rw [p6,p5]);exact FD63
  ·obtain rfl:j=KN:=oM;have htk:f.kids.take j=f.kids:=by rw [<- hKN.out,D5]
   clear hf3;rw [htk] at hO hf1 ⊢;clear htk;have hO:Hid (Av (w+1) wr (.slice a3 (f.kids.map (ah 4)).length c3) (f.kids.map (ah 4))):=hO;obtain⟨x,hx⟩:∃ x,f.kids=[x]:=List.length_eq_one_iff.1 (by rw [hKN.out];exact hone.out);have hRe:Hid ([110,111,116,32]++ah 4 x=R):=Aa (by rw [<- hR.out,text_eq,hop.out,hx];rfl);have hxt:=hxl.out x (by rw [hx];simp);have hkt:(ah 4 x).length<=x.text.length+2:=by unfold ah;split <;> simp
   have hO:Av (w+1) wr (.slice a3 1 c3) [ah 4 x]:=by have:=hO.out;rw [hx] at this;exact this
   obtain⟨b3,SL,rfl,hb3,hc3⟩:∃ b off,a3=some ⟨b,off,none⟩/\b<wr.heap.size/\∀ (j:Nat) (l:Q00),[ah 4 x][j]?=some l->wr.cell? ⟨b,off+j,none⟩=some ↑l:=by obtain⟨a',c',e',h1',h2',h3'⟩:=hO.strs;cases e';exact h3' sM
   have k0:=hc3 0 _ rfl;rw [Hu] at k0;rw [hx] at ⊢;have hll:([x].map (ah 4)).length=1:=rfl;rw [hll];clear hO hc3 hx hll;generalize ah 4 x=KT at *;have l1:¬ (9223372036854775807<4+KT.length):=oM;go_wp2;go_ret;exact⟨by rw [<- hRe.out,<- A5];rfl,hB⟩
theorem Uo (f:CH.Formula) (ak:Option Addr) (nk ck:Nat) (w:ZB) (h:f.op=1\/f.op=2) : ZE prog 176 #[.agg (An f (.slice ak nk ck))] w (Ret w ↑f.text):=by
 have ht:=text_eq f;obtain⟨R,hR⟩:=nac f.text;rw [hR.out] at ht ⊢;dsimp only [An];rcases h with h|h;·rw [h] at ht ⊢;replace ht:R=([116,114,117,101]:Q00):=ht;subst ht;go_in;go_wp2;go_ret;exact⟨rfl,(Ac _ w).alloc nR _⟩
 ·rw [h] at ht ⊢;replace ht:R=([102,97,108,115,101]:Q00):=ht;subst ht;go_in;go_wp2;go_ret;exact⟨rfl,(Ac _ w).alloc nR _⟩
theorem Coq {l:List CH.Formula} (h:fH l=true) {x:CH.Formula} (hx:x∈l):x.ok=true:=by
 induction l with
 |nil=>cases hx
 |cons g l ih =>
  simp only [fH,Aq] at h;rcases Az.1 hx with rfl|hx;·exact h.1
  ·exact ih h.2 hx
theorem Mab (k:Nat):∀ (f:CH.Formula) (vk:ZC) (w:ZB),f.depth<=k->Gl w->Ax w w f vk->f.ok=true->Ct f->f.count<=90000 -> ZE prog 176 #[.agg (An f vk)] w (Ret w ↑f.text):=by
 induction k with
 |zero=>intro f vk w hk;exact absurd hk (by rw [Li];omega)
 |succ k ih =>
  intro f vk w hk hG hK hok hS hcount;have xC:=To hok;have hd:=Li f;have hcn:=At2 f;have hlen:=Q2 f.kids;have hIH:Vs f:=fun x hx vx W hKx hGx=>ih x vx W (by have:=Sw hx;omega) hGx hKx (Coq xC.2.2 hx) (hS.kids.mem hx) (by have:=C65 hx;omega);have hxl:∀ x∈f.kids,x.text.length<=3000000000:=fun x hx=>by have:=Zf x (hS.kids.mem hx) (Coq xC.2.2 hx);have:=C65 hx;omega
  have hjl:∀ (op:Int) (sep:Q00),sep.length<=5->(CH.join sep (f.kids.map (ah op))).length<=140737488355328:=fun op sep hsep=>by
   have h1:=V5 op f.kids hS.kids xC.2.2;have h2:=Tu sep (f.kids.map (ah op));have h3:((f.kids.map (ah op)).map fun l=>l.length+sep.length).sum<=((f.kids.map (ah op)).map fun l=>l.length+5).sum:=by
    generalize f.kids.map (ah op)=ls;induction ls with
    |nil=>simp
    |cons a l ih=>simp only [Gg,Mc];omega
   omega
  obtain⟨ak,ck,rfl,hc1,hc2,hrow⟩:=hK.form;rcases Mon hok with h|h|⟨h,h1,h6⟩|⟨h,h1⟩|h|h;·exact Uo f ak _ ck w (.inl h)
  ·exact Uo f ak _ ck w (.inr h)
  ·have hn:=xC.2.1 h;exact Dev f ak _ ck w hG h h1 h6 hn.1 hn.2 hS.name
  ·exact Ka8 f _ w hG hK h oM hxl h1 hIH (hjl 4 _ dC)
  ·exact Jun f _ w hG hK h oM hxl hIH (hjl 5 _ dC)
  ·exact Jul f _ w hG hK h oM hxl hIH (hjl 6 _ dC)
theorem Yo (f:CH.Formula) (vk:ZC) (w:ZB) (hG:Gl w) (hK:Ax w w f vk) (hS:Ct f) (hc:f.count<=100000000) (hd:f.depth<=100000000) : ZE prog 106 #[.agg (An f vk)] w (Ret w (bI (bJ f))):=by
 obtain⟨R,hR⟩:=nac (bI (bJ f));rw [hR.out];have KB:=fun (W:ZB) (hb:Below w w W)=>Ax.mono hb.size _ _ (Ax.below hb nR _ _ hK);have L:=fun (W:ZB) (hb:Below w w W)=>Ctd f vk W (KB W hb) hc hd;have F:=fun (W:ZB) (hb:Below w w W)=>Lcm f.depth f vk W nR (KB W hb) hS;obtain⟨lg,hlg⟩:=naa (ZH (f.count > 200)||ZH (f.depth > 20));obtain⟨ok,hok⟩:=naa f.ok;rw [hlg] at L;rw [hok] at F;replace L:=Aa L;replace F:=Aa F;have hRe:Hid (R=bI (if lg then none else if ok then some f.text else none)):=Aa (by rw [<- hR.out,<- hlg,<- hok];rfl);have hB0:=fun o=>(Ac _ w).alloc nR o;have hW:=fun o=>Ag w o;have hz1:=C13;have hz2:=Ask;have FE:=Va;have T:=fun (BF:f.count<=90000) (hok:f.ok=true) (W:ZB) (hb:Below w w W)=>Mab f.depth f vk W nR (hG.below hb) (KB W hb) hok hS BF;replace T:=Aa T;clear KB;obtain⟨ak,ck,rfl,hc1,hc2,hrow⟩:=hK.form;clear hrow hK;generalize f.kids.length=KN at *;dsimp only [An] at L F T ⊢;cases lg with
 |true =>obtain rfl:=hRe.out;clear F T hok hlg;go_in;go_wp2_with fail;refine CmZ (L.out _ (hB0 _)) fun w1 hb1=>?_;clear L;go_wp2;go_ret2;exact⟨rfl,(hB0 _).trans (hb1.mono sM)⟩
 |false =>
  have BF:f.count<=200:=by simp only [Ez,Dw] at hlg;omega
  clear hlg;go_in;go_wp2_with fail;refine CmZ (L.out _ (hB0 _)) fun w1 hb1=>?_;have hB1:Below w w w1:=(hB0 _).trans (hb1.mono sM);have hblk:=(hb1.block w sM).trans (hW _);clear L hb1 hW hB0;have k0:=Ab hblk 0;have k1:=Ab hblk 1;have k2:=Ab hblk 2;have k3:=Ab hblk 3;have k4:=Ab hblk 4;simp only [Hy,H9,Ir] at k0 k1 k2 k3 k4;have hblk:=Aa hblk;go_wp2_with fail;refine CmZ (F.out _ hB1) fun w2 hb2=>?_;have hB2:Below w w w2:=hB1.trans (hb2.mono hB1.size);have hblk2:=(hb2.block w (aZ hblk.out)).trans hblk.out;clear F k0 k1 k2 k3 k4;have k0:=Ab hblk2 0;have k1:=Ab hblk2 1;have k2:=Ab hblk2 2;have k3:=Ab hblk2 3;have k4:=Ab hblk2 4;simp only [Hy,H9,Ir] at k0 k1 k2 k3 k4;clear hblk hblk2 hb2;cases ok with
  |false =>obtain rfl:=hRe.out;clear T hok;go_wp2;go_ret2;exact⟨rfl,hB2⟩
  |true =>obtain rfl:=hRe.out;have T:=Aa (T.out oM hok);clear hok;go_wp2_with fail;refine CmZ (T.out _ hB2) fun w3 hb3=>?_;clear T;go_wp2;go_ret2;exact⟨rfl,hB2.trans (hb3.mono hB2.size)⟩
theorem Hf1 (vx:ZC) (lx ls:List Q00) (base p B:Nat) (w:ZB) (hW:Cw base p w ls) (hX:Strs B w vx lx) (hl:ls.length+lx.length<=1000000) : ZE prog 109 #[.bool true,vx,.pointer (some ⟨p,0,none⟩)] w (I52 base p w (ls++lx)):=by exact FD12
theorem Fix (vx:ZC) (ls:List Q00) (base p:Nat) (w:ZB) (hW:Cw base p w ls) (ax:Option Addr) (nx cx:Nat) (hx:vx=.slice ax nx cx) : ZE prog 109 #[.bool false,vx,.pointer (some ⟨p,0,none⟩)] w (I52 base p w ls):=by subst hx;go_in;go_wp2;go_end0;exact⟨rfl,hW,Ac _ _,Au _⟩
def fP (b:Bool) (ls lx:List Q00):List Q00:=if b then ls++lx else ls
theorem S5 (b:Bool) (ls lx:List Q00):(fP b ls lx).length<=ls.length+lx.length:=by unfold fP;split <;> simp
theorem dQ.fP {n:Nat} {b:Bool} {lx:List Q00} (h1:dQ n ls) (h2:dQ n lx):dQ n (fP b ls lx):=by
 intro l hl;unfold Go.Proofs.Y.fP at hl;split at hl
 ·rcases Bz.1 hl with h|h;·exact h1 l h
  ·exact h2 l h
 ·exact h1 l hl
theorem Vc {f:CH.Formula} {t:Q00} (h:bJ f=some t) (hS:Ct f):t.length<=6000000:=by
 unfold bJ at h;split at h;·cases h
 ·rename_i hn;split at h;·rename_i hok;cases h;have:=Zf f hS hok;simp only [Ej,Bj,Le] at hn;omega
  ·cases h
theorem Rc (b:Bool) (lx ls:List Q00) (base p:Nat) (w:ZB) (hW:Cw base p w ls) (hl:ls.length+lx.length<=1000000) (n:Nat) (hn:lx.length=n) (T:Array ZC) (hT:T=(lx.map ay).toArray) : ZE prog 109 #[.bool b,.slice (some ⟨w,0,none⟩) n n,.pointer (some ⟨p,0,none⟩)] (w.alloc (.cells T 9)) (I52 base p (w.alloc (.cells T 9)) (fP b ls lx)):=by
 subst hn hT;cases b with
 |true=>exact Hf1 _ lx ls base p _ _ (hW.alloc _) (Nx w lx oM).strs hl
 |false=>exact Fix _ ls base p _ (hW.alloc _) _ _ _ rfl
theorem Fl8 {W:ZB} {p:Nat} (h:W.heap[p]?=some (.cells #[.slice none 0 0] 23 (0,0))):Cw p p W [] := ⟨.slice none 0 0,h,Av.nil _ _,by simp [Value.ownBlock],Au _⟩
theorem Yv (w:ZB):(zeroValue 9).run prog w=.ok (.string ⟨#[]⟩) w:=kR
theorem Tb (w:ZB) (a b c:Int) (va vb vc:Q00) (hab:(b==a)=false) (hac:(c==a)=false) (hbc:(c==b)=false) : ∃ o1 o2 o3,(Instr.mapUpdate 113 (.map (some w.heap.size)) ↑a (ay va)).run prog (w.alloc (.map #[] 0))=.ok () ((w.alloc (.map #[] 0)).putObj w.heap.size o1) /\ (Instr.mapUpdate 113 (.map (some w.heap.size)) ↑b (ay vb)).run prog ((w.alloc (.map #[] 0)).putObj w.heap.size o1)=.ok () (((w.alloc (.map #[] 0)).putObj w.heap.size o1).putObj w.heap.size o2) /\ (Instr.mapUpdate 113 (.map (some w.heap.size)) ↑c (ay vc)).run prog (((w.alloc (.map #[] 0)).putObj w.heap.size o1).putObj w.heap.size o2)=.ok () ((((w.alloc (.map #[] 0)).putObj w.heap.size o1).putObj w.heap.size o2).putObj w.heap.size o3) /\ Ly aI w ((((w.alloc (.map #[] 0)).putObj w.heap.size o1).putObj w.heap.size o2).putObj w.heap.size o3) [(a,ay va),(b,ay vb),(c,ay vc)]:=by obtain⟨o1,h1,m1⟩:=Cn Wo underlying113 (Lw aI w) a (ay va) rfl;obtain⟨o2,h2,m2⟩:=Cn Wo underlying113 m1 b (ay vb) (by simp [Bp,hab]);obtain⟨o3,h3,m3⟩:=Cn Wo underlying113 m2 c (ay vc) (by simp [Bp,hac,hbc]);exact⟨o1,o2,o3,h1,h2,h3,m3⟩
structure dh (B:Nat) (w:ZB) (m:aC) (vk:ZC):Prop where
 kids:Ax B w m.aB vk
 nums:jg m
 id:m.id.length<=20000
 authority:m.authority.length<=20000
 target:m.target.length<=20000
 short:Ct m.aB
 count:m.aB.count<=100000000
 depth:m.aB.depth<=100000000
theorem dh.below {m:aC} {vk:ZC} (h:dh B w m vk) (hb:Below B' w w') (hB:B<=B'):dh B w' m vk:={ h with kids:=Ax.below hb hB _ _ h.kids }
theorem dh.mono {m:aC} {vk:ZC} (h:dh B w m vk) (hB:B<=B'):dh B' w m vk:={ h with kids:=Ax.mono hB _ _ h.kids }
def Fs (m:aC) (t:Q00):List Q00 := fP (ZH (m.aQ > 0)) (fP (ZH (m.aF >= 0)) (fP true (fP (m.aB.op != 1) (fP true (fP (m.target != []) (fP true [] [dw m.kind]) [m.target]) [m.id,([111,102]:Q00),m.authority]) [([105,102]:Q00),t]) [([102,114,111,109]:Q00),ZK m.start]) [([117,110,116,105,108]:Q00),ZK m.aF]) [([119,105,110,100]:Q00),ZK m.aQ]
theorem Wk (m:aC):dJ m=match bJ m.aB with
  |none=>none
  |some t=>if dH m&&dM m then some (CH.join [32] (Fs m t)++[59]) else none:=by
 unfold dJ
 cases bJ m.aB with
 |none=>rfl
 |some t =>
  dsimp only
  congr 4
  unfold Fs fP
  cases h1:(m.target != []) <;> cases h2:(m.aB.op != 1) <;> cases h3:ZH (m.aF >= 0) <;> cases h4:ZH (m.aQ > 0) <;> simp_all
def I64 (n:Int):Prop:=-9223372036854775808<=n/\n<=9223372036854775807
structure zM (a:Q02):Prop where
 change:gI a.change
 pos:I64 a.change.pos
 lid:a.licence.id.length<=20000
 lm:Er a.licence.measures
 lp:Er a.licence.aO
 hold:jC a.holding
 id:a.id.length<=20000
 kind:I64 a.kind
 n:I64 a.n
def Dm (l:fV) (vm vp:ZC):List ZC:=[ay l.id,vm,vp,aI l.quota,aI l.uses,aI l.start,aI l.aF]
structure gV where
 vn:ZC
 vk:ZC
 vm:ZC
 vp:ZC
 vj:ZC
def A4 (a:Q02) (s:gV):List ZC := aI a.kind::(Bt a.change s.vn++(A6 a.measure s.vk++(Dm a.licence s.vm s.vp++(Bi a.holding s.vj++[ay a.id,aI a.n]))))
structure dG (B:Nat) (w:ZB) (a:Q02) (s:gV):Prop where
 names:Ek B w s.vn a.change.entry.names
 meas:dh B w a.measure s.vk
 lm:Strs B w s.vm a.licence.measures
 lp:Strs B w s.vp a.licence.aO
 hj:Strs B w s.vj a.holding.joint
 small:zM a
theorem dG.below {a:Q02} {s:gV} (h:dG B w a s) (hb:Below B' w w') (hB:B<=B'):dG B w' a s:=⟨h.names.below hb hB,h.meas.below hb hB,h.lm.below hb hB,h.lp.below hb hB,h.hj.below hb hB,h.small⟩
theorem dG.mono {a:Q02} {s:gV} (h:dG B w a s) (hB:B<=B'):dG B' w a s:=⟨h.names.mono hB,h.meas.mono hB,h.lm.mono hB,h.lp.mono hB,h.hj.mono hB,h.small⟩
structure Held (R:List Nat) (w w':ZB):Prop where
 os:w'.os=w.os
 tape:w'.tape=w.tape
 output:w'.output=w.output
 size:w.heap.size<=w'.heap.size
 block:∀ k,k<w.heap.size->k ∉ R->w'.heap[k]?=w.heap[k]?
theorem Held.of_below (h:Below w w w'):Held R w w':=⟨h.os,h.tape,h.output,h.size,fun k hk _=>h.block k hk⟩
theorem Held.trans {w1 w2:ZB} (h:Held R w w1) (h':Held R w1 w2):Held R w w2 := ⟨h'.os.trans h.os,h'.tape.trans h.tape,h'.output.trans h.output,Aj h.size h'.size,fun k hk hR=>(h'.block k (Af hk h.size) hR).trans (h.block k hk hR)⟩
theorem Held.mono {R':List Nat} (h:Held R w w') (hs:∀ r∈R,r∈R'):Held R' w w':=⟨h.os,h.tape,h.output,h.size,fun k hk hR=>h.block k hk fun hr=>hR (hs k hr)⟩
theorem Held.below (h:Held R w w') (hB:B<=w.heap.size) (hR:∀ r∈R,B<=r):Below B w w':=⟨h.os,h.tape,h.output,h.size,fun k hk=>h.block k (Af hk hB) fun hr=>by have:=hR k hr;omega⟩
def Cells (w w':ZB):Prop:=∀ p v,w.cell? p=some v->w'.cell? p=some v
theorem Cells.trans {a b c:ZB} (h:Cells a b) (h':Cells b c):Cells a c:=fun p v hp=>h' p v (h p v hp)
theorem Cells.of_below (h:Below w w w'):Cells w w':=fun p v hp=>(h.cell (Bd w p hp)).trans hp
def Nsx (w:ZB) (r:Nat):Prop:=∃ es c,w.heap[r]?=some (.map es c)
theorem Dd {p:Addr} (h:w'.heap[p.block]?=w.heap[p.block]?):w'.cell? p=w.cell? p:=by simp only [World.cell?,h]
theorem Held.cells (h:Held R w w') (hR:∀ r∈R,Nsx w r):Cells w w':=fun p v hp=>by
 have hlt:=Bd w p hp;by_cases hm:p.block∈R;·obtain⟨es,c,he⟩:=hR _ hm;simp [World.cell?,he] at hp
 ·rw [Dd (h.block _ hlt hm)];exact hp
theorem Strs.kept {v:ZC} (h:Strs B w v ls) (hc:Cells w w'):Strs B w' v ls:=by obtain⟨a,cap,hv,h1,h2,h3⟩:=h;refine⟨a,cap,hv,h1,h2,fun hne=>?_⟩;obtain⟨b,off,ha,hlt,hx⟩:=h3 hne;exact⟨b,off,ha,hlt,fun j l hj=>hc _ _ (hx j l hj)⟩
theorem Ek.kept {v:ZC} {ns:List Q05} (h:Ek B w v ns) (hc:Cells w w'):Ek B w' v ns:=by obtain⟨a,cap,h1,h2,h3,h4⟩:=h;refine⟨a,cap,h1,h2,h3,fun hne=>?_⟩;obtain⟨b,off,e,hlt,hx⟩:=h4 hne;refine⟨b,off,e,hlt,fun j n hj=>?_⟩;obtain⟨vw,c1,c2,c3⟩:=hx j n hj;exact⟨vw,hc _ _ c1,hc _ _ c2,c3.kept hc⟩
mutual
theorem Ax.kept (hc:Cells w w'):∀ (f:CH.Formula) (v:ZC),Ax B w f v->Ax B w' f v
 |.mk _ _ _ _ kids,v,h=>by
  unfold Ax at h ⊢
  obtain⟨a,cap,h1,h2,h3,h4⟩:=h
  refine⟨a,cap,h1,h2,h3,fun hne=>?_⟩
  obtain⟨b,off,e,hlt,hr⟩:=h4 hne
  exact⟨b,off,e,hlt,bP.kept hc kids b off hr⟩
theorem bP.kept (hc:Cells w w'):∀ (l:List CH.Formula) (b off:Nat),bP B w l b off->bP B w' l b off
 |[],_,_,_=>by unfold bP;trivial
 |f::l,b,off,h=>by
  unfold bP at h ⊢
  obtain⟨⟨vk,c0,c1,c2,c3,c4,hk⟩,hr⟩:=h
  exact⟨⟨vk,hc _ _ c0,hc _ _ c1,hc _ _ c2,hc _ _ c3,hc _ _ c4,Ax.kept hc f vk hk⟩,bP.kept hc l b (off+5) hr⟩
end
theorem dG.kept {B:Nat} {w w':ZB} {a:Q02} {s:gV} (h:dG B w a s) (hc:Cells w w'):dG B w' a s:=⟨h.names.kept hc,{ h.meas with kids:=Ax.kept hc _ _ h.meas.kids },h.lm.kept hc,h.lp.kept hc,h.hj.kept hc,h.small⟩
theorem Gl.kept {w w':ZB} (h:Gl w) (hc:Cells w w') (hb:Below (10+1) w w'):Gl w':={
  size:=Aj h.size hb.size
  db:=hc _ _ h.db
  pow10:=var?_below hb kR (g:=5) dC h.pow10
  utf8:=⟨fun c hlt=>hc _ _ (h.utf8.1 c hlt),fun i hi=>⟨hc _ _ (h.utf8.2 i hi).1,hc _ _ (h.utf8.2 i hi).2⟩⟩ }
theorem Gc.kept {w w':ZB} (h:Gc w) (hc:Cells w w') (hb:Below (10+1) w w'):Gc w':=by refine⟨h.gl.kept hc hb,?_⟩;obtain⟨R,oR,cap,h1,h2⟩:=h.wK;exact⟨R,oR,cap,hc _ _ h1,fun i hi=>⟨hc _ _ (h2 i hi).1,hc _ _ (h2 i hi).2.1,hc _ _ (h2 i hi).2.2.1,hc _ _ (h2 i hi).2.2.2.1,hc _ _ (h2 i hi).2.2.2.2⟩⟩
theorem Vq {B:Nat} {w:ZB} {a:Q02} {s:gV} (h:dG B w a s):∀ v∈A4 a s,v.oneCell'=true:=by obtain⟨vn,vk,vm,vp,vj⟩:=s;obtain⟨_,_,e1,_,_⟩:=h.names.form;obtain⟨_,_,e2,_,_,_⟩:=h.meas.kids.form;exact FD43
def Gr (B:Nat) (w:ZB) (v:ZC) (l:List Q02):Prop := ∃ a cap,v=.slice a l.length cap/\l.length<=cap/\cap<=9223372036854775807 /\ (l≠[]->∃ b off,a=some ⟨b,off,none⟩/\b<B/\∀ j x,l[j]?=some x->∃ s,(∀ i u,(A4 x s)[i]?=some u->w.cell? ⟨b,off+j*37+i,none⟩=some u)/\dG B w x s)
theorem Gr.kept {B:Nat} {w w':ZB} {v:ZC} {l:List Q02} (h:Gr B w v l) (hc:Cells w w'):Gr B w' v l:=by obtain⟨a,cap,h1,h2,h3,h4⟩:=h;refine⟨a,cap,h1,h2,h3,fun hne=>?_⟩;obtain⟨b,off,e,hlt,hx⟩:=h4 hne;refine⟨b,off,e,hlt,fun j x hj=>?_⟩;obtain⟨s,c1,c2⟩:=hx j x hj;exact⟨s,fun i u hi=>hc _ _ (c1 i u hi),c2.kept hc⟩
theorem Gr.below {B B':Nat} {w w':ZB} {v:ZC} {l:List Q02} (h:Gr B w v l) (hb:Below B' w w') (hB:B<=B'):Gr B w' v l:=by exact FD30
theorem Gr.mono {B B':Nat} {w:ZB} {v:ZC} {l:List Q02} (h:Gr B w v l) (hB:B<=B'):Gr B' w v l:=by exact FD17
theorem Gr.form {B:Nat} {w:ZB} {v:ZC} {l:List Q02} (h:Gr B w v l):∃ a cap,v=.slice a l.length cap/\l.length<=cap/\cap<=9223372036854775807:=by exact FD72
structure dA where
 va:ZC
 v1:ZC
 v2:ZC
def At (v:Q01) (s:dA):List ZC:=[aI v.authority,aI v.number,aI v.pos,ay v.prev,s.va,aI v.sel.index,s.v1,s.v2]
structure vG (v:Q01):Prop where
 authority:I64 v.authority
 number:I64 v.number
 pos:I64 v.pos
 prev:v.prev.length<=20000
 index:I64 v.sel.index
 sig:Er v.sel.sig
 path:Er v.sel.path
structure aK (B:Nat) (w:ZB) (v:Q01) (s:dA):Prop where
 acts:Gr B w s.va v.acts
 sig:Strs B w s.v1 v.sel.sig
 path:Strs B w s.v2 v.sel.path
 small:vG v
theorem aK.kept {B:Nat} {w w':ZB} {v:Q01} {s:dA} (h:aK B w v s) (hc:Cells w w'):aK B w' v s:=⟨h.acts.kept hc,h.sig.kept hc,h.path.kept hc,h.small⟩
theorem aK.below {B B':Nat} {w w':ZB} {v:Q01} {s:dA} (h:aK B w v s) (hb:Below B' w w') (hB:B<=B'):aK B w' v s:=⟨h.acts.below hb hB,h.sig.below hb hB,h.path.below hb hB,h.small⟩
theorem aK.mono {B B':Nat} {w:ZB} {v:Q01} {s:dA} (h:aK B w v s) (hB:B<=B'):aK B' w v s:=⟨h.acts.mono hB,h.sig.mono hB,h.path.mono hB,h.small⟩
theorem aK.grow {w w':ZB} {v:Q01} {s:dA} (h:aK w w v s) (hb:Below w w w'):aK w' w' v s:=(h.below hb nR).mono hb.size
theorem RU {X:ZB} {b:Nat} {u0 u1 u2 u3 u4 u5 u6 u7:ZC} {T:TypeId} {z:Nat × Nat} (h:X.heap[b]?=some (.cells #[u0,u1,u2,u3,u4,u5,u6,u7] T z)) : (∀ d os,(grow (ZI X d) os).cell? ⟨b,0,none⟩=some u0)/\(∀ d os,(grow (ZI X d) os).cell? ⟨b,1,none⟩=some u1)/\(∀ d os,(grow (ZI X d) os).cell? ⟨b,2,none⟩=some u2)/\(∀ d os,(grow (ZI X d) os).cell? ⟨b,3,none⟩=some u3)/\(∀ d os,(grow (ZI X d) os).cell? ⟨b,4,none⟩=some u4)/\(∀ d os,(grow (ZI X d) os).cell? ⟨b,5,none⟩=some u5)/\(∀ d os,(grow (ZI X d) os).cell? ⟨b,6,none⟩=some u6)/\(∀ d os,(grow (ZI X d) os).cell? ⟨b,7,none⟩=some u7) := ⟨A8 (Ab h 0),A8 (Ab h 1),A8 (Ab h 2),A8 (Ab h 3),A8 (Ab h 4),A8 (Ab h 5),A8 (Ab h 6),A8 (Ab h 7)⟩
def Pd (xs:List (Q01 × dA)):List ZC:=xs.flatMap fun x=>At x.1 x.2
theorem Mf {B:Nat} {w:ZB} {v:Q01} {s:dA} (h:aK B w v s):∀ u∈At v s,u.oneCell'=true:=by obtain⟨va,v1,v2⟩:=s;obtain⟨_,_,e1,_,_⟩:=h.acts.form;obtain⟨_,_,e2,_,_⟩:=h.sig.form;obtain⟨_,_,e3,_,_⟩:=h.path.form;change va=_ at e1;change v1=_ at e2;change v2=_ at e3;intro u hu;simp only [At,Az,Bo,Ey] at hu;exact FD89
def Lk (base B:Nat) (w:ZB) (v:ZC) (ls:List Q01):Prop := ∃ xs:List (Q01 × dA),xs.map (·.1)=ls/\w.ownsRow base 27 8 v ls.length (Pd xs)/\(∀ x∈xs,aK B w x.1 x.2)/\B<=base/\base<=w.heap.size
theorem Lk.nil {base B:Nat} {w:ZB} (hB:B<=base) (hb:base<=w.heap.size):Lk base B w (.slice none 0 0) []:=⟨[],rfl,Ji w base _ _,(fun _ h=>by cases h),hB,hb⟩
theorem Lk.below {base B:Nat} {w w':ZB} {v:ZC} {ls:List Q01} (h:Lk base B w v ls) (hb:Below w w w'):Lk base B w' v ls:=by obtain⟨xs,h1,h2,h3,h4,h5⟩:=h;exact⟨xs,h1,Hm h2 hb,fun x hx=>(h3 x hx).below hb (Aj h4 h5),h4,Aj h5 hb.size⟩
theorem Oct:(prog.info? 27).map (fun i=>(i.zero,i.size,i.bytes))=some (some (.agg #[.int .i64 0,.int .i64 0,.int .i64 0,.string ⟨#[]⟩,.slice none 0 0,.int .i64 0,.slice none 0 0,.slice none 0 0]),8,120):=kR
theorem _root_.Go.World.grownBy.cells {w w':ZB} {row:Option Nat} (h:w.grownBy w' row) {p:Addr} {v:ZC} (hp:w.cell? p=some v) (hne:row≠some p.block):w'.cell? p=some v:=by rw [Dd (h.block _ (Bd w p hp) hne.symm)];exact hp
theorem Hdy {w:ZB} {ops:Array Oper} {rest:List Oper} {o:Oper} {a:Act} {Q:Exit->Act->ZB->Prop} (hgd:o.guard=none) (s x:Operand) (ho:o.op=.call { callee:=.builtin .append,args:=#[s,x],argTypes:=#[30,30] }) (base:Nat) (v:ZC) (n:Nat) (xs:List ZC) (hs:a.eval s=v) (hown:w.ownsRow base 27 8 v n xs) (vx:ZC) (m:Nat) (news:List ZC) (hx:a.eval x=vx) (hX:I31 w vx m news) (hl:news.length=m*8) (h1:∀ u∈news,u.oneCell'=true) (hlen:n+m<=1000000) (hbase:base<=w.heap.size) (h:∀ v' w',w'.ownsRow base 27 8 v' (n+m) (xs++news)->w.grownBy w' v.ownBlock->(v'.ownBlock=v.ownBlock\/v'.ownBlock=some w.heap.size)->wpList prog ops Q rest (a.put o.dst v') w') : wpList prog ops Q (o::rest) a w:=by
 obtain⟨i,hi,hz0,hz1,hz2⟩:=Jb Oct;refine L0 w hgd s x 30 ho base 27 i _ 8 120 underlying30 hi hz0 hz1 hz2 rfl dC v n _ hs hown vx m news hx hX hl h1 ?_ ?_ hbase h;·unfold maxLen;omega
 ·omega
theorem U1 (vn:ZC) (c:Q07) (w:ZB) (hG:Gc w) (hv:Ek w w vn c.entry.names) (hS:gI c) (hp0:-9223372036854775808<=c.pos) (hp1:c.pos<=9223372036854775807) : ZE prog 45 #[.agg (Bt c vn).toArray] w (Ret w (bI (bH c))):=by
 obtain⟨r,hr⟩:=nac (bI (bH c));rw [hr.out];have hB0:=fun o=>(Ac _ w).alloc nR o;have hW:=fun o=>Ag w o;have F:=fun (w':ZB) (hb:Below w w w')=>I19 vn c w' (hG.below hb) ((hv.below hb nR).mono hb.size) hS;obtain⟨an,cn,rfl,UJ,UH⟩:=hv.form;generalize hN:c.entry.names.length=N at *;dsimp only [Bt] at F ⊢;cases hok:eu c with
 |false =>rw [hok] at F;have F:=Aa F;go_in;go_wp2_with fail;refine CmZ (F.out _ (hB0 _)) fun w1 hb1=>?_;clear F;go_wp2;go_ret2;exact⟨by rw [<- hr.out];unfold bH;rw [hok];rfl,(hB0 _).trans (hb1.mono sM)⟩
 |true =>
  rw [hok] at F;have F:=Aa F;have hk:=I10 hok;go_in;go_wp2_with fail;refine CmZ (F.out _ (hB0 _)) fun w1 hb1=>?_;clear F;have hB1:Below w w w1:=(hB0 _).trans (hb1.mono sM);have hblk:=(hb1.block w sM).trans (hW _);have hlt1:w.heap.size<w1.heap.size:=(aZ hblk)
  clear hb1 hW hB0;have HB:=Aa hblk;obtain⟨kn,hkn,UC,UA⟩:∃ kn:Nat,c.kind=kn/\1<=kn/\kn<=4:=⟨c.kind.toNat,oM,oM,oM⟩
  have k0:w1.cell? ⟨w,0,none⟩=some ↑kn:=by rw [<- hkn];exact Ab hblk 0
  have k1:w1.cell? ⟨w,1,none⟩=some ↑c.id:=Ab hblk 1;clear hblk;go_wp2_with fail;have SS:∀ W',Below w1 w1 W'->W'.cell? ⟨w,0,none⟩=some ↑kn/\W'.cell? ⟨w,1,none⟩=some ↑c.id:=fun W' hb=>⟨(hb.cell (p:=⟨w,0,none⟩) hlt1).trans k0,(hb.cell (p:=⟨w,1,none⟩) hlt1).trans k1⟩
  obtain⟨kw,hkw⟩:=nac (CH.kindWord c.kind);have hkc:∀ (W':ZB),(W'.alloc (.cells #[.string ⟨#[]⟩,.string ⟨([97,100,100]:Q00).toArray⟩,.string ⟨([114,101,109,111,118,101]:Q00).toArray⟩,.string ⟨([99,111,114,114,101,99,116]:Q00).toArray⟩,.string ⟨([118,111,105,100]:Q00).toArray⟩] 9)).cell? ⟨W',kn,none⟩=some ↑kw:=fun W'=>by rw [Cb,<- hkw.out,hkn];rcases (oM:kn=1\/kn=2\/kn=3\/kn=4) with rfl|rfl|rfl|rfl <;> rfl
  have hBd:Below w1 w1 w1.drew:=(Ac _ w1).drew;have k0d:=fun o=>(SS _ (hBd.alloc nR o))
  have PS:∀ (W':ZB) o,((W'.alloc (.cells #[.string ⟨#[]⟩,.string ⟨([97,100,100]:Q00).toArray⟩,.string ⟨([114,101,109,111,118,101]:Q00).toArray⟩,.string ⟨([99,111,114,114,101,99,116]:Q00).toArray⟩,.string ⟨([118,111,105,100]:Q00).toArray⟩] 9)).alloc o).cell? ⟨W',kn,none⟩=some ↑kw:=fun W' o=>by rw [Em _ _ _ (by rw [hkc];rfl)];exact hkc W'
  have PO:∀ o,((w1.alloc o).alloc (.cells #[.string ⟨#[]⟩,.string ⟨([97,100,100]:Q00).toArray⟩,.string ⟨([114,101,109,111,118,101]:Q00).toArray⟩,.string ⟨([99,111,114,114,101,99,116]:Q00).toArray⟩,.string ⟨([118,111,105,100]:Q00).toArray⟩] 9)).cell? ⟨w1+1,kn,none⟩=some ↑kw:=fun o=>by have:=hkc (w1.alloc o);rwa [Df] at this
  rename_i K hK;have TAIL:∀ (P:Nat) (v13 v16 v20:ZC) (X:ZB),Cw w1 P X [kw,c.id]->Below w1 w1 X->K { tmps:=#[.agg #[↑kn,↑c.id,↑c.entry.id,.slice an N cn,↑c.pos],.pointer (some ⟨w,0,none⟩),.string ⟨#[]⟩,.int .i64 0,.pointer (some ⟨P,0,none⟩),ZA,ZA,ZA,ZA,ZA,.agg #[↑kn,↑c.id,↑c.entry.id,.slice an N cn,↑c.pos],.bool true,.bool false,v13,.pointer (some ⟨w,0,none⟩),↑kn,v16,↑kw,.pointer (some ⟨w,1,none⟩),↑c.id,v20,ZA,ZA,ZA,ZA,ZA,ZA,ZA,ZA,ZA,ZA,ZA,ZA,ZA,ZA,ZA,ZA,ZA,ZA,ZA,ZA,ZA,ZA,ZA,ZA,ZA,ZA,ZA,ZA,ZA,ZA,ZA,ZA,ZA,ZA,ZA,ZA,ZA,ZA],defers:=[] } X:=by
   intro P v13 v16 v20 X hA hBX;refine hK _ _ ?_;clear hkc PS PO k0d SS;have m0:X.cell? ⟨w,0,none⟩=some ↑kn:=(hBX.cell (p:=⟨w,0,none⟩) hlt1).trans k0;have m3:X.cell? ⟨w,3,none⟩=some (.slice an N cn):=(hBX.cell (p:=⟨w,3,none⟩) hlt1).trans (Ab HB.out 3);have m4:X.cell? ⟨w,4,none⟩=some ↑c.pos:=(hBX.cell (p:=⟨w,4,none⟩) hlt1).trans (Ab HB.out 4);have DV:=Lib.itoa_length_le c.pos hp0 hp1;have hkl:kw.length<=1000000000100:=by rw [<- hkw.out];exact Aj (U3 _) dC
   have zX:Hid (c.id.length<=1000000000100):=Aa (by have:=hS.id;omega);have DV:Hid ((ZK c.pos).length<=1000000000100):=Aa oM;replace hkl:=Aa hkl;rcases (oM:kn=1\/kn=2\/kn=3\/kn=4) with e|e|e|e;·exact FD5
   ·exact FD5
   ·exact FD6
   ·exact FD6
  have z0:(0:Int)<=(kn:Int):=oM;have zk:((kn:Int)).toNat=kn:=oM;have hk5:(kn:Int)<5:=oM;refine Dt (S:=(fun W'=>W'.cell? ⟨w,0,none⟩=some ↑kn/\W'.cell? ⟨w,1,none⟩=some ↑c.id)) kR (SS _ hBd) fun kz=>?_;refine tj 1 ?_;push_cast;refine tj 2 ?_;push_cast;refine tj 5 ?_;push_cast;refine tj 6 ?_;push_cast;refine D7 (rs:=[0,8]) kR sM ?_;refine Aw (o:=_) rfl (fun K hK=>?_) ?_;focus
   go_simp;refine (Qp _).mono ?_;rintro e w2 ⟨rfl,rfl⟩;go_wp2_with fail;refine hK.out _ _ (by refine SS _ ?_;repeat (first|exact hBd|exact Ac _ _|refine He ?_|refine Fa ?_ nag _|refine Fg ?_ nag _)) (fun kz=>?_);clear hK K;push_cast;refine tj 3 ?_;push_cast;refine D7 (rs:=[4,8]) kR sM ?_;refine Aw (o:=_) rfl (fun K hK=>?_) ?_;focus
    go_simp;refine hK.out _ _ (by refine SS _ ?_;repeat (first|exact hBd|exact Ac _ _|refine He ?_|refine Fa ?_ nag _|refine Fg ?_ nag _)) (fun kz=>?_);clear hK K;push_cast;refine D7 (rs:=[7,8]) kR sM ?_;refine Aw (o:=_) rfl (fun K hK=>?_) ?_;focus go_simp;refine hK.out _ _ (by refine SS _ ?_;repeat (first|exact hBd|exact Ac _ _|refine He ?_|refine Fa ?_ nag _|refine Fg ?_ nag _)) (fun kz=>?_);clear hK K;push_cast;refine rk 8 rfl fun K hK=>?_;go_simp;refine hK.out _ _ (by refine SS _ ?_;repeat (first|exact hBd|exact Ac _ _|refine He ?_|refine Fa ?_ nag _|refine Fg ?_ nag _)) (fun kz=>?_);clear hK K;push_cast;refine rk 9 rfl fun K hK=>?_;go_simp;refine hK.out _ _ (by refine SS _ ?_;repeat (first|exact hBd|exact Ac _ _|refine He ?_|refine Fa ?_ nag _|refine Fg ?_ nag _)) (fun kz=>?_);clear hK K;push_cast;refine Dc kR ?_ _
    rotate_left 1;refine Aw (o:=_) rfl (fun K hK=>?_) Dx;focus go_simp;refine hK.out _ _ (by refine SS _ ?_;repeat (first|exact hBd|exact Ac _ _|refine He ?_|refine Fa ?_ nag _|refine Fg ?_ nag _)) (fun kz=>?_);clear hK K;push_cast;refine rk 7 rfl fun K hK=>?_;go_simp;refine hK.out _ _ (by refine SS _ ?_;repeat (first|exact hBd|exact Ac _ _|refine He ?_|refine Fa ?_ nag _|refine Fg ?_ nag _)) (fun kz=>?_);clear hK K;push_cast;refine rk 9 rfl fun K hK=>?_;go_simp;refine hK.out _ _ (by refine SS _ ?_;repeat (first|exact hBd|exact Ac _ _|refine He ?_|refine Fa ?_ nag _|refine Fg ?_ nag _)) (fun kz=>?_);clear hK K;push_cast;refine Dc kR ?_ _
   rotate_left 2;refine Aw (o:=_) rfl (fun K hK=>?_) Dx;focus go_simp;refine hK.out _ _ (by refine SS _ ?_;repeat (first|exact hBd|exact Ac _ _|refine He ?_|refine Fa ?_ nag _|refine Fg ?_ nag _)) (fun kz=>?_);clear hK K;push_cast;refine rk 4 rfl fun K hK=>?_;go_simp;refine hK.out _ _ (by refine SS _ ?_;repeat (first|exact hBd|exact Ac _ _|refine He ?_|refine Fa ?_ nag _|refine Fg ?_ nag _)) (fun kz=>?_);clear hK K;push_cast;refine rk 7 rfl fun K hK=>?_;go_simp;refine hK.out _ _ (by refine SS _ ?_;repeat (first|exact hBd|exact Ac _ _|refine He ?_|refine Fa ?_ nag _|refine Fg ?_ nag _)) (fun kz=>?_);clear hK K;push_cast;refine rk 9 rfl fun K hK=>?_;go_simp;refine hK.out _ _ (by refine SS _ ?_;repeat (first|exact hBd|exact Ac _ _|refine He ?_|refine Fa ?_ nag _|refine Fg ?_ nag _)) (fun kz=>?_);clear hK K;push_cast;refine Dc kR ?_ _
  rotate_left 3;refine Aw (o:=_) rfl (fun K hK=>?_) Dx;focus go_simp;refine hK.out _ _ (by refine SS _ ?_;repeat (first|exact hBd|exact Ac _ _|refine He ?_|refine Fa ?_ nag _|refine Fg ?_ nag _)) (fun kz=>?_);clear hK K;push_cast;refine rk 0 rfl fun K hK=>?_;go_simp;refine (Qp _).mono ?_;rintro e w2 ⟨rfl,rfl⟩;go_wp2_with fail;refine hK.out _ _ (by refine SS _ ?_;repeat (first|exact hBd|exact Ac _ _|refine He ?_|refine Fa ?_ nag _|refine Fg ?_ nag _)) (fun kz=>?_);clear hK K;push_cast;refine tj 3 ?_;push_cast;refine rk 4 rfl fun K hK=>?_;go_simp;refine hK.out _ _ (by refine SS _ ?_;repeat (first|exact hBd|exact Ac _ _|refine He ?_|refine Fa ?_ nag _|refine Fg ?_ nag _)) (fun kz=>?_);clear hK K;push_cast;refine rk 7 rfl fun K hK=>?_;go_simp;refine hK.out _ _ (by refine SS _ ?_;repeat (first|exact hBd|exact Ac _ _|refine He ?_|refine Fa ?_ nag _|refine Fg ?_ nag _)) (fun kz=>?_);clear hK K;push_cast;refine rk 9 rfl fun K hK=>?_;go_simp;refine hK.out _ _ (by refine SS _ ?_;repeat (first|exact hBd|exact Ac _ _|refine He ?_|refine Fa ?_ nag _|refine Fg ?_ nag _)) (fun kz=>?_);clear hK K;push_cast;refine Dc kR ?_ _
  all_goals first |exact TAIL _ _ _ _ _ (Vu w1 (.cells #[.string ⟨#[]⟩,.string ⟨([97,100,100]:Q00).toArray⟩,.string ⟨([114,101,109,111,118,101]:Q00).toArray⟩,.string ⟨([99,111,114,114,101,99,116]:Q00).toArray⟩,.string ⟨([118,111,105,100]:Q00).toArray⟩] 9) (.cells #[↑kw,↑c.id] 9) (.cells #[.slice (some ⟨w1+1,0,none⟩) 2 2] 23) 2 1 dC kw c.id rfl rfl).1 (Vu w1 (.cells #[.string ⟨#[]⟩,.string ⟨([97,100,100]:Q00).toArray⟩,.string ⟨([114,101,109,111,118,101]:Q00).toArray⟩,.string ⟨([99,111,114,114,101,99,116]:Q00).toArray⟩,.string ⟨([118,111,105,100]:Q00).toArray⟩] 9) (.cells #[↑kw,↑c.id] 9) (.cells #[.slice (some ⟨w1+1,0,none⟩) 2 2] 23) 2 1 dC kw c.id rfl rfl).2 |exact TAIL _ _ _ _ _ (Vu w1 (.cells #[.string ⟨#[]⟩,.string ⟨([97,100,100]:Q00).toArray⟩,.string ⟨([114,101,109,111,118,101]:Q00).toArray⟩,.string ⟨([99,111,114,114,101,99,116]:Q00).toArray⟩,.string ⟨([118,111,105,100]:Q00).toArray⟩] 9) (.cells #[.slice (some ⟨w1+1+1,0,none⟩) 2 2] 23) (.cells #[↑kw,↑c.id] 9) 1 2 dC kw c.id rfl rfl).1 (Vu w1 (.cells #[.string ⟨#[]⟩,.string ⟨([97,100,100]:Q00).toArray⟩,.string ⟨([114,101,109,111,118,101]:Q00).toArray⟩,.string ⟨([99,111,114,114,101,99,116]:Q00).toArray⟩,.string ⟨([118,111,105,100]:Q00).toArray⟩] 9) (.cells #[.slice (some ⟨w1+1+1,0,none⟩) 2 2] 23) (.cells #[↑kw,↑c.id] 9) 1 2 dC kw c.id rfl rfl).2 |exact TAIL _ _ _ _ _ (Vu w1 (.cells #[.slice (some ⟨w1+1+1,0,none⟩) 2 2] 23) (.cells #[.string ⟨#[]⟩,.string ⟨([97,100,100]:Q00).toArray⟩,.string ⟨([114,101,109,111,118,101]:Q00).toArray⟩,.string ⟨([99,111,114,114,101,99,116]:Q00).toArray⟩,.string ⟨([118,111,105,100]:Q00).toArray⟩] 9) (.cells #[↑kw,↑c.id] 9) 0 2 dC kw c.id rfl rfl).1 (Vu w1 (.cells #[.slice (some ⟨w1+1+1,0,none⟩) 2 2] 23) (.cells #[.string ⟨#[]⟩,.string ⟨([97,100,100]:Q00).toArray⟩,.string ⟨([114,101,109,111,118,101]:Q00).toArray⟩,.string ⟨([99,111,114,114,101,99,116]:Q00).toArray⟩,.string ⟨([118,111,105,100]:Q00).toArray⟩] 9) (.cells #[↑kw,↑c.id] 9) 0 2 dC kw c.id rfl rfl).2
theorem Sg (ws:List CH.Word) (m n:Nat) (h:∀ x∈ws,dQ m x.texts) (hn:(ws.flatMap CH.Word.texts).length<=n):(CH.words ws).length<=n*(m+1):=by unfold CH.words;refine Aj (Nf [32] m _ fun l hl=>?_) (Ec _ hn);obtain⟨x,hx,hl⟩:=List.mem_flatMap.1 hl;exact h x hx l hl
theorem C6 (n:Int) (h:I64 n):dQ 20000 (CH.Word.int n).texts:=by
 have:=Lib.itoa_length_le n h.1 h.2;show dQ 20000 (if n = -1 then _ else _);split;·exact .one sM
 ·exact .one oM
theorem C0 (s:Q00) (h:s.length<=20000):dQ 20000 (CH.Word.str s).texts:=by
 show dQ 20000 [if s=[] then _ else _];split;·exact .one sM
 ·exact .one h
theorem Ma (n:Int):(CH.Word.int n).texts.length=1:=by show (if n = -1 then _ else _:List Q00).length=1;split <;> rfl
theorem Bwg (n:Q05) (hok:cZ n=true) (hS:Er n.words):(bD n).length<=120100:=by
 have h1:=Nf [32] 20000 n.words hS.2;have h2:n.words.length<=6:=by unfold cZ at hok;simp only [Aq,Bj] at hok;exact hok.2.2
 have h3:n.words.length*(20000+1)<=6*(20000+1):=Ec _ h2;exact FD74
theorem W6 {c:Q07} {t:Q00} (h:bH c=some t) (hS:gI c) (hp:I64 c.pos):t.length<=2000000:=by
 unfold bH at h;split at h
 ·rename_i hok;cases h;have hi:=Lib.itoa_length_le c.pos hp.1 hp.2;have hid:=hS.id;have h1:=Nf [32] 140000 ([CH.kindWord c.kind,c.id]++(if c.kind==1||c.kind==2 then [ZK c.pos] else [])++c.entry.names.map (fun n=>[34]++bD n++[34])) (fun l hl=>by
   rcases Bz.1 hl with hl|hl
   ·rcases Bz.1 hl with hl|hl
    ·simp only [Az,Bo,Ey] at hl;rcases hl with rfl|rfl;·exact Aj (U3 _) dC
     ·omega
    ·split at hl;·cases Ad.1 hl;omega
     ·cases hl
   ·obtain⟨n,hn,rfl⟩:=Ew.1 hl;have:=Bwg n (M7 hok n hn) (hS.entry.names n hn);simp;omega)
  have h2:=G2 hok;have h3:([CH.kindWord c.kind,c.id]++(if c.kind==1||c.kind==2 then [ZK c.pos] else [])++c.entry.names.map (fun n=>[34]++bD n++[34])).length<=11:=by
   rw [Am,Am,Ce];have:(if c.kind==1||c.kind==2 then [ZK c.pos] else []:List Q00).length<=1:=by split <;> simp
   simp only [Ap,Bf];omega
  have h4:=Ec (140000+1) h3;rw [Am,Dq];simp only [Ap,Bf,Ba] at h1;omega
 ·cases h
theorem Uv {B:Nat} {w:ZB} {m:aC} {vk:ZC} {t:Q00} (h:dJ m=some t) (hM:dh B w m vk):t.length<=100000000:=by
 rw [Wk] at h;cases hf:bJ m.aB with
 |none=>rw [hf] at h;cases h
 |some u =>
  rw [hf] at h;dsimp only at h;split at h
  ·cases h;have htl:=Vc hf hM.short;have i1:=Lib.itoa_length_le m.start hM.nums.s.1 hM.nums.s.2;have i2:=Lib.itoa_length_le m.aF hM.nums.u.1 hM.nums.u.2;have i3:=Lib.itoa_length_le m.aQ hM.nums.w.1 hM.nums.w.2;have hid:=hM.id;have hau:=hM.authority;have htg:=hM.target;have hkl:(dw m.kind).length<=6:=by unfold dw;exact FD108
   have BA:dQ 6000000 (Fs m u):=by exact FD42
   have hn:(Fs m u).length<=13:=by
    unfold Fs fP;repeat' split
    all_goals simp
   have h1:=Nf [32] 6000000 _ BA;have h2:=Ec (6000000+[(32:UInt8)].length) hn;rw [Am,Dq];simp only [Ap,Bf,Ba] at h1 h2;omega
  ·cases h
theorem Rq {l:fV} (h:aW l=true):l.measures.length<=12/\l.aO.length<=60/\I64 l.quota/\I64 l.uses/\I64 l.start/\I64 l.aF:=by unfold aW CH.within at h;simp only [Aq,Bj] at h;unfold I64;omega
theorem Rw {h:bC} (hk:dF h=true):h.joint.length<=4/\I64 h.capital/\I64 h.dV/\I64 h.start/\I64 h.stop:=by have hj:=X4 hk;unfold dF CH.within at hk;simp only [Aq,Ej,G8,Ez,Lm,Kt,Bj,Dw,Eh] at hk;unfold I64;obtain⟨⟨⟨_,_⟩,hq⟩,hw⟩:=hk;omega
def Mp (l:fV):List CH.Word:=[.str ([108,105,99,101,110,99,101]:Q00),.str l.id,.int l.quota,.int l.uses,.int l.start,.int l.aF,.int l.measures.length,.strs l.measures,.strs l.aO]
def Kn (h:bC):List CH.Word:=[.str ([104,111,108,100,105,110,103]:Q00),.str h.id,.str h.company,.str h.holder,.str h.aH,.str h.aJ,.int h.capital,.int h.dV,.int h.start,.int h.stop,.strs h.joint]
def Cl (a:Q02):List CH.Word:=[.str (mg a.kind),.str a.id,.int a.n]
theorem U2 {l:fV} (h:aW l=true) (hid:l.id.length<=20000) (hm:Er l.measures) (hp:Er l.aO):(CH.words (Mp l)).length<=2000000:=by
 obtain⟨h1,h2,h3,h4,h5,h6⟩:=Rq h;have hn:((Mp l).flatMap CH.Word.texts).length<=80:=by unfold Mp;simp only [Fe,Ii,Am,Ma,Bf];show 1+(1+(1+(1+(1+(1+(1+(l.measures.length+(l.aO.length+0))))))))<=80;omega
 refine Aj (Sg _ 20000 80 ?_ hn) dC;intro x hx;simp only [Mp,Az,Bo,Ey] at hx;rcases hx with rfl|rfl|rfl|rfl|rfl|rfl|rfl|rfl|rfl;·exact C0 _ sM
 ·exact C0 _ hid
 ·exact C6 _ h3
 ·exact C6 _ h4
 ·exact C6 _ h5
 ·exact C6 _ h6
 ·exact C6 _ (by unfold I64;omega)
 ·exact hm.2
 ·exact hp.2
theorem Rx {h:bC} (hk:dF h=true) (hS:jC h):(CH.words (Kn h)).length<=2000000:=by
 obtain⟨h1,h3,h4,h5,h6⟩:=Rw hk;have hn:((Kn h).flatMap CH.Word.texts).length<=80:=by unfold Kn;simp only [Fe,Ii,Am,Ma,Bf];show 1+(1+(1+(1+(1+(1+(1+(1+(1+(1+(h.joint.length+0))))))))))<=80;omega
 refine Aj (Sg _ 20000 80 ?_ hn) dC;intro x hx;simp only [Kn,Az,Bo,Ey] at hx;rcases hx with rfl|rfl|rfl|rfl|rfl|rfl|rfl|rfl|rfl|rfl|rfl;·exact C0 _ sM
 ·exact C0 _ hS.id
 ·exact C0 _ hS.company
 ·exact C0 _ hS.holder
 ·exact C0 _ hS.aH
 ·exact C0 _ hS.aJ
 ·exact C6 _ h3
 ·exact C6 _ h4
 ·exact C6 _ h5
 ·exact C6 _ h6
 ·exact hS.joint.2
theorem Od {a:Q02} (hid:a.id.length<=20000) (hn:I64 a.n):(CH.words (Cl a)).length<=2000000:=by
 have h3:((Cl a).flatMap CH.Word.texts).length<=80:=by unfold Cl;simp only [Fe,Ii,Am,Ma,Bf];show 1+(1+(1+0))<=80;omega
 refine Aj (Sg _ 20000 80 ?_ h3) dC;intro x hx;simp only [Cl,Az,Bo,Ey] at hx;rcases hx with rfl|rfl|rfl;·refine C0 _ ?_;unfold mg;exact FD108
 ·exact C0 _ hid
 ·exact C6 _ hn
theorem Zs {B:Nat} {w:ZB} {a:Q02} {s:gV} {t:Q00} (h:aY a=some t) (hA:dG B w a s):t.length<=100000100:=by
 unfold aY at h;split at h;·cases h
 split at h;·obtain⟨u,hu,rfl⟩:=F7.1 h;have:=W6 hu hA.small.change hA.small.pos;simp;omega
 split at h;·obtain⟨u,hu,rfl⟩:=F7.1 h;have:=Uv hu hA.meas;simp;omega
 split at h
 ·split at h;·rename_i hok;cases h;have:=U2 hok hA.small.lid hA.small.lm hA.small.lp;unfold Mp at this;rw [Am,Dq];omega
  ·cases h
 split at h
 ·split at h;·rename_i hok;cases h;have:=Rx hok hA.small.hold;unfold Kn at this;rw [Am,Dq];omega
  ·cases h
 split at h;·obtain⟨_,h⟩:=Option.ite_none_right_eq_some.1 h;cases h;have:=Od hA.small.id hA.small.n;unfold Cl at this;rw [Am,Dq];omega
 ·cases h
theorem Yl (m:aC) (vk:ZC) (w:ZB) (hG:Gl w) (hM:dh w w m vk) : ZE prog 46 #[.agg (A6 m vk).toArray] w (Ret w (bI (dJ m))):=by
 obtain⟨R,hR⟩:=nac (bI (dJ m));rw [hR.out];have hRe:Hid (R=bI (match bJ m.aB with
  |none=>none
  |some t=>if dH m&&dM m then some (CH.join [32] (Fs m t)++[59]) else none)):=Aa (hR.out.symm.trans (congrArg bI (Wk m)))
 clear hR;have T:=fun (W:ZB) (hb:Below w w W)=>Yo m.aB vk W (hG.below hb) ((hM.below hb nR).mono hb.size).kids hM.short hM.count hM.depth;obtain⟨ak,ck,rfl,hc1,hc2,hrow⟩:=hM.kids.form;clear hrow;have NM:=fun W=>Knb m ak m.aB.kids.length ck W (Aj hM.id dC) (Aj hM.authority dC) (Aj hM.target dC);have DT:=fun W=>Let m ak m.aB.kids.length ck W;generalize m.aB.kids.length=nk at *;obtain⟨ft,hft⟩:=naa (bJ m.aB);obtain⟨b1,h1⟩:=naa (dH m);obtain⟨b2,h2⟩:=naa (dM m);rw [hft] at T hRe;rw [h1] at NM hRe;rw [h2] at DT hRe;replace T:=Aa T;replace NM:=Aa NM;replace DT:=Aa DT;have hM:=Aa hM;have hB0:=fun o=>(Ac _ w).alloc nR o;have hW:=fun o=>Ag w o;dsimp only [A6,An] at T NM DT ⊢;obtain⟨O,hO⟩:∃ o:Obj,Hid (o=.cells #[↑m.id,↑m.authority,↑m.kind,↑m.target,↑m.aB.op,↑m.aB.name,↑m.aB.cmp,↑m.aB.n,.slice ak nk ck,↑m.start,↑m.aF,↑m.aQ] 60):=⟨_,Aa rfl⟩
 have CB:∀ (W:ZB),W.heap[w.heap.size]?=some (.cells #[↑m.id,↑m.authority,↑m.kind,↑m.target,↑m.aB.op,↑m.aB.name,↑m.aB.cmp,↑m.aB.n,.slice ak nk ck,↑m.start,↑m.aF,↑m.aQ] 60) ->
   ∀ i,W.cell? ⟨w,i,none⟩=#[↑m.id,↑m.authority,↑m.kind,↑m.target,↑m.aB.op,↑m.aB.name,↑m.aB.cmp,↑m.aB.n,.slice ak nk ck,↑m.start,↑m.aF,↑m.aQ][i]?:=fun W h i=>Ab h i
 replace CB:=Aa CB;cases ft with
 |none =>obtain rfl:=hRe.out;dsimp only [bI] at T ⊢;clear NM DT;go_in;go_wp2_with fail;refine CmZ (T.out _ (hB0 _)) fun w1 hb1=>?_;clear T;go_wp2;go_ret2;exact⟨rfl,(hB0 _).trans (hb1.mono sM)⟩
 |some t =>
  dsimp only [bI] at T;go_in;go_wp2_with fail;refine CmZ (T.out _ (hB0 _)) fun w1 hb1=>?_;have hB1:Below w w w1:=(hB0 _).trans (hb1.mono sM);have hk1:=(hb1.block w sM).trans (hW _);clear T hb1 hB0 hW;have c1:=CB.out w1 hk1;replace hk1:=Aa hk1;go_wp2_with fail;refine CmZ (NM.out _) fun w2 hb2=>?_;have hB2:Below w w w2:=hB1.trans (hb2.mono hB1.size);have hk2:=(hb2.block w (aZ hk1.out)).trans hk1.out;clear NM c1 hb2 hB1 hk1;have c2:=CB.out w2 hk2;replace hk2:=Aa hk2;cases b1 with
  |false =>obtain rfl:=hRe.out;clear DT;go_wp2;go_ret2;exact⟨rfl,hB2⟩
  |true =>
   go_wp2_with fail;refine CmZ (DT.out _) fun w3 hb3=>?_;have hB3:Below w w w3:=hB2.trans (hb3.mono hB2.size);have hk3:=(hb3.block w (aZ hk2.out)).trans hk2.out;have hl3:w.heap.size<w3.heap.size:=(aZ hk3)
   clear DT c2 hb3 hB2 hk2;have c3:=CB.out w3 hk3;replace hk3:=Aa hk3;cases b2 with
   |false =>obtain rfl:=hRe.out;go_wp2;go_ret2;exact⟨rfl,hB3⟩
   |true =>
    have hkd:m.kind=1\/m.kind=2\/m.kind=3:=by
     unfold dH at h1;dsimp only at h1;by_cases q1:m.kind=1;·exact .inl q1
     by_cases q2:m.kind=2;·exact .inr (.inl q2)
     by_cases q3:m.kind=3;·exact .inr (.inr q3)
     rw [Ai q1,Ai q2,Ai q3] at h1;cases h1
    have hmm:=@Hz prog;obtain⟨kw,hkw⟩:=nac (dw m.kind);obtain⟨o1,o2,o3,u1,u2,u3,um⟩:=Tb (w3.alloc (.cells #[.slice none 0 0] 23)) 1 2 3 ([102,111,114,98,105,100]:Q00) ([101,120,101,109,112,116]:Q00) ([98,108,111,99,107]:Q00) rfl rfl rfl;have ul:=Dg Wo underlying113 (.string ⟨#[]⟩) Yv um m.kind;have ule:((Bp m.kind [((1:Int),ay ([102,111,114,98,105,100]:Q00)),(2,ay ([101,120,101,109,112,116]:Q00)),(3,ay ([98,108,111,99,107]:Q00))] 0).map (·.2)).getD (.string ⟨#[]⟩)=↑kw:=by rw [<- hkw.out];rcases hkd with e|e|e <;> rw [e] <;> rfl
    rw [ule] at ul;rw [Df] at u1 u2 u3 ul um;have hp:∀ k,k≠w3.heap.size+1->(((((w3.alloc (.cells #[.slice none 0 0] 23)).alloc (.map #[] 0)).putObj (w3.heap.size+1) o1).putObj (w3.heap.size+1) o2).putObj (w3.heap.size+1) o3).heap[k]?=((w3.alloc (.cells #[.slice none 0 0] 23)).alloc (.map #[] 0)).heap[k]?:=fun k hk=>by rw [World.putObj_heap_other hk,World.putObj_heap_other hk,World.putObj_heap_other hk]
    have hBW:Below w3 w3 (((((w3.alloc (.cells #[.slice none 0 0] 23)).alloc (.map #[] 0)).putObj (w3.heap.size+1) o1).putObj (w3.heap.size+1) o2).putObj (w3.heap.size+1) o3):=Bn (Bn (Bn (((Ac _ w3).alloc nR _).alloc sM _) oM _) oM _) oM _;have hwA:Cw w3 w3 (((((w3.alloc (.cells #[.slice none 0 0] 23)).alloc (.map #[] 0)).putObj (w3.heap.size+1) o1).putObj (w3.heap.size+1) o2).putObj (w3.heap.size+1) o3) []:=Fl8 (by rw [hp _ oM];simp only [World.alloc,Dh,D9];rw [Ai oM,Ah trivial]);have hk4:=(hBW.block w hl3).trans hk3.out;have c4:=CB.out _ hk4;have hXs:(((((w3.alloc (.cells #[.slice none 0 0] 23)).alloc (.map #[] 0)).putObj (w3.heap.size+1) o1).putObj (w3.heap.size+1) o2).putObj (w3.heap.size+1) o3).heap.size=w3.heap.size+1+1:=sM;clear hp um hkd c3;replace hwA:=Aa hwA;replace hBW:=Aa hBW;replace hk4:=Aa hk4;replace hXs:=Aa hXs;go_wp2_with fail;rw [<- hXs.out];clear u1 u2 u3 ul c4 hmm hXs;generalize (((((w3.alloc (.cells #[.slice none 0 0] 23)).alloc (.map #[] 0)).putObj (w3.heap.size+1) o1).putObj (w3.heap.size+1) o2).putObj (w3.heap.size+1) o3)=X at *;have BX:∀ (W W':ZB),Below w3 w3 W->Below w3 W W'->Below w3 w3 W'/\w3.heap.size<=W'.heap.size/\∀ i,W'.cell? ⟨w,i,none⟩=#[↑m.id,↑m.authority,↑m.kind,↑m.target,↑m.aB.op,↑m.aB.name,↑m.aB.cmp,↑m.aB.n,.slice ak nk ck,↑m.start,↑m.aF,↑m.aQ][i]?:=fun W W' h1 h2=>by have h3:=h1.trans h2;exact⟨h3,h3.size,CB.out W' ((h3.block w hl3).trans hk3.out)⟩
    replace BX:=Aa BX;refine (Rc _ [kw] [] w3.heap.size w3 X hwA.out sM 1 rfl _ rfl).mono ?_;rintro e w4 ⟨rfl,hA4,hb4,_⟩;obtain⟨hB4,hs4,c4⟩:=BX.out _ _ hBW.out ((((Ac _ X).alloc hBW.out.size _)).trans hb4);obtain⟨L4,hL4⟩:=nac (fP true [] [kw]);rw [hL4.out] at hA4;replace hA4:=Aa hA4;replace hB4:=Aa hB4;have hn4:L4.length<=1:=by rw [<- hL4.out];simp [fP]
    clear hb4 hwA hBW hk4;go_wp2_with fail;refine (Rc _ [m.target] L4 w3 w3 w4 hA4.out naf 1 rfl _ rfl).mono ?_;rintro e w5 ⟨rfl,hA5,hb5,_⟩;obtain⟨hB5,hs5,c5⟩:=BX.out _ _ hB4.out ((((Ac _ w4).alloc hB4.out.size _)).trans hb5);obtain⟨L5,hL5⟩:=nac (fP (!List.isEmpty m.target) L4 [m.target]);rw [hL5.out] at hA5;replace hA5:=Aa hA5;replace hB5:=Aa hB5;have hn5:L5.length<=2:=by rw [<- hL5.out];exact Aj (S5 _ _ _) (by simp only [Ap,Bf];omega)
    clear hb5 c4 hA4;go_wp2_with fail;refine (Rc _ [m.id,([111,102]:Q00),m.authority] L5 w3 w3 w5 hA5.out naf 3 rfl _ rfl).mono ?_;rintro e w6 ⟨rfl,hA6,hb6,_⟩;obtain⟨hB6,hs6,c6⟩:=BX.out _ _ hB5.out ((((Ac _ w5).alloc hB5.out.size _)).trans hb6);obtain⟨L6,hL6⟩:=nac (fP true L5 [m.id,([111,102]:Q00),m.authority]);rw [hL6.out] at hA6;replace hA6:=Aa hA6;replace hB6:=Aa hB6;have hn6:L6.length<=5:=by rw [<- hL6.out];exact Aj (S5 _ _ _) (by simp only [Ap,Bf];omega)
    clear hb6 c5 hA5;go_wp2_with fail;refine (Rc _ [([105,102]:Q00),t] L6 w3 w3 w6 hA6.out naf 2 rfl _ rfl).mono ?_;rintro e w7 ⟨rfl,hA7,hb7,_⟩;obtain⟨hB7,hs7,c7⟩:=BX.out _ _ hB6.out ((((Ac _ w6).alloc hB6.out.size _)).trans hb7);obtain⟨L7,hL7⟩:=nac (fP (m.aB.op != 1) L6 [([105,102]:Q00),t]);rw [hL7.out] at hA7;replace hA7:=Aa hA7;replace hB7:=Aa hB7;have hn7:L7.length<=7:=by rw [<- hL7.out];exact Aj (S5 _ _ _) (by simp only [Ap,Bf];omega)
    clear hb7 c6 hA6;have hGW:∀ W,Below w3 w3 W->Gl W:=fun W hb=>hG.below (hB3.trans (hb.mono hB3.size));have oC:=hM.out.nums;have I1:=Aa fun (W:ZB) (hg:Gl W)=>Hd m.start W oC.s.1 oC.s.2 hg;have I2:=Aa fun (W:ZB) (hg:Gl W)=>Hd m.aF W oC.u.1 oC.u.2 hg;have I3:=Aa fun (W:ZB) (hg:Gl W)=>Hd m.aQ W oC.w.1 oC.w.2 hg;clear oC;replace hGW:=Aa hGW;go_wp2_with fail;refine CmZ (I1.out _ (hGW.out _ hB7.out)) fun w7b ER=>?_;clear I1;go_wp2_with fail;refine (Rc _ [([102,114,111,109]:Q00),ZK m.start] L7 w3 w3 w7b (hA7.out.below ER) naf 2 rfl _ rfl).mono ?_;rintro e w8 ⟨rfl,hA8,hb8,_⟩;obtain⟨hB8,hs8,c8⟩:=BX.out _ _ (hB7.out.trans (ER.mono hB7.out.size)) ((((Ac _ w7b).alloc (hB7.out.trans (ER.mono hB7.out.size)).size _)).trans hb8);obtain⟨L8,hL8⟩:=nac (fP true L7 [([102,114,111,109]:Q00),ZK m.start]);rw [hL8.out] at hA8;replace hA8:=Aa hA8;replace hB8:=Aa hB8;have hn8:L8.length<=9:=by rw [<- hL8.out];exact Aj (S5 _ _ _) (by simp only [Ap,Bf];omega)
    clear hb8 c7 hA7;have SS9:∀ W',Below w3 w8 W'->W'.cell? ⟨w,10,none⟩=some ↑m.aF:=fun W' hb=>(hb.cell (p:=⟨w,10,none⟩) hl3).trans (c8 10);have hD9:Below w3 w8 w8.drew:=(Ac _ w8).drew;have KQ:=hGW.out _ (hB8.out.trans hD9);have BD:=hA8.out.below (Ac w8 w8).drew;replace SS9:=Aa SS9;replace BD:=Aa BD;go_wp2_with fail;go_region_held3 (fun W'=>W'.cell? ⟨w,10,none⟩=some ↑m.aF) ((refine SS9.out _ ?_;first|exact hU9|exact hT9.alloc hV9 _|exact hT9|exact hD9)) (first |(go_at_call 58;refine CmZ (I2.out _ KQ) fun wI9 EO=>?_;have hT9:Below w3 w8 wI9:=hD9.trans (EO.mono (by simp;exact hs8));have hV9:w3.heap.size<=wI9.heap.size:=by (have:=hT9.size;omega)) |(go_at_call 109;refine (Rc _ [([117,110,116,105,108]:Q00),ZK m.aF] L8 w3 w3 wI9 (BD.out.below EO) naf 2 rfl _ rfl).mono ?_;rintro e w9 ⟨rfl,hA9,hb9,_⟩;have hU9:Below w3 w8 w9:=(hT9.alloc hV9 _).trans hb9))
    obtain⟨hB9,hs9,c9⟩:=BX.out _ _ hB8.out hU9;obtain⟨L9,hL9⟩:=nac (fP (ZH (0<=m.aF)) L8 [([117,110,116,105,108]:Q00),ZK m.aF]);rw [hL9.out] at hA9;replace hA9:=Aa hA9;replace hB9:=Aa hB9;have hn9:L9.length<=11:=by rw [<- hL9.out];exact Aj (S5 _ _ _) (by simp only [Ap,Bf];omega)
    clear hb9 c8 hA8 hU9 hT9 EO BD KQ I2;have FZ:∀ W',Below w3 w9 W'->W'.cell? ⟨w,11,none⟩=some ↑m.aQ:=fun W' hb=>(hb.cell (p:=⟨w,11,none⟩) hl3).trans (c9 11);have FC:Below w3 w9 w9.drew:=(Ac _ w9).drew;have CG:=hGW.out _ (hB9.out.trans FC);have xH:=hA9.out.below (Ac w9 w9).drew;replace FZ:=Aa FZ;replace xH:=Aa xH;go_wp2_with fail;go_region_held3 (fun W'=>W'.cell? ⟨w,11,none⟩=some ↑m.aQ) ((refine FZ.out _ ?_;first|exact EX|exact wz.alloc KE _|exact wz|exact FC)) (first |(go_at_call 58;refine CmZ (I3.out _ CG) fun CV zo=>?_;have wz:Below w3 w9 CV:=FC.trans (zo.mono (by simp;exact hs9));have KE:w3.heap.size<=CV.heap.size:=by (have:=wz.size;omega)) |(go_at_call 109;refine (Rc _ [([119,105,110,100]:Q00),ZK m.aQ] L9 w3 w3 CV (xH.out.below zo) naf 2 rfl _ rfl).mono ?_;rintro e w10 ⟨rfl,hA10,wo,_⟩;have EX:Below w3 w9 w10:=(wz.alloc KE _).trans wo))
    obtain⟨FK,hs10,c10⟩:=BX.out _ _ hB9.out EX;obtain⟨L10,zC⟩:=nac (fP (ZH (0<m.aQ)) L9 [([119,105,110,100]:Q00),ZK m.aQ]);rw [zC.out] at hA10;replace hA10:=Aa hA10;replace FK:=Aa FK;have OV:L10.length<=13:=by rw [<- zC.out];exact Aj (S5 _ _ _) (by simp only [Ap,Bf];omega)
    clear wo c9 hA9 EX wz zo xH CG I3;obtain⟨v,hv,hO,_,_⟩:=hA10.out;obtain⟨av,cv,rfl,_,_,_⟩:=hO.form;have c11:w10.cell? ⟨w3,0,none⟩=some (.slice av L10.length cv):=Ab hv 0;have hL:L10=Fs m t:=by have te:=I0 m.target;rw [<- zC.out,<- hL9.out,<- hL8.out,<- hL7.out,<- hL6.out,<- hL5.out,<- hL4.out,<- hkw.out];unfold Fs;rw [te,Bool.not_not]
    have htl:=Vc hft hM.out.short;have BA:dQ 6000000 L10:=by
     rw [hL];have i1:=Lib.itoa_length_le m.start hM.out.nums.s.1 hM.out.nums.s.2;have i2:=Lib.itoa_length_le m.aF hM.out.nums.u.1 hM.out.nums.u.2;have i3:=Lib.itoa_length_le m.aQ hM.out.nums.w.1 hM.out.nums.w.2;have hid:=hM.out.id;have hau:=hM.out.authority;have htg:=hM.out.target;have hkl:(dw m.kind).length<=6:=by (unfold dw;repeat' split);all_goals decide
     exact FD42
    have hjl:(CH.join [32] L10).length<=100000000:=by have:=Nf [32] 6000000 L10 BA;have h13:L10.length*(6000000+[(32:UInt8)].length)<=13*(6000000+1):=Ec _ OV;omega
    have J:=Aa (Mq _ L10 [32] w10 hO.strs oM oM);have hRf:Hid (R=bI (some (CH.join [32] L10++[59]))):=Aa (by rw [hRe.out,hL];rfl);generalize CH.join [32] L10=JJ at *;generalize L10.length=LL at *;have l1:¬ (9223372036854775807<JJ.length+1):=oM;clear hO hv BA hL hRe hA10 c10;go_wp2_with fail;refine CmZ J.out fun w11 QK=>?_;clear J c11;go_wp2;go_ret2;have CJ:Below w w w10:=hB3.trans (FK.out.mono hB3.size);refine⟨?_,CJ.trans (QK.mono CJ.size)⟩;rw [hRf.out];unfold bI;dsimp only;rw [<- A5];rfl
theorem Ipc:rM 57 9223372036854775807 (fun l=>!aG l):=by refine⟨enters_of func57 kR rfl,fun l w hG hl=>?_⟩;exact FD49
theorem T5 (v:ZC) (ls:List Q00) (most:Nat) (w:ZB) (hG:Gl w) (hv:Strs w w v ls) (hl:∀ l∈ls,l.length<=9223372036854775807) : ZE prog 21 #[v,↑most] w (Ret w (.bool (dN ls most))):=by
 have C:=Aa (Wz _ _ _ Ipc v ls w hG hv hl);obtain⟨r,hr⟩:=nac (dN ls most);rw [hr.out];obtain⟨a,cap,rfl,_,_⟩:=hv.form;clear hv hl;obtain⟨b,hb⟩:=nac (ls.any fun s=>!aG s);rw [hb.out] at C;by_cases h:ls.length<=most
 ·have hr1:r=!b:=by rw [<- hr.out,<- hb.out];unfold dN;rw [decide_eq_true h];rfl
  subst hr1;have d:=nai ((ls.length:Int)<=(most:Int));generalize ls.length=N at *;go_in;go_wp2_with fail;refine CmZ C.out fun w1 hb1=>?_;clear C;go_wp2;go_ret;exact⟨rfl,hb1⟩
 ·have hr1:r=false:=by rw [<- hr.out];unfold dN;rw [decide_eq_false h];rfl
  subst hr1;have d:=naj ((ls.length:Int)<=(most:Int));generalize ls.length=N at *;exact FD64
end
end Go.Proofs.Y
namespace CH
section
theorem Abg (s:Q00):∀ (f i:Nat) (out ts:List Tok),jm s f i out=.ok ts->∀ t∈ts,t∈out\/∃ i j,i<s.length/\next s i=.ok (t,j)
 |0,i,out,ts,h,t,ht=>by
  cases h
  exact .inl ht
 |f+1,i,out,ts,h,t,ht=>by
  unfold jm at h
  split at h
  ·rename_i hi
   split at h
   ·cases h
   ·rename_i u j hu
    split at h
    ·cases h
    ·rcases Abg s f _ _ ts h t ht with h1|h1
     ·rcases Bz.1 h1 with h2|h2
      ·exact .inl h2
      ·rw [Ad] at h2
       subst h2
       exact .inr ⟨i,j,hi,hu⟩
     ·exact .inr h1
  ·cases h
   exact .inl ht
theorem Acf {s:Q00} {i j:Nat} {t:Tok} (h:next s i=.ok (t,j)) (hk:t.kind=1):bQ s i=3/\bK s [3,4,5] i - i<=24/\t.text=(s.drop i).take (bK s [3,4,5] i - i):=by
 unfold next at h
 split at h
 ·rename_i e;split at h;·cases h
  ·cases h;exact⟨e,oM,rfl⟩
 all_goals
  exfalso;repeat' split at h
  all_goals first |(cases h;done) |(cases h;simp at hk)
theorem Ac8:∀ n:Fin 256,[3,4,5].contains (cls (UInt8.ofNat n.val))=true->tailB (UInt8.ofNat n.val)=true:=nah
theorem Abz:∀ n:Fin 256,cls (UInt8.ofNat n.val)=3->letterB (UInt8.ofNat n.val)=true:=nah
theorem Abi:∀ n:Fin 256,jc (UInt8.ofNat n.val)=letterB (UInt8.ofNat n.val):=nah
theorem Aae (c:UInt8):jc c=letterB c:=by have:=Abi ⟨c.toNat,Fz c⟩;simpa only [UInt8.ofNat_toNat] using this
theorem Aag (s:Q00):fU s=isName s:=by
 have ht:nM=tailB:=by funext c;unfold nM tailB;rw [Aae]
 unfold fU isName;cases s with
 |nil=>rfl
 |cons c l=>simp only [Aae,ht]
theorem Ph {s:Q00} (h:ident s=true):isName s=true:=by
 unfold ident at h;rw [Aq] at h;obtain⟨_,h⟩:=h;split at h
 ·rename_i t hl;rw [Aq,Eh,Eh] at h;obtain⟨hk,ht⟩:=h;rcases Abg s _ _ [] _ hl t sM with h1|⟨i,j,hi,hn⟩;·cases h1
  ·obtain⟨h3,h24,hx⟩:=Acf hn hk;rw [ht] at hx;have hlen:=congrArg List.length hx;rw [C9,Cc] at hlen;have hi0:i=0:=oM;subst hi0;have hm:=uy s [3,4,5] 0;rw [Gv] at hx hm;rw [<- hx] at hm;cases hs:s with
   |nil=>rw [hs] at hi;simp at hi
   |cons c l =>
    rw [hs] at hm h3 hlen h24;have hc:letterB c=true:=by have:=Abz ⟨c.toNat,Fz c⟩;simp only [UInt8.ofNat_toNat] at this;exact this h3
    have hall:l.all tailB=true:=Dj.2 fun x hx=>by have:=Ac8 ⟨x.toNat,Fz x⟩;simp only [UInt8.ofNat_toNat] at this;exact this (hm x (Bv _ hx))
    show (letterB c&&l.all tailB&&ZH ((c::l).length<=24))=true;rw [hc,hall];simp only [a_Bool_true_and,Bj];omega
 ·cases h
theorem Acp:∀ n:Fin 256,tailB (UInt8.ofNat n.val)=true->[3,4,5].contains (cls (UInt8.ofNat n.val))=true:=nah
theorem Abv:∀ n:Fin 256,letterB (UInt8.ofNat n.val)=true->cls (UInt8.ofNat n.val)=3:=nah
end
end CH
namespace CH
def qB (a b:Int):Int:=if a<b then -1 else if b<a then 1 else 0
end CH
namespace Go.Proofs.Y
open Go.RowKit Go.Lib Go.Shelf Go.Sort CH
structure VP where
 v:Q01
 a1:Option Addr
 n1:Nat
 c1:Nat
 a2:Option Addr
 n2:Nat
 c2:Nat
 a3:Option Addr
 n3:Nat
 c3:Nat
def VP.s (x:VP):dA:=⟨.slice x.a1 x.n1 x.c1,.slice x.a2 x.n2 x.c2,.slice x.a3 x.n3 x.c3⟩
instance : Inhabited VP := ⟨⟨default, none, 0, 0, none, 0, 0, none, 0, 0⟩⟩
theorem Xc (a:Int) (w:ZB):ZE Tryz.prog 163 #[↑a] w (fun e w'=>e=.returned (.bool false)/\w=w'):=by have q:(a != a)=false:=sM;exact FD32
theorem Yb (a b:Int) (w:ZB):ZE Tryz.prog 100 #[↑a,↑b] w (fun e w'=>e=.returned (.int .i64 (qB a b))/\w=w'):=by
 obtain⟨r,hr⟩:=naa (qB a b);rw [hr];unfold qB at hr;rcases (oM:a<b\/(¬ a<b/\b<a)\/(¬ a<b/\¬ b<a)) with h|⟨h,h'⟩|⟨h,h'⟩;·rw [Ah h] at hr;subst hr;have q:ZH (a<b)=true:=Di h;exact FD48
 ·rw [Ai h,Ah h'] at hr;subst hr;have q:ZH (a<b)=false:=Cj h;have q':ZH (b<a)=true:=Di h';exact FD48
 ·rw [Ai h,Ai h'] at hr;subst hr;have q:ZH (a<b)=false:=Cj h;have q':ZH (b<a)=false:=Cj h';exact FD48
end Go.Proofs.Y
namespace Go.Proofs.Y
section
open Go.Lib Go.Proofs.Tryz Go.RowKit Go.Shelf Go.Sort CH
section
open CH
variable {α β:Type} [Inhabited α] [Inhabited β] (f:α->β) (lt:β->β->Bool) (hd:f default=default)
end
end
section
open Go.Lib Go.Proofs.Tryz Go.RowKit Go.Shelf Go.Sort CH
section
open CH
variable {F:Fence} {n:Nat} {P:Program}
theorem Get {α:Type} {g:Operand} {ps:Array Tmp} {assign body:Code} {Q:Exit->Act->ZB->Prop} {a:Act} {w:ZB}
  (hro:F.round=none) (h1:1<=n) {gf:Nat} {lb:Array ZC} (hg:a.eval g=.func (.func gf) #[] lb) (hFg:F.fn gf) (eg:∀ args w,(callFunc gf args).run P w=.ok (.enter gf args) w)
  {encs:α->Array ZC} {S Sp:List α->Prop} {N:Nat} {w0:ZB} (hseq:SeqStopsK F (n - 1) P gf lb encs KeepsWalks S Sp N w0)
  (hb0:Below w0.heap.size w0 w) (hps:∀ x,(encs x).size=ps.size)
  (I:List α->ZB->Prop) (hI:OwnFrom w.heap.size I) (h0:I [] w) (a₁:α->Nat->Act) (asg:α->ZB->ZB) (Bx:α->Nat->ZB->Prop)
  (hassign:∀ (l:Nat) (x:α) (W:ZB) (K:Act->ZB->Prop),K (a₁ x W.heap.size) (asg x W) ->
   assign.wpIn (F.inRound l) (n - 1 - 1) P (Exit.then K (fun _ _ _=>False)) { tmps:=(ps.zip (encs x)).foldl (fun t (p,v)=>t.setIfInBounds p v) a.tmps,defers:=[] } W)
  (QL:∀ x W,Below W.heap.size W (asg x W)) (hBx:∀ x W,Bx x W.heap.size (asg x W))
  (hBp:∀ x b V l (o o':Obj),Bx x b V->V.heap[l]?=some o->o.isCells=false->Bx x b (V.putObj l o'))
  (hbody:∀ (l:Nat) (pre:List α) (x:α) (b:Nat) (W:ZB),I pre W->Bx x b W->pre.length<N->body.wpIn (F.inRound l) (n - 1 - 1) P (ownPostK KeepsWalks I (fun _ _ _=>False) (pre++[x]) W) (a₁ x b) W)
  (hdone:∀ (D:Nat) (xs:List α) (W:ZB),w.heap.size<=D->S xs->I xs W->W.heap[D]?=some (.deferred (some []))->Q .normal { a with defers:={ target:=.collected D,args:=#[] }::a.defers } W) :
  (Code.rangeFunc g ps assign body).wpIn F n P Q a w:=by
 refine wpIn_rangeFunc ?_
 intro fn hfn
 rw [hro]
 obtain⟨rec,hrec⟩:∃ rec:LoopState->Option Code->Loop,rec=fun st pe=>{ state:=st,pending:=pe,fn,tmps:=a.tmps,params:=ps,assign,body,defers:=w.heap.size }:=⟨_,rfl⟩
 obtain⟨V,hV⟩:=naa ((w.alloc (.deferred (some []))).alloc (.loop (rec .ready none)))
 have bV:Below w.heap.size w V:=by rw [<- hV];exact ((Ac _ w).alloc nR _).alloc sM _
 have zV:V.heap.size=w.heap.size+1+1:=by rw [<- hV];simp
 have yN:V.heap[w.heap.size+1]?=some (.loop (rec .ready none)):=by
  exact FD101
 have wJ:V.heap[w.heap.size]?=some (.deferred (some [])):=by
  rw [<- hV];exact (Ij _ _ _ sM).trans (Ag w _)
 have IV:I [] V:=by rw [<- hV];exact hI.alloc _ (hI.alloc _ h0)
 refine⟨w.heap.size+1,[{ target:=.collected w.heap.size,args:=#[] }],V,{ target:=.fn (.func gf) lb,args:=#[.func (.yield (w.heap.size+1)) #[] #[]] },V,gf,
  #[.func (.yield (w.heap.size+1)) #[] #[]]++lb,V,?_,?_,?_,?_,fun _=>h1,?_⟩
 ·rw [<- hV,hrec];exact run_enterLoop_outer _ _ _ _ _
 ·simp only [resolve,hg]
  simp [go_sem]
 ·intro f' hf';simp [Target.leads] at hf';subst hf';exact hFg
 ·simp [invoke,go_sem,eg]
 have far:∀ {A:ZB} {row:Option Nat},(∀ r,row=some r->V.heap.size<=r/\∃ o:Obj,A.heap[r]?=some o/\o.isWalk=true)->∀ r,row=some r->w.heap.size<=r/\∃ o:Obj,A.heap[r]?=some o/\o.isCells=false :=
  fun hr r e=>by obtain⟨h1,o,h2,h3⟩:=hr r e;exact⟨oM,o,h2,Obj.not_cells_of_walk h3⟩
 refine (hseq (w.heap.size+1)
  (fun pre A=>I pre A/\A.heap[w.heap.size+1]?=some (.loop (rec .ready none))/\A.heap[w.heap.size]?=some (.deferred (some [])))
  (fun _ _=>False)
  V (hb0.trans (bV.mono hb0.size))
  (fun s A B row hs hg' hr=>⟨hI s A B row hs.1 hg' (far hr),(grownBy_keeps hg' (fun r e=>(hr r e).2) hs.2.1 rfl).trans hs.2.1,(grownBy_keeps hg' (fun r e=>(hr r e).2) hs.2.2 rfl).trans hs.2.2⟩)
  (fun _ _ _ _ hs _ _=>hs)
  ?_ ⟨IV,yN,wJ⟩).mono ?_
 ·rintro pre x A0 ⟨hi0,hl0,hk0⟩ hlen
  have hlt0:w.heap.size+1<A0.heap.size:=(aZ hl0)
  have hy:=run_yield (P:=P) (args:=encs x) hl0 (by rw [hrec];exact hps x)
  rw [hrec] at hy
  obtain⟨A,hA⟩:=naa (asg x A0)
  have bA:Below A0.heap.size A0 A:=by rw [<- hA];exact QL x A0
  have xA:Bx x A0.heap.size A:=by rw [<- hA];exact hBx x A0
  have hi:I pre A:=hI pre A0 A none hi0 (Ry bA) (fun r e=>by cases e)
  have hl:A.heap[w.heap.size+1]?=some (.loop (rec .ready none)):=(bA.block _ hlt0).trans hl0
  have hk:A.heap[w.heap.size]?=some (.deferred (some [])):=(bA.block _ oM).trans hk0
  have hlt:w.heap.size+1<A.heap.size:=(aZ hl)
  refine⟨fn,_,assign,body,hy,roundIn_of_wpIn hfn (hassign _ x A0 _ ?_)⟩
  rw [hA]
  refine⟨_,run_beginRound hl (by rw [hrec]),?_⟩
  obtain⟨busy,jZ⟩:=nad (.loop { rec .ready none with state:=.busy }:Obj)
  rw [<- jZ]
  have l2:(A.putObj (w.heap.size+1) busy).heap[w.heap.size+1]?=some busy:=World.putObj_heap_same hlt
  have k2:(A.putObj (w.heap.size+1) busy).heap[w.heap.size]?=some (.deferred (some [])):=(World.putObj_heap_other oM).trans hk
  have b2:KeepsWalks A0 (A.putObj (w.heap.size+1) busy):=(S3 bA).trans (KeepsWalks.putObj _ hl rfl)
  have i2:I pre (A.putObj (w.heap.size+1) busy):=hI.putObj _ hi oM hl rfl
  have x2:Bx x A0.heap.size (A.putObj (w.heap.size+1) busy):=hBp _ _ _ _ _ _ xA hl rfl
  have ends:∀ (C:ZB),KeepsOthers (A.putObj (w.heap.size+1) busy) C ->
    (Instr.endRound (w.heap.size+1) none).run P C=.ok (.bool true) (C.putObj (w.heap.size+1) (.loop (rec .ready none))) /\
    C.heap[w.heap.size+1]?=some busy /\
    (C.putObj (w.heap.size+1) (.loop (rec .ready none))).heap[w.heap.size+1]?=some (.loop (rec .ready none)) /\
    (C.putObj (w.heap.size+1) (.loop (rec .ready none))).heap[w.heap.size]?=some (.deferred (some [])):=fun C hC=>by
   have l3:=hC.same _ _ l2 (by rw [jZ];rfl)
   have l3':=l3
   rw [jZ] at l3'
   have:=run_endRound (P:=P) none l3'
   rw [hrec] at this ⊢
   exact⟨this,l3,World.putObj_heap_same (aZ l3),(World.putObj_heap_other oM).trans (hC.same _ _ k2 rfl)⟩
  refine wpIn_mono (hbody _ pre x _ _ i2 x2 hlen) ?_
  rintro e a3 C hC
  cases e with
  |normal =>
   obtain⟨hk3,hkp3,hi3⟩:=hC
   obtain⟨hr,hl3,hl4,hk4⟩:=ends C hk3
   exact⟨_,_,hr,.inl ⟨rfl,⟨hI.putObj _ hi3 oM hl3 (by rw [jZ];rfl),hl4,hk4⟩,(b2.trans hkp3).trans (KeepsWalks.putObj _ hl3 (by rw [jZ];rfl))⟩⟩
  |ret=>exact hC.2.elim
  |exit id=>exact hC.2.elim
  |goto t=>exact hC.2.elim
  |panic ch=>exact hC.elim
  |outgrown=>exact hC.elim
 ·rintro e B ⟨⟨v,rfl⟩,(⟨xs,hS,hi,hl,hk⟩|⟨pre,hSp,hf⟩)⟩
  ·exact FD58
  ·exact hf.elim
end
end
end Go.Proofs.Y
