/-
  ChainMakes: the proof, part 12 of 34.
-/
import Derived.Test.YtdgmgjeoikcgbaaGreatDoorP07
import Derived.Test.YtdgmgjeoikcgbaaGreatDoorP08
import Derived.Test.YtdgmgjeoikcgbaaGreatDoorP09
import Derived.Shelf.SlSortCmp.InsertionK
set_option linter.unusedSimpArgs false
set_option linter.unusedVariables false
set_option maxHeartbeats 40000000
set_option maxRecDepth 100000
open Go renaming World -> ZB, Value -> ZC, Calls -> ZE
open Go.RowKit renaming intOf -> ZG
open Decidable renaming decide -> ZH
open Go.Lib renaming itoa -> ZK
namespace Go.Proofs.YtdgmgjeoikcgbaaGreatDoor
section
open Go.Lib Go.Proofs.Tryz Go.RowKit Go.Shelf Go.Sort CH
theorem Q6 (op:Int) (x:CH.Formula) (h:(x.op==6||x.op==5&&op != 6)=true):A7 op x=[40]++x.text++[41]:=by unfold A7;rw [if_pos h]
theorem S2 (op:Int) (x:CH.Formula) (h:(x.op==6||x.op==5&&op != 6)=false):A7 op x=x.text:=by unfold A7;rw [if_neg (by rw [h];simp)]
def Rz (f:CH.Formula):Prop:=∀ x∈f.kids,∀ (vx:ZC) (W:ZB),A6 W W x vx->Gl W->ZE prog 166 #[.agg (An x vx)] W (Ret W ↑x.text)
theorem I22 (f:CH.Formula) (vk:ZC) (w:ZB) (hG:Gl w) (hK:A6 w w f vk) (hop:f.op=5) (hlen:f.kids.length<=100000) (hxl:∀ x∈f.kids,x.text.length<=3000000000) (hIH:Rz f) (hJl:(CH.join ([32,97,110,100,32]:List UInt8) (f.kids.map (A7 5))).length<=140737488355328):ZE prog 166 #[.agg (An f vk)] w (Ret w ↑f.text):=by
 obtain⟨R,hR⟩:∃ R,Hid (f.text=R):=⟨_,Aa rfl⟩
 rw [hR.out];obtain⟨ak,ck,rfl,hc1,hc2,hrow⟩:=hK.form;replace hrow:=Aa hrow;replace hIH:=Aa hIH;replace hxl:=Aa hxl;generalize hKN:f.kids.length=KN at *;replace hKN:=Aa hKN;dsimp only [An];rw [hop];replace hop:=Aa hop;have hB0:=(Ac _ w).alloc nR (.cells #[.int .i64 5,↑f.name,↑f.cmp,↑f.n,.slice ak KN ck] 57);have hblk:=Ap w (.cells #[.int .i64 5,↑f.name,↑f.cmp,↑f.n,.slice ak KN ck] 57);have hs1:(w.alloc (.cells #[.int .i64 5,↑f.name,↑f.cmp,↑f.n,.slice ak KN ck] 57)).heap.size=w.heap.size+1:=sM;clear hK;go_enter func166,ntmps166;go_wp2_with fail;generalize w.alloc (.cells #[.int .i64 5,↑f.name,↑f.cmp,↑f.n,.slice ak KN ck] 57)=w1 at *;replace hs1:=Aa hs1;replace hblk:=Aa hblk;go_loopw [3,31] (fun lv iv wr=>∃ j:Nat,j<=KN/\iv=↑j/\Hid (Ax (w+1) wr lv ((f.kids.take j).map (A7 5)))/\Hid (Below (w+1) w1 wr)) (fun _ iv _=>KN - (ZG iv).toNat);case atStart=>exact⟨0,Bg _,rfl,Aa (Ax.nil _ _),Aa (Ac _ _)⟩
 case round =>
  obtain⟨j,hj,rfl,hO,hb⟩:=hrel;have hB:Below w w wr:=hB0.trans (hb.out.mono oM);have hsz:w.heap.size+1<=wr.heap.size:=by have:=hb.out.size;have:=hs1.out;omega
  have m0:wr.cell? ⟨w,0,none⟩=some (.int .i64 5):=(hb.out.cell (p:=⟨w,0,none⟩) (Ez _)).trans (Ab hblk.out 0);obtain⟨a3,c3,rfl,hf1,hf2,hf3⟩:=hO.out.form;replace hf3:=Aa hf3;by_cases hlt:j<KN
  ·obtain⟨x,hx⟩:∃ x,f.kids[j]?=some x:=⟨_,Ad (by rw [hKN.out];omega)⟩
   obtain⟨bb,off,rfl,hblt,hcs⟩:=hrow.out (fun e=>by have:=hKN.out;rw [e] at this;simp at this;omega);obtain⟨vx,c0,c1,c2,c3',c4,hkx⟩:=dn.get _ _ _ _ _ hcs hx;have hc:=fun o=>hB.cell (p:=⟨bb,o,none⟩) hblt;have e0:=(hc _).trans c0;have e1:=(hc _).trans c1;have e2:=(hc _).trans c2;have e3:=(hc _).trans c3';have e4:=(hc _).trans c4;have hmem:x∈f.kids:=Aq hx;have hxt:=hxl.out x hmem;have IH:=Aa fun (W:ZB) (hbW:Below w w W)=>hIH.out x hmem vx W (A6.mono hbW.size _ _ (A6.below hbW nR _ _ hkx)) (hG.below hbW);have hts:Hid ((f.kids.take (j+1)).map (A7 5)=(f.kids.take j).map (A7 5)++[A7 5 x]):=Aa (by rw [aI f.kids j x hx];simp);obtain⟨ax,cx,rfl,_,_⟩:=hkx.form;have hLl:((f.kids.take j).map (A7 5)).length=j:=by have:=hKN.out;simp;omega
   replace hLl:=Aa hLl;generalize hL:(f.kids.take j).map (A7 5)=L at *;have hkP:=Q6 5 x;have hkB:=S2 5 x;replace hkP:=Aa hkP;replace hkB:=Aa hkB;generalize hKT:A7 5 x=KT at *;replace hL:=Aa hL;replace hKT:=Aa hKT;generalize x.kids.length=xn at *;generalize x.text=T at *;clear c0 c1 c2 c3' c4 hc hcs hkx hmem hx;dsimp only [An] at IH;go_wp2_with fail;refine (IH.out _ (hB.alloc hB.size _)).mono ?_;rintro e w2 ⟨rfl,hb2⟩;have hblk2:=(hb2.block wr sM).trans (Ap wr _);have n0:w2.cell? ⟨wr,0,none⟩=some ↑x.op:=Ab hblk2 0;have n1:w2.cell? ⟨w,0,none⟩=some (.int .i64 5):=(hb2.cell (p:=⟨w,0,none⟩) (by simp;omega)).trans (by rw [Gx _ _ _ (by rw [m0];rfl)];exact m0);have hO2:Hid (Ax (w+1) w2 (.slice a3 L.length c3) L):=Aa ((hO.out.alloc _).below hb2);have hB2:Hid (Below (w+1) w1 w2):=Aa ((hb.out.alloc oM _).trans (hb2.mono (by simp;omega)));have hs2:w.heap.size+1<=w2.heap.size:=by have:=hB2.out.size;have:=hs1.out;omega
   clear IH hb2 hblk2 e0 e1 e2 e3 e4 m0 hO hb hB;have STEP:∀ (v':ZC) (w3:ZB) (o:Obj),Ax (w+1) w3 v' (L++[KT])->(w2.alloc o).grownBy w3 (Value.slice a3 L.length c3).ownBlock->Hid (Ax (w+1) w3 v' ((f.kids.take (j+1)).map (A7 5)))/\Hid (Below (w+1) w1 w3):=fun v' w3 o h1 h2 =>⟨Aa (by rw [hts.out];exact h1),Aa ((hB2.out.alloc hs2 _).grown h2 (by simp;omega) (fun j hj=>(Dj hO2.out j hj).1))⟩
   replace STEP:=Aa STEP;obtain⟨b6,p6⟩:∃ b,(x.op==6)=b:=⟨_,rfl⟩
   obtain⟨b5,p5⟩:∃ b,(x.op==5)=b:=⟨_,rfl⟩
   have hpar:Hid ((x.op==6||x.op==5&&(5:Int) != 6)=(b6||b5&&(5:Int) != 6)):=Aa (by rw [p6,p5]);exact FD86
  ·obtain rfl:j=KN:=oM;have htk:f.kids.take j=f.kids:=by rw [<- hKN.out,Dw]
   clear hf3;rw [htk] at hO hf1 ⊢;clear htk;have hO:Hid (Ax (w+1) wr (.slice a3 (f.kids.map (A7 5)).length c3) (f.kids.map (A7 5))):=hO;have J:=Aa (Ml _ (f.kids.map (A7 5)) ([32,97,110,100,32]:List UInt8) wr hO.out.strs (by have:=hKN.out;simp;omega) hJl);have hRe:Hid (CH.join ([32,97,110,100,32]:List UInt8) (f.kids.map (A7 5))=R):=Aa (by rw [<- hR.out,text_eq,hop.out];rfl);generalize (f.kids.map (A7 5)).length=LL at *;generalize CH.join ([32,97,110,100,32]:List UInt8) (f.kids.map (A7 5))=JJ at *;exact FD90
theorem I21 (f:CH.Formula) (vk:ZC) (w:ZB) (hG:Gl w) (hK:A6 w w f vk) (hop:f.op=6) (hlen:f.kids.length<=100000) (hxl:∀ x∈f.kids,x.text.length<=3000000000) (hIH:Rz f) (hJl:(CH.join ([32,111,114,32]:List UInt8) (f.kids.map (A7 6))).length<=140737488355328):ZE prog 166 #[.agg (An f vk)] w (Ret w ↑f.text):=by
 obtain⟨R,hR⟩:∃ R,Hid (f.text=R):=⟨_,Aa rfl⟩
 rw [hR.out];obtain⟨ak,ck,rfl,hc1,hc2,hrow⟩:=hK.form;replace hrow:=Aa hrow;replace hIH:=Aa hIH;replace hxl:=Aa hxl;generalize hKN:f.kids.length=KN at *;replace hKN:=Aa hKN;dsimp only [An];rw [hop];replace hop:=Aa hop;have hB0:=(Ac _ w).alloc nR (.cells #[.int .i64 6,↑f.name,↑f.cmp,↑f.n,.slice ak KN ck] 57);have hblk:=Ap w (.cells #[.int .i64 6,↑f.name,↑f.cmp,↑f.n,.slice ak KN ck] 57);have hs1:(w.alloc (.cells #[.int .i64 6,↑f.name,↑f.cmp,↑f.n,.slice ak KN ck] 57)).heap.size=w.heap.size+1:=sM;clear hK;go_enter func166,ntmps166;go_wp2_with fail;generalize w.alloc (.cells #[.int .i64 6,↑f.name,↑f.cmp,↑f.n,.slice ak KN ck] 57)=w1 at *;replace hs1:=Aa hs1;replace hblk:=Aa hblk;go_loopw [3,31] (fun lv iv wr=>∃ j:Nat,j<=KN/\iv=↑j/\Hid (Ax (w+1) wr lv ((f.kids.take j).map (A7 6)))/\Hid (Below (w+1) w1 wr)) (fun _ iv _=>KN - (ZG iv).toNat);case atStart=>exact⟨0,Bg _,rfl,Aa (Ax.nil _ _),Aa (Ac _ _)⟩
 case round =>
  obtain⟨j,hj,rfl,hO,hb⟩:=hrel;have hB:Below w w wr:=hB0.trans (hb.out.mono oM);have hsz:w.heap.size+1<=wr.heap.size:=by have:=hb.out.size;have:=hs1.out;omega
  have m0:wr.cell? ⟨w,0,none⟩=some (.int .i64 6):=(hb.out.cell (p:=⟨w,0,none⟩) (Ez _)).trans (Ab hblk.out 0);obtain⟨a3,c3,rfl,hf1,hf2,hf3⟩:=hO.out.form;replace hf3:=Aa hf3;by_cases hlt:j<KN
  ·obtain⟨x,hx⟩:∃ x,f.kids[j]?=some x:=⟨_,Ad (by rw [hKN.out];omega)⟩
   obtain⟨bb,off,rfl,hblt,hcs⟩:=hrow.out (fun e=>by have:=hKN.out;rw [e] at this;simp at this;omega);obtain⟨vx,c0,c1,c2,c3',c4,hkx⟩:=dn.get _ _ _ _ _ hcs hx;have hc:=fun o=>hB.cell (p:=⟨bb,o,none⟩) hblt;have e0:=(hc _).trans c0;have e1:=(hc _).trans c1;have e2:=(hc _).trans c2;have e3:=(hc _).trans c3';have e4:=(hc _).trans c4;have hmem:x∈f.kids:=Aq hx;have hxt:=hxl.out x hmem;have IH:=Aa fun (W:ZB) (hbW:Below w w W)=>hIH.out x hmem vx W (A6.mono hbW.size _ _ (A6.below hbW nR _ _ hkx)) (hG.below hbW);have hts:Hid ((f.kids.take (j+1)).map (A7 6)=(f.kids.take j).map (A7 6)++[A7 6 x]):=Aa (by rw [aI f.kids j x hx];simp);obtain⟨ax,cx,rfl,_,_⟩:=hkx.form;have hLl:((f.kids.take j).map (A7 6)).length=j:=by have:=hKN.out;simp;omega
   replace hLl:=Aa hLl;generalize hL:(f.kids.take j).map (A7 6)=L at *;have hkP:=Q6 6 x;have hkB:=S2 6 x;replace hkP:=Aa hkP;replace hkB:=Aa hkB;generalize hKT:A7 6 x=KT at *;replace hL:=Aa hL;replace hKT:=Aa hKT;generalize x.kids.length=xn at *;generalize x.text=T at *;clear c0 c1 c2 c3' c4 hc hcs hkx hmem hx;dsimp only [An] at IH;go_wp2_with fail;refine (IH.out _ (hB.alloc hB.size _)).mono ?_;rintro e w2 ⟨rfl,hb2⟩;have hblk2:=(hb2.block wr sM).trans (Ap wr _);have n0:w2.cell? ⟨wr,0,none⟩=some ↑x.op:=Ab hblk2 0;have n1:w2.cell? ⟨w,0,none⟩=some (.int .i64 6):=(hb2.cell (p:=⟨w,0,none⟩) (by simp;omega)).trans (by rw [Gx _ _ _ (by rw [m0];rfl)];exact m0);have hO2:Hid (Ax (w+1) w2 (.slice a3 L.length c3) L):=Aa ((hO.out.alloc _).below hb2);have hB2:Hid (Below (w+1) w1 w2):=Aa ((hb.out.alloc oM _).trans (hb2.mono (by simp;omega)));have hs2:w.heap.size+1<=w2.heap.size:=by have:=hB2.out.size;have:=hs1.out;omega
   clear IH hb2 hblk2 e0 e1 e2 e3 e4 m0 hO hb hB;have STEP:∀ (v':ZC) (w3:ZB) (o:Obj),Ax (w+1) w3 v' (L++[KT])->(w2.alloc o).grownBy w3 (Value.slice a3 L.length c3).ownBlock->Hid (Ax (w+1) w3 v' ((f.kids.take (j+1)).map (A7 6)))/\Hid (Below (w+1) w1 w3):=fun v' w3 o h1 h2 =>⟨Aa (by rw [hts.out];exact h1),Aa ((hB2.out.alloc hs2 _).grown h2 (by simp;omega) (fun j hj=>(Dj hO2.out j hj).1))⟩
   replace STEP:=Aa STEP;obtain⟨b6,p6⟩:∃ b,(x.op==6)=b:=⟨_,rfl⟩
   obtain⟨b5,p5⟩:∃ b,(x.op==5)=b:=⟨_,rfl⟩
   have hpar:Hid ((x.op==6||x.op==5&&(6:Int) != 6)=(b6||b5&&(6:Int) != 6)):=Aa (by rw [p6,p5]);have l1:¬ (9223372036854775807<1+T.length):=oM;have l2:¬ (9223372036854775807<1+T.length+1):=oM;cases b6 <;> cases b5;·exact FD15
   ·exact FD15
   ·exact FD2
   ·exact FD2
  ·obtain rfl:j=KN:=oM;have htk:f.kids.take j=f.kids:=by rw [<- hKN.out,Dw]
   clear hf3;rw [htk] at hO hf1 ⊢;clear htk;have hO:Hid (Ax (w+1) wr (.slice a3 (f.kids.map (A7 6)).length c3) (f.kids.map (A7 6))):=hO;have J:=Aa (Ml _ (f.kids.map (A7 6)) ([32,111,114,32]:List UInt8) wr hO.out.strs (by have:=hKN.out;simp;omega) hJl);have hRe:Hid (CH.join ([32,111,114,32]:List UInt8) (f.kids.map (A7 6))=R):=Aa (by rw [<- hR.out,text_eq,hop.out];rfl);generalize (f.kids.map (A7 6)).length=LL at *;generalize CH.join ([32,111,114,32]:List UInt8) (f.kids.map (A7 6))=JJ at *;exact FD90
theorem I23 (f:CH.Formula) (vk:ZC) (w:ZB) (hG:Gl w) (hK:A6 w w f vk) (hop:f.op=4) (hlen:f.kids.length<=100000) (hxl:∀ x∈f.kids,x.text.length<=3000000000) (hone:f.kids.length=1) (hIH:Rz f) (hJl:(CH.join ([32,111,114,32]:List UInt8) (f.kids.map (A7 4))).length<=140737488355328):ZE prog 166 #[.agg (An f vk)] w (Ret w ↑f.text):=by
 obtain⟨R,hR⟩:∃ R,Hid (f.text=R):=⟨_,Aa rfl⟩
 rw [hR.out];obtain⟨ak,ck,rfl,hc1,hc2,hrow⟩:=hK.form;replace hrow:=Aa hrow;replace hIH:=Aa hIH;replace hxl:=Aa hxl;generalize hKN:f.kids.length=KN at *;replace hone:=Aa hone;replace hKN:=Aa hKN;dsimp only [An];rw [hop];replace hop:=Aa hop;have hB0:=(Ac _ w).alloc nR (.cells #[.int .i64 4,↑f.name,↑f.cmp,↑f.n,.slice ak KN ck] 57);have hblk:=Ap w (.cells #[.int .i64 4,↑f.name,↑f.cmp,↑f.n,.slice ak KN ck] 57);have hs1:(w.alloc (.cells #[.int .i64 4,↑f.name,↑f.cmp,↑f.n,.slice ak KN ck] 57)).heap.size=w.heap.size+1:=sM;clear hK;go_enter func166,ntmps166;go_wp2_with fail;generalize w.alloc (.cells #[.int .i64 4,↑f.name,↑f.cmp,↑f.n,.slice ak KN ck] 57)=w1 at *;replace hs1:=Aa hs1;replace hblk:=Aa hblk;go_loopw [3,31] (fun lv iv wr=>∃ j:Nat,j<=KN/\iv=↑j/\Hid (Ax (w+1) wr lv ((f.kids.take j).map (A7 4)))/\Hid (Below (w+1) w1 wr)) (fun _ iv _=>KN - (ZG iv).toNat);case atStart=>exact⟨0,Bg _,rfl,Aa (Ax.nil _ _),Aa (Ac _ _)⟩
 case round =>
  obtain⟨j,hj,rfl,hO,hb⟩:=hrel;have hB:Below w w wr:=hB0.trans (hb.out.mono oM);have hsz:w.heap.size+1<=wr.heap.size:=by have:=hb.out.size;have:=hs1.out;omega
  have m0:wr.cell? ⟨w,0,none⟩=some (.int .i64 4):=(hb.out.cell (p:=⟨w,0,none⟩) (Ez _)).trans (Ab hblk.out 0);obtain⟨a3,c3,rfl,hf1,hf2,hf3⟩:=hO.out.form;replace hf3:=Aa hf3;by_cases hlt:j<KN
  ·obtain⟨x,hx⟩:∃ x,f.kids[j]?=some x:=⟨_,Ad (by rw [hKN.out];omega)⟩
   obtain⟨bb,off,rfl,hblt,hcs⟩:=hrow.out (fun e=>by have:=hKN.out;rw [e] at this;simp at this;omega);obtain⟨vx,c0,c1,c2,c3',c4,hkx⟩:=dn.get _ _ _ _ _ hcs hx;have hc:=fun o=>hB.cell (p:=⟨bb,o,none⟩) hblt;have e0:=(hc _).trans c0;have e1:=(hc _).trans c1;have e2:=(hc _).trans c2;have e3:=(hc _).trans c3';have e4:=(hc _).trans c4;have hmem:x∈f.kids:=Aq hx;have hxt:=hxl.out x hmem;have IH:=Aa fun (W:ZB) (hbW:Below w w W)=>hIH.out x hmem vx W (A6.mono hbW.size _ _ (A6.below hbW nR _ _ hkx)) (hG.below hbW);have hts:Hid ((f.kids.take (j+1)).map (A7 4)=(f.kids.take j).map (A7 4)++[A7 4 x]):=Aa (by rw [aI f.kids j x hx];simp);obtain⟨ax,cx,rfl,_,_⟩:=hkx.form;have hLl:((f.kids.take j).map (A7 4)).length=j:=by have:=hKN.out;simp;omega
   replace hLl:=Aa hLl;generalize hL:(f.kids.take j).map (A7 4)=L at *;have hkP:=Q6 4 x;have hkB:=S2 4 x;replace hkP:=Aa hkP;replace hkB:=Aa hkB;generalize hKT:A7 4 x=KT at *;replace hL:=Aa hL;replace hKT:=Aa hKT;generalize x.kids.length=xn at *;generalize x.text=T at *;clear c0 c1 c2 c3' c4 hc hcs hkx hmem hx;dsimp only [An] at IH;go_wp2_with fail;refine (IH.out _ (hB.alloc hB.size _)).mono ?_;rintro e w2 ⟨rfl,hb2⟩;have hblk2:=(hb2.block wr sM).trans (Ap wr _);have n0:w2.cell? ⟨wr,0,none⟩=some ↑x.op:=Ab hblk2 0;have n1:w2.cell? ⟨w,0,none⟩=some (.int .i64 4):=(hb2.cell (p:=⟨w,0,none⟩) (by simp;omega)).trans (by rw [Gx _ _ _ (by rw [m0];rfl)];exact m0);have hO2:Hid (Ax (w+1) w2 (.slice a3 L.length c3) L):=Aa ((hO.out.alloc _).below hb2);have hB2:Hid (Below (w+1) w1 w2):=Aa ((hb.out.alloc oM _).trans (hb2.mono (by simp;omega)));have hs2:w.heap.size+1<=w2.heap.size:=by have:=hB2.out.size;have:=hs1.out;omega
   clear IH hb2 hblk2 e0 e1 e2 e3 e4 m0 hO hb hB;have STEP:∀ (v':ZC) (w3:ZB) (o:Obj),Ax (w+1) w3 v' (L++[KT])->(w2.alloc o).grownBy w3 (Value.slice a3 L.length c3).ownBlock->Hid (Ax (w+1) w3 v' ((f.kids.take (j+1)).map (A7 4)))/\Hid (Below (w+1) w1 w3):=fun v' w3 o h1 h2 =>⟨Aa (by rw [hts.out];exact h1),Aa ((hB2.out.alloc hs2 _).grown h2 (by simp;omega) (fun j hj=>(Dj hO2.out j hj).1))⟩
   replace STEP:=Aa STEP;obtain⟨b6,p6⟩:∃ b,(x.op==6)=b:=⟨_,rfl⟩
   obtain⟨b5,p5⟩:∃ b,(x.op==5)=b:=⟨_,rfl⟩
   have hpar:Hid ((x.op==6||x.op==5&&(4:Int) != 6)=(b6||b5&&(4:Int) != 6)):=Aa (by rw [p6,p5]);exact FD86
  ·obtain rfl:j=KN:=oM;have htk:f.kids.take j=f.kids:=by rw [<- hKN.out,Dw]
   clear hf3;rw [htk] at hO hf1 ⊢;clear htk;have hO:Hid (Ax (w+1) wr (.slice a3 (f.kids.map (A7 4)).length c3) (f.kids.map (A7 4))):=hO;obtain⟨x,hx⟩:∃ x,f.kids=[x]:=List.length_eq_one_iff.1 (by rw [hKN.out];exact hone.out);have hRe:Hid ([110,111,116,32]++A7 4 x=R):=Aa (by rw [<- hR.out,text_eq,hop.out,hx];rfl);have hxt:=hxl.out x (by rw [hx];simp);have hkt:(A7 4 x).length<=x.text.length+2:=by unfold A7;split <;> simp
   have hO:Ax (w+1) wr (.slice a3 1 c3) [A7 4 x]:=by have:=hO.out;rw [hx] at this;exact this
   obtain⟨b3,IQ,rfl,hb3,hc3⟩:∃ b off,a3=some ⟨b,off,none⟩/\b<wr.heap.size/\∀ (j:Nat) (l:List UInt8),[A7 4 x][j]?=some l->wr.cell? ⟨b,off+j,none⟩=some ↑l:=by obtain⟨a',c',e',h1',h2',h3'⟩:=hO.strs;cases e';exact h3' sM
   have k0:=hc3 0 _ rfl;rw [Ia] at k0;rw [hx] at ⊢;have hll:([x].map (A7 4)).length=1:=rfl;rw [hll];clear hO hc3 hx hll;generalize A7 4 x=KT at *;have l1:¬ (9223372036854775807<4+KT.length):=oM;go_wp2;go_ret;exact⟨by rw [<- hRe.out,<- bytes_append];rfl,hB⟩
theorem Qe (f:CH.Formula) (ak:Option Addr) (nk ck:Nat) (w:ZB) (h:f.op=1\/f.op=2) : ZE prog 166 #[.agg (An f (.slice ak nk ck))] w (Ret w ↑f.text):=by
 have ht:=text_eq f;obtain⟨R,hR⟩:∃ R,Hid (f.text=R):=⟨_,Aa rfl⟩
 rw [hR.out] at ht ⊢;dsimp only [An];rcases h with h|h;·rw [h] at ht ⊢;replace ht:R=([116,114,117,101]:List UInt8):=ht;subst ht;go_enter func166,ntmps166;go_wp2;go_ret;exact FD132
 ·rw [h] at ht ⊢;replace ht:R=([102,97,108,115,101]:List UInt8):=ht;subst ht;go_enter func166,ntmps166;go_wp2;go_ret;exact FD132
theorem R6 {l:List CH.Formula} (h:eU l=true) {x:CH.Formula} (hx:x∈l):x.ok=true:=by
 induction l with
 |nil=>cases hx
 |cons g l ih =>
  simp only [eU,Aw] at h;rcases A8.1 hx with rfl|hx;·exact h.1
  ·exact ih h.2 hx
theorem Kj8 (k:Nat):∀ (f:CH.Formula) (vk:ZC) (w:ZB),f.depth<=k->Gl w->A6 w w f vk->f.ok=true->C7 f->f.count<=90000 -> ZE prog 166 #[.agg (An f vk)] w (Ret w ↑f.text):=by
 induction k with
 |zero=>intro f vk w hk;exact absurd hk (by rw [Fu];omega)
 |succ k ih =>
  intro f vk w hk hG hK hok hS hcount;have nH:=Pa hok;have hd:=Fu f;have hcn:=Wc f;have hlen:=Lf f.kids;have hIH:Rz f:=fun x hx vx W hKx hGx=>ih x vx W (by have:=Lv hx;omega) hGx hKx (R6 nH.2.2 hx) (hS.kids.mem hx) (by have:=Sc hx;omega);have hxl:∀ x∈f.kids,x.text.length<=3000000000:=fun x hx=>by have:=Rp x (hS.kids.mem hx) (R6 nH.2.2 hx);have:=Sc hx;omega
  have hjl:∀ (op:Int) (sep:List UInt8),sep.length<=5->(CH.join sep (f.kids.map (A7 op))).length<=140737488355328:=fun op sep hsep=>by
   have h1:=Sl op f.kids hS.kids nH.2.2;have h2:=S3 sep (f.kids.map (A7 op));have h3:((f.kids.map (A7 op)).map fun l=>l.length+sep.length).sum<=((f.kids.map (A7 op)).map fun l=>l.length+5).sum:=by
    generalize f.kids.map (A7 op)=ls;induction ls with
    |nil=>simp
    |cons a l ih=>simp only [F9,Lp];omega
   omega
  obtain⟨ak,ck,rfl,hc1,hc2,hrow⟩:=hK.form;rcases Den hok with h|h|⟨h,h1,h6⟩|⟨h,h1⟩|h|h;·exact Qe f ak _ ck w (.inl h)
  ·exact Qe f ak _ ck w (.inr h)
  ·have hn:=nH.2.1 h;exact Age f ak _ ck w hG h h1 h6 hn.1 hn.2 hS.name
  ·exact I23 f _ w hG hK h oM hxl h1 hIH (hjl 4 _ dC)
  ·exact I22 f _ w hG hK h oM hxl hIH (hjl 5 _ dC)
  ·exact I21 f _ w hG hK h oM hxl hIH (hjl 6 _ dC)
theorem U7 (f:CH.Formula) (vk:ZC) (w:ZB) (hG:Gl w) (hK:A6 w w f vk) (hS:C7 f) (hc:f.count<=100000000) (hd:f.depth<=100000000) : ZE prog 104 #[.agg (An f vk)] w (Ret w (bQ (bf f))):=by
 obtain⟨R,hR⟩:∃ R,Hid (bQ (bf f)=R):=⟨_,Aa rfl⟩
 rw [hR.out];have KB:=fun (W:ZB) (hb:Below w w W)=>A6.mono hb.size _ _ (A6.below hb nR _ _ hK);have L:=fun (W:ZB) (hb:Below w w W)=>I48 f vk W (KB W hb) hc hd;have F:=fun (W:ZB) (hb:Below w w W)=>I57 f.depth f vk W nR (KB W hb) hS;obtain⟨lg,hlg⟩:∃ b,(ZH (f.count > 200)||ZH (f.depth > 20))=b:=⟨_,rfl⟩
 obtain⟨ok,hok⟩:∃ b,f.ok=b:=⟨_,rfl⟩
 rw [hlg] at L;rw [hok] at F;replace L:=Aa L;replace F:=Aa F;have hRe:Hid (R=bQ (if lg then none else if ok then some f.text else none)):=Aa (by rw [<- hR.out,<- hlg,<- hok];rfl);have hB0:=fun o=>(Ac _ w).alloc nR o;have hW:=fun o=>Ap w o;have hz1:=Z4;have hz2:=Xu;have FE:=Rj;have T:=fun (vZ:f.count<=90000) (hok:f.ok=true) (W:ZB) (hb:Below w w W)=>Kj8 f.depth f vk W nR (hG.below hb) (KB W hb) hok hS vZ;replace T:=Aa T;clear KB;obtain⟨ak,ck,rfl,hc1,hc2,hrow⟩:=hK.form;clear hrow hK;generalize f.kids.length=KN at *;dsimp only [An] at L F T ⊢;cases lg with
 |true =>obtain rfl:=hRe.out;clear F T hok hlg;go_enter func104,ntmps104;go_wp2_with fail;refine (L.out _ (hB0 _)).mono ?_;rintro e w1 ⟨rfl,hb1⟩;clear L;go_wp2;refine Ag (Am rfl _ _ _) rfl ?_;exact FD106
 |false =>
  have vZ:f.count<=200:=by simp only [G5,Di] at hlg;omega
  clear hlg;go_enter func104,ntmps104;go_wp2_with fail;refine (L.out _ (hB0 _)).mono ?_;rintro e w1 ⟨rfl,hb1⟩;have hB1:Below w w w1:=(hB0 _).trans (hb1.mono sM);have hblk:=(hb1.block w sM).trans (hW _);clear L hb1 hW hB0;have k0:=Ab hblk 0;have k1:=Ab hblk 1;have k2:=Ab hblk 2;have k3:=Ab hblk 3;have k4:=Ab hblk 4;simp only [Gt,Eu,Ew] at k0 k1 k2 k3 k4;have hblk:=Aa hblk;go_wp2_with fail;refine (F.out _ hB1).mono ?_;rintro e w2 ⟨rfl,hb2⟩;have hB2:Below w w w2:=hB1.trans (hb2.mono hB1.size);have hblk2:=(hb2.block w (aZ hblk.out)).trans hblk.out;clear F k0 k1 k2 k3 k4;have k0:=Ab hblk2 0;have k1:=Ab hblk2 1;have k2:=Ab hblk2 2;have k3:=Ab hblk2 3;have k4:=Ab hblk2 4;simp only [Gt,Eu,Ew] at k0 k1 k2 k3 k4;clear hblk hblk2 hb2;cases ok with
  |false =>obtain rfl:=hRe.out;clear T hok;exact FD95
  |true =>obtain rfl:=hRe.out;have T:=Aa (T.out oM hok);clear hok;go_wp2_with fail;refine (T.out _ hB2).mono ?_;rintro e w3 ⟨rfl,hb3⟩;clear T;go_wp2;refine Ag (Am rfl _ _ _) rfl ?_;exact FD128
theorem Fpt (vx:ZC) (lx ls:List (List UInt8)) (base p B:Nat) (w:ZB) (hW:Cx base p w ls) (hX:Strs B w vx lx) (hl:ls.length+lx.length<=1000000) : ZE prog 107 #[.bool true,vx,.pointer (some ⟨p,0,none⟩)] w (I04 base p w (ls++lx)):=by have hpl:=Vj hW;obtain⟨v,hv,hO,hne,hbp⟩:=hW;obtain⟨av,cv,rfl,hf1,hf2,_⟩:=hO.form;have hblk:=Q3 hO;have c0:w.cell? ⟨p,0,none⟩=some (.slice av ls.length cv):=Ab hv 0;obtain⟨ax,cx,rfl,_,_⟩:=hX.form;generalize hN:ls.length=N at *;generalize hM:lx.length=M at *;go_enter func107,ntmps107;exact FD23
theorem B7d (vx:ZC) (ls:List (List UInt8)) (base p:Nat) (w:ZB) (hW:Cx base p w ls) (ax:Option Addr) (nx cx:Nat) (hx:vx=.slice ax nx cx) : ZE prog 107 #[.bool false,vx,.pointer (some ⟨p,0,none⟩)] w (I04 base p w ls):=by subst hx;go_enter func107,ntmps107;go_wp2;go_end0;exact⟨rfl,hW,Ac _ _,Bv _⟩
def fO (b:Bool) (ls lx:List (List UInt8)):List (List UInt8):=if b then ls++lx else ls
theorem Sf (b:Bool) (ls lx:List (List UInt8)):(fO b ls lx).length<=ls.length+lx.length:=by unfold fO;split <;> simp
theorem dU.fO {n:Nat} {b:Bool} {ls lx:List (List UInt8)} (h1:dU n ls) (h2:dU n lx):dU n (fO b ls lx):=by
 intro l hl;unfold Go.Proofs.YtdgmgjeoikcgbaaGreatDoor.fO at hl;split at hl
 ·rcases Ea.1 hl with h|h;·exact h1 l h
  ·exact h2 l h
 ·exact h1 l hl
theorem Tl {f:CH.Formula} {t:List UInt8} (h:bf f=some t) (hS:C7 f):t.length<=6000000:=by
 unfold bf at h;split at h;·cases h
 ·rename_i hn;split at h;·rename_i hok;cases h;have:=Rp f hS hok;simp only [Dy,Bl,La] at hn;omega
  ·cases h
theorem Pp (b:Bool) (lx ls:List (List UInt8)) (base p:Nat) (w:ZB) (hW:Cx base p w ls) (hl:ls.length+lx.length<=1000000) (n:Nat) (hn:lx.length=n) (T:Array ZC) (hT:T=(lx.map aA).toArray) : ZE prog 107 #[.bool b,.slice (some ⟨w,0,none⟩) n n,.pointer (some ⟨p,0,none⟩)] (w.alloc (.cells T 9)) (I04 base p (w.alloc (.cells T 9)) (fO b ls lx)):=by
 subst hn hT;cases b with
 |true=>exact Fpt _ lx ls base p _ _ (hW.alloc _) (G1 w lx oM).strs hl
 |false=>exact B7d _ ls base p _ (hW.alloc _) _ _ _ rfl
theorem Cap {W:ZB} {p:Nat} (h:W.heap[p]?=some (.cells #[.slice none 0 0] 25 (0,0))):Cx p p W [] := ⟨.slice none 0 0,h,Ax.nil _ _,by simp [Value.ownBlock],Bv _⟩
theorem Vd (w:ZB):(zeroValue 9).run prog w=.ok (.string ⟨#[]⟩) w:=kR
theorem Sg (w:ZB) (a b c:Int) (va vb vc:List UInt8) (hab:(b==a)=false) (hac:(c==a)=false) (hbc:(c==b)=false) : ∃ o1 o2 o3,(Instr.mapUpdate 104 (.map (some w.heap.size)) ↑a (aA va)).run prog (w.alloc (.map #[] 0))=.ok () ((w.alloc (.map #[] 0)).putObj w.heap.size o1) /\ (Instr.mapUpdate 104 (.map (some w.heap.size)) ↑b (aA vb)).run prog ((w.alloc (.map #[] 0)).putObj w.heap.size o1)=.ok () (((w.alloc (.map #[] 0)).putObj w.heap.size o1).putObj w.heap.size o2) /\ (Instr.mapUpdate 104 (.map (some w.heap.size)) ↑c (aA vc)).run prog (((w.alloc (.map #[] 0)).putObj w.heap.size o1).putObj w.heap.size o2)=.ok () ((((w.alloc (.map #[] 0)).putObj w.heap.size o1).putObj w.heap.size o2).putObj w.heap.size o3) /\ Wo aJ w ((((w.alloc (.map #[] 0)).putObj w.heap.size o1).putObj w.heap.size o2).putObj w.heap.size o3) [(a,aA va),(b,aA vb),(c,aA vc)]:=by obtain⟨o1,h1,m1⟩:=Fm M8 underlying104 (R8 aJ w) a (aA va) rfl;obtain⟨o2,h2,m2⟩:=Fm M8 underlying104 m1 b (aA vb) (by simp [Cn,hab]);obtain⟨o3,h3,m3⟩:=Fm M8 underlying104 m2 c (aA vc) (by simp [Cn,hac,hbc]);exact⟨o1,o2,o3,h1,h2,h3,m3⟩
structure gG (B:Nat) (w:ZB) (m:bD) (vk:ZC):Prop where
 kids:A6 B w m.aB vk
 nums:jE m
 id:m.id.length<=10000
 authority:m.authority.length<=10000
 target:m.target.length<=10000
 short:C7 m.aB
 count:m.aB.count<=100000000
 depth:m.aB.depth<=100000000
theorem gG.below {B B':Nat} {w w':ZB} {m:bD} {vk:ZC} (h:gG B w m vk) (hb:Below B' w w') (hB:B<=B'):gG B w' m vk:={ h with kids:=A6.below hb hB _ _ h.kids }
theorem gG.mono {B B':Nat} {w:ZB} {m:bD} {vk:ZC} (h:gG B w m vk) (hB:B<=B'):gG B' w m vk:={ h with kids:=A6.mono hB _ _ h.kids }
def Fi (m:bD) (t:List UInt8):List (List UInt8) := fO (ZH (m.dN > 0)) (fO (ZH (m.aF >= 0)) (fO true (fO (m.aB.op != 1) (fO true (fO (m.target != []) (fO true [] [dP m.kind]) [m.target]) [m.id,([111,102]:List UInt8),m.authority]) [([105,102]:List UInt8),t]) [([102,114,111,109]:List UInt8),ZK m.start]) [([117,110,116,105,108]:List UInt8),ZK m.aF]) [([119,105,110,100]:List UInt8),ZK m.dN]
theorem Vc (m:bD):cZ m=match bf m.aB with
  |none=>none
  |some t=>if aT m&&bg m then some (CH.join [32] (Fi m t)++[59]) else none:=by
 unfold cZ
 cases bf m.aB with
 |none=>rfl
 |some t =>
  dsimp only
  congr 4
  unfold Fi fO
  cases h1:(m.target != []) <;> cases h2:(m.aB.op != 1) <;> cases h3:ZH (m.aF >= 0) <;> cases h4:ZH (m.dN > 0) <;> simp_all
def I64 (n:Int):Prop:=-9223372036854775808<=n/\n<=9223372036854775807
structure vG (a:CH.Act):Prop where
 change:iQ a.change
 pos:I64 a.change.pos
 lid:a.licence.id.length<=10000
 lm:Fd a.licence.measures
 lp:Fd a.licence.aG
 hold:jk a.holding
 id:a.id.length<=10000
 kind:I64 a.kind
 n:I64 a.n
def B6 (l:fF) (vm vp:ZC):List ZC:=[aA l.id,vm,vp,aJ l.quota,aJ l.uses,aJ l.start,aJ l.aF]
structure eH where
 vn:ZC
 vk:ZC
 vm:ZC
 vp:ZC
 vj:ZC
def Av (a:CH.Act) (s:eH):List ZC := aJ a.kind::(Bb a.change s.vn++(A4 a.measure s.vk++(B6 a.licence s.vm s.vp++(A5 a.holding s.vj++[aA a.id,aJ a.n]))))
structure fJ (B:Nat) (w:ZB) (a:CH.Act) (s:eH):Prop where
 names:Ds B w s.vn a.change.entry.names
 meas:gG B w a.measure s.vk
 lm:Strs B w s.vm a.licence.measures
 lp:Strs B w s.vp a.licence.aG
 hj:Strs B w s.vj a.holding.joint
 small:vG a
theorem fJ.below {B B':Nat} {w w':ZB} {a:CH.Act} {s:eH} (h:fJ B w a s) (hb:Below B' w w') (hB:B<=B'):fJ B w' a s:=⟨h.names.below hb hB,h.meas.below hb hB,h.lm.below hb hB,h.lp.below hb hB,h.hj.below hb hB,h.small⟩
theorem fJ.mono {B B':Nat} {w:ZB} {a:CH.Act} {s:eH} (h:fJ B w a s) (hB:B<=B'):fJ B' w a s:=⟨h.names.mono hB,h.meas.mono hB,h.lm.mono hB,h.lp.mono hB,h.hj.mono hB,h.small⟩
theorem Rd (ws:List CH.Word) (m n:Nat) (h:∀ x∈ws,dU m x.texts) (hn:(ws.flatMap CH.Word.texts).length<=n):(CH.words ws).length<=n*(m+1):=by unfold CH.words;refine Af (K7 [32] m _ fun l hl=>?_) (Dh _ hn);obtain⟨x,hx,hl⟩:=List.mem_flatMap.1 hl;exact h x hx l hl
theorem C6 (n:Int) (h:I64 n):dU 10000 (CH.Word.int n).texts:=by
 have:=Lib.itoa_length_le n h.1 h.2;show dU 10000 (if n = -1 then _ else _);split;·exact .one sM
 ·exact .one oM
theorem C5 (s:List UInt8) (h:s.length<=10000):dU 10000 (CH.Word.str s).texts:=by
 show dU 10000 [if s=[] then _ else _];split;·exact .one sM
 ·exact .one h
theorem Lx (n:Int):(CH.Word.int n).texts.length=1:=by show (if n = -1 then _ else _:List (List UInt8)).length=1;split <;> rfl
theorem Q4 (n:CH.Name) (hok:bH n=true) (hS:Fd n.words):(aV n).length<=60100:=by
 have h1:=K7 [32] 10000 n.words hS.2;have h2:n.words.length<=6:=by unfold bH at hok;simp only [Aw,Bl] at hok;exact hok.2.2
 have h3:n.words.length*(10000+1)<=6*(10000+1):=Dh _ h2;exact FD101
theorem Wf {c:CH.Change} {t:List UInt8} (h:bJ c=some t) (hS:iQ c) (hp:I64 c.pos):t.length<=1000000:=by
 unfold bJ at h;split at h
 ·rename_i hok;cases h;have hi:=Lib.itoa_length_le c.pos hp.1 hp.2;have hid:=hS.id;have h1:=K7 [32] 70000 ([CH.kindWord c.kind,c.id]++(if c.kind==1||c.kind==2 then [ZK c.pos] else [])++c.entry.names.map (fun n=>[34]++aV n++[34])) (fun l hl=>by
   rcases Ea.1 hl with hl|hl
   ·rcases Ea.1 hl with hl|hl
    ·simp only [A8,Az,Df] at hl;rcases hl with rfl|rfl;·exact Af (Qz _) dC
     ·omega
    ·split at hl;·cases Ci.1 hl;omega
     ·cases hl
   ·obtain⟨n,hn,rfl⟩:=Ej.1 hl;have:=Q4 n (M3 hok n hn) (hS.entry.names n hn);simp;omega)
  have h2:=G3 hok;have h3:([CH.kindWord c.kind,c.id]++(if c.kind==1||c.kind==2 then [ZK c.pos] else [])++c.entry.names.map (fun n=>[34]++aV n++[34])).length<=11:=by
   rw [Au,Au,Dt];have:(if c.kind==1||c.kind==2 then [ZK c.pos] else []:List (List UInt8)).length<=1:=by split <;> simp
   simp only [Ba,Bj];omega
  have h4:=Dh (70000+1) h3;rw [Au,Dx];simp only [Ba,Bj,Bh] at h1;omega
 ·cases h
theorem Tk {B:Nat} {w:ZB} {m:bD} {vk:ZC} {t:List UInt8} (h:cZ m=some t) (hM:gG B w m vk):t.length<=100000000:=by
 rw [Vc] at h;cases hf:bf m.aB with
 |none=>rw [hf] at h;cases h
 |some u =>
  rw [hf] at h;dsimp only at h;split at h
  ·cases h;have htl:=Tl hf hM.short;have i1:=Lib.itoa_length_le m.start hM.nums.s.1 hM.nums.s.2;have i2:=Lib.itoa_length_le m.aF hM.nums.u.1 hM.nums.u.2;have i3:=Lib.itoa_length_le m.dN hM.nums.w.1 hM.nums.w.2;have hid:=hM.id;have hau:=hM.authority;have htg:=hM.target;have hkl:(dP m.kind).length<=6:=by unfold dP;exact FD146
   have vX:dU 6000000 (Fi m u):=by exact FD61
   have hn:(Fi m u).length<=13:=by
    unfold Fi fO;repeat' split
    all_goals simp
   have h1:=K7 [32] 6000000 _ vX;have h2:=Dh (6000000+[(32:UInt8)].length) hn;rw [Au,Dx];simp only [Ba,Bj,Bh] at h1 h2;omega
  ·cases h
theorem Oz {l:fF} (h:aP l=true):l.measures.length<=12/\l.aG.length<=60/\I64 l.quota/\I64 l.uses/\I64 l.start/\I64 l.aF:=by unfold aP CH.within at h;simp only [Aw,Bl] at h;unfold I64;omega
theorem O1 {h:aS} (hk:bC h=true):h.joint.length<=4/\I64 h.capital/\I64 h.bY/\I64 h.start/\I64 h.stop:=by have hj:=Uh hk;unfold bC CH.within at hk;simp only [Aw,Dy,Fz,G5,Js,Md,Bl,Di,D7] at hk;unfold I64;obtain⟨⟨⟨_,_⟩,hq⟩,hw⟩:=hk;omega
def Mk (l:fF):List CH.Word:=[.str ([108,105,99,101,110,99,101]:List UInt8),.str l.id,.int l.quota,.int l.uses,.int l.start,.int l.aF,.int l.measures.length,.strs l.measures,.strs l.aG]
def Ks (h:aS):List CH.Word:=[.str ([104,111,108,100,105,110,103]:List UInt8),.str h.id,.str h.company,.str h.holder,.str h.ah,.str h.aC,.int h.capital,.int h.bY,.int h.start,.int h.stop,.strs h.joint]
def Cp (a:CH.Act):List CH.Word:=[.str (je a.kind),.str a.id,.int a.n]
theorem Qy {l:fF} (h:aP l=true) (hid:l.id.length<=10000) (hm:Fd l.measures) (hp:Fd l.aG):(CH.words (Mk l)).length<=1000000:=by
 obtain⟨h1,h2,h3,h4,h5,h6⟩:=Oz h;have hn:((Mk l).flatMap CH.Word.texts).length<=80:=by unfold Mk;simp only [Gg,G8,Au,Lx,Bj];show 1+(1+(1+(1+(1+(1+(1+(l.measures.length+(l.aG.length+0))))))))<=80;omega
 refine Af (Rd _ 10000 80 ?_ hn) dC;intro x hx;simp only [Mk,A8,Az,Df] at hx;rcases hx with rfl|rfl|rfl|rfl|rfl|rfl|rfl|rfl|rfl;·exact C5 _ sM
 ·exact C5 _ hid
 ·exact C6 _ h3
 ·exact C6 _ h4
 ·exact C6 _ h5
 ·exact C6 _ h6
 ·exact C6 _ (by unfold I64;omega)
 ·exact hm.2
 ·exact hp.2
theorem O4 {h:aS} (hk:bC h=true) (hS:jk h):(CH.words (Ks h)).length<=1000000:=by
 obtain⟨h1,h3,h4,h5,h6⟩:=O1 hk;have hn:((Ks h).flatMap CH.Word.texts).length<=80:=by unfold Ks;simp only [Gg,G8,Au,Lx,Bj];show 1+(1+(1+(1+(1+(1+(1+(1+(1+(1+(h.joint.length+0))))))))))<=80;omega
 refine Af (Rd _ 10000 80 ?_ hn) dC;intro x hx;simp only [Ks,A8,Az,Df] at hx;rcases hx with rfl|rfl|rfl|rfl|rfl|rfl|rfl|rfl|rfl|rfl|rfl;·exact C5 _ sM
 ·exact C5 _ hS.id
 ·exact C5 _ hS.company
 ·exact C5 _ hS.holder
 ·exact C5 _ hS.ah
 ·exact C5 _ hS.aC
 ·exact C6 _ h3
 ·exact C6 _ h4
 ·exact C6 _ h5
 ·exact C6 _ h6
 ·exact hS.joint.2
theorem Nm {a:CH.Act} (hid:a.id.length<=10000) (hn:I64 a.n):(CH.words (Cp a)).length<=1000000:=by
 have h3:((Cp a).flatMap CH.Word.texts).length<=80:=by unfold Cp;simp only [Gg,G8,Au,Lx,Bj];show 1+(1+(1+0))<=80;omega
 refine Af (Rd _ 10000 80 ?_ h3) dC;intro x hx;simp only [Cp,A8,Az,Df] at hx;rcases hx with rfl|rfl|rfl;·refine C5 _ ?_;unfold je;exact FD146
 ·exact C5 _ hid
 ·exact C6 _ hn
theorem M5 {B:Nat} {w:ZB} {a:CH.Act} {s:eH} {t:List UInt8} (h:aQ a=some t) (hA:fJ B w a s):t.length<=100000100:=by
 unfold aQ at h;split at h;·cases h
 split at h;·obtain⟨u,hu,rfl⟩:=Ku.1 h;have:=Wf hu hA.small.change hA.small.pos;simp;omega
 split at h;·obtain⟨u,hu,rfl⟩:=Ku.1 h;have:=Tk hu hA.meas;simp;omega
 split at h
 ·split at h;·rename_i hok;cases h;have:=Qy hok hA.small.lid hA.small.lm hA.small.lp;unfold Mk at this;rw [Au,Dx];omega
  ·cases h
 split at h
 ·split at h;·rename_i hok;cases h;have:=O4 hok hA.small.hold;unfold Ks at this;rw [Au,Dx];omega
  ·cases h
 split at h;·obtain⟨_,h⟩:=Option.ite_none_right_eq_some.1 h;cases h;have:=Nm hA.small.id hA.small.n;unfold Cp at this;rw [Au,Dx];omega
 ·cases h
structure Held (R:List Nat) (w w':ZB):Prop where
 os:w'.os=w.os
 tape:w'.tape=w.tape
 output:w'.output=w.output
 size:w.heap.size<=w'.heap.size
 block:∀ k,k<w.heap.size->k ∉ R->w'.heap[k]?=w.heap[k]?
theorem Held.of_below {R:List Nat} {w w':ZB} (h:Below w w w'):Held R w w':=⟨h.os,h.tape,h.output,h.size,fun k hk _=>h.block k hk⟩
theorem Held.trans {R:List Nat} {w w1 w2:ZB} (h:Held R w w1) (h':Held R w1 w2):Held R w w2 := ⟨h'.os.trans h.os,h'.tape.trans h.tape,h'.output.trans h.output,Af h.size h'.size,fun k hk hR=>(h'.block k (Ai hk h.size) hR).trans (h.block k hk hR)⟩
theorem Held.mono {R R':List Nat} {w w':ZB} (h:Held R w w') (hs:∀ r∈R,r∈R'):Held R' w w':=⟨h.os,h.tape,h.output,h.size,fun k hk hR=>h.block k hk fun hr=>hR (hs k hr)⟩
theorem Held.below {R:List Nat} {w w':ZB} (h:Held R w w') {B:Nat} (hB:B<=w.heap.size) (hR:∀ r∈R,B<=r):Below B w w':=⟨h.os,h.tape,h.output,h.size,fun k hk=>h.block k (Ai hk hB) fun hr=>by have:=hR k hr;omega⟩
def Cells (w w':ZB):Prop:=∀ p v,w.cell? p=some v->w'.cell? p=some v
theorem Cells.trans {a b c:ZB} (h:Cells a b) (h':Cells b c):Cells a c:=fun p v hp=>h' p v (h p v hp)
theorem Cells.of_below {w w':ZB} (h:Below w w w'):Cells w w':=fun p v hp=>(h.cell (Em w p hp)).trans hp
def L34 (w:ZB) (r:Nat):Prop:=∃ es c,w.heap[r]?=some (.map es c)
theorem Wg {w w':ZB} {p:Addr} (h:w'.heap[p.block]?=w.heap[p.block]?):w'.cell? p=w.cell? p:=by simp only [World.cell?,h]
theorem Held.cells {R:List Nat} {w w':ZB} (h:Held R w w') (hR:∀ r∈R,L34 w r):Cells w w':=fun p v hp=>by
 have hlt:=Em w p hp;by_cases hm:p.block∈R;·obtain⟨es,c,he⟩:=hR _ hm;simp [World.cell?,he] at hp
 ·rw [Wg (h.block _ hlt hm)];exact hp
theorem Strs.kept {B:Nat} {w w':ZB} {v:ZC} {ls:List (List UInt8)} (h:Strs B w v ls) (hc:Cells w w'):Strs B w' v ls:=by obtain⟨a,cap,hv,h1,h2,h3⟩:=h;refine⟨a,cap,hv,h1,h2,fun hne=>?_⟩;obtain⟨b,off,ha,hlt,hx⟩:=h3 hne;exact⟨b,off,ha,hlt,fun j l hj=>hc _ _ (hx j l hj)⟩
theorem Ds.kept {B:Nat} {w w':ZB} {v:ZC} {ns:List CH.Name} (h:Ds B w v ns) (hc:Cells w w'):Ds B w' v ns:=by obtain⟨a,cap,h1,h2,h3,h4⟩:=h;refine⟨a,cap,h1,h2,h3,fun hne=>?_⟩;obtain⟨b,off,e,hlt,hx⟩:=h4 hne;refine⟨b,off,e,hlt,fun j n hj=>?_⟩;obtain⟨vw,c1,c2,c3⟩:=hx j n hj;exact⟨vw,hc _ _ c1,hc _ _ c2,c3.kept hc⟩
mutual
theorem A6.kept {B:Nat} {w w':ZB} (hc:Cells w w'):∀ (f:CH.Formula) (v:ZC),A6 B w f v->A6 B w' f v
 |.mk _ _ _ _ kids,v,h=>by
  unfold A6 at h ⊢
  obtain⟨a,cap,h1,h2,h3,h4⟩:=h
  refine⟨a,cap,h1,h2,h3,fun hne=>?_⟩
  obtain⟨b,off,e,hlt,hr⟩:=h4 hne
  exact⟨b,off,e,hlt,dn.kept hc kids b off hr⟩
theorem dn.kept {B:Nat} {w w':ZB} (hc:Cells w w'):∀ (l:List CH.Formula) (b off:Nat),dn B w l b off->dn B w' l b off
 |[],_,_,_=>by unfold dn;trivial
 |f::l,b,off,h=>by
  unfold dn at h ⊢
  obtain⟨⟨vk,c0,c1,c2,c3,c4,hk⟩,hr⟩:=h
  exact⟨⟨vk,hc _ _ c0,hc _ _ c1,hc _ _ c2,hc _ _ c3,hc _ _ c4,A6.kept hc f vk hk⟩,dn.kept hc l b (off+5) hr⟩
end
theorem fJ.kept {B:Nat} {w w':ZB} {a:CH.Act} {s:eH} (h:fJ B w a s) (hc:Cells w w'):fJ B w' a s:=⟨h.names.kept hc,{ h.meas with kids:=A6.kept hc _ _ h.meas.kids },h.lm.kept hc,h.lp.kept hc,h.hj.kept hc,h.small⟩
theorem Gl.kept {w w':ZB} (h:Gl w) (hc:Cells w w') (hb:Below 9 w w'):Gl w':={
  size:=Af h.size hb.size
  db:=hc _ _ h.db
  pow10:=var?_below hb kR (g:=0) dC h.pow10
  utf8:=⟨fun c hlt=>hc _ _ (h.utf8.1 c hlt),fun i hi=>⟨hc _ _ (h.utf8.2 i hi).1,hc _ _ (h.utf8.2 i hi).2⟩⟩ }
theorem Gc.kept {w w':ZB} (h:Gc w) (hc:Cells w w') (hb:Below 9 w w'):Gc w':=by refine⟨h.gl.kept hc hb,?_⟩;obtain⟨R,oR,cap,h1,h2⟩:=h.rM;exact⟨R,oR,cap,hc _ _ h1,fun i hi=>⟨hc _ _ (h2 i hi).1,hc _ _ (h2 i hi).2.1,hc _ _ (h2 i hi).2.2.1,hc _ _ (h2 i hi).2.2.2.1,hc _ _ (h2 i hi).2.2.2.2⟩⟩
theorem Ry {B:Nat} {w:ZB} {a:CH.Act} {s:eH} (h:fJ B w a s):∀ v∈Av a s,v.oneCell'=true:=by obtain⟨vn,vk,vm,vp,vj⟩:=s;obtain⟨_,_,e1,_,_⟩:=h.names.form;obtain⟨_,_,e2,_,_,_⟩:=h.meas.kids.form;exact FD62
def G0 (B:Nat) (w:ZB) (v:ZC) (l:List CH.Act):Prop := ∃ a cap,v=.slice a l.length cap/\l.length<=cap/\cap<=9223372036854775807 /\ (l≠[]->∃ b off,a=some ⟨b,off,none⟩/\b<B/\∀ j x,l[j]?=some x->∃ s,(∀ i u,(Av x s)[i]?=some u->w.cell? ⟨b,off+j*37+i,none⟩=some u)/\fJ B w x s)
theorem G0.kept {B:Nat} {w w':ZB} {v:ZC} {l:List CH.Act} (h:G0 B w v l) (hc:Cells w w'):G0 B w' v l:=by obtain⟨a,cap,h1,h2,h3,h4⟩:=h;refine⟨a,cap,h1,h2,h3,fun hne=>?_⟩;obtain⟨b,off,e,hlt,hx⟩:=h4 hne;refine⟨b,off,e,hlt,fun j x hj=>?_⟩;obtain⟨s,c1,c2⟩:=hx j x hj;exact⟨s,fun i u hi=>hc _ _ (c1 i u hi),c2.kept hc⟩
theorem G0.below {B B':Nat} {w w':ZB} {v:ZC} {l:List CH.Act} (h:G0 B w v l) (hb:Below B' w w') (hB:B<=B'):G0 B w' v l:=by exact FD47
theorem G0.mono {B B':Nat} {w:ZB} {v:ZC} {l:List CH.Act} (h:G0 B w v l) (hB:B<=B'):G0 B' w v l:=by exact FD29
theorem G0.form {B:Nat} {w:ZB} {v:ZC} {l:List CH.Act} (h:G0 B w v l):∃ a cap,v=.slice a l.length cap/\l.length<=cap/\cap<=9223372036854775807:=by exact FD134
structure dI where
 va:ZC
 v1:ZC
 v2:ZC
def Al (v:CH.Version) (s:dI):List ZC:=[aJ v.authority,aJ v.number,aJ v.pos,aA v.prev,s.va,aJ v.sel.index,s.v1,s.v2]
structure qO (v:CH.Version):Prop where
 authority:I64 v.authority
 number:I64 v.number
 pos:I64 v.pos
 prev:v.prev.length<=10000
 index:I64 v.sel.index
 sig:Fd v.sel.sig
 path:Fd v.sel.path
structure aN (B:Nat) (w:ZB) (v:CH.Version) (s:dI):Prop where
 acts:G0 B w s.va v.acts
 sig:Strs B w s.v1 v.sel.sig
 path:Strs B w s.v2 v.sel.path
 small:qO v
theorem aN.kept {B:Nat} {w w':ZB} {v:CH.Version} {s:dI} (h:aN B w v s) (hc:Cells w w'):aN B w' v s:=⟨h.acts.kept hc,h.sig.kept hc,h.path.kept hc,h.small⟩
theorem aN.below {B B':Nat} {w w':ZB} {v:CH.Version} {s:dI} (h:aN B w v s) (hb:Below B' w w') (hB:B<=B'):aN B w' v s:=⟨h.acts.below hb hB,h.sig.below hb hB,h.path.below hb hB,h.small⟩
theorem aN.mono {B B':Nat} {w:ZB} {v:CH.Version} {s:dI} (h:aN B w v s) (hB:B<=B'):aN B' w v s:=⟨h.acts.mono hB,h.sig.mono hB,h.path.mono hB,h.small⟩
theorem aN.grow {w w':ZB} {v:CH.Version} {s:dI} (h:aN w w v s) (hb:Below w w w'):aN w' w' v s:=(h.below hb nR).mono hb.size
theorem U4 (m:bD) (vk:ZC) (w:ZB) (hG:Gl w) (hM:gG w w m vk) : ZE prog 44 #[.agg (A4 m vk).toArray] w (Ret w (bQ (cZ m))):=by
 obtain⟨R,hR⟩:∃ R,Hid (bQ (cZ m)=R):=⟨_,Aa rfl⟩
 rw [hR.out];have hRe:Hid (R=bQ (match bf m.aB with
  |none=>none
  |some t=>if aT m&&bg m then some (CH.join [32] (Fi m t)++[59]) else none)):=Aa (hR.out.symm.trans (congrArg bQ (Vc m)))
 clear hR;have T:=fun (W:ZB) (hb:Below w w W)=>U7 m.aB vk W (hG.below hb) ((hM.below hb nR).mono hb.size).kids hM.short hM.count hM.depth;obtain⟨ak,ck,rfl,hc1,hc2,hrow⟩:=hM.kids.form;clear hrow;have NM:=fun W=>I40 m ak m.aB.kids.length ck W (Af hM.id dC) (Af hM.authority dC) (Af hM.target dC);have DT:=fun W=>I60 m ak m.aB.kids.length ck W;generalize m.aB.kids.length=nk at *;obtain⟨ft,hft⟩:∃ r,bf m.aB=r:=⟨_,rfl⟩
 obtain⟨b1,h1⟩:∃ r,aT m=r:=⟨_,rfl⟩
 obtain⟨b2,h2⟩:∃ r,bg m=r:=⟨_,rfl⟩
 rw [hft] at T hRe;rw [h1] at NM hRe;rw [h2] at DT hRe;replace T:=Aa T;replace NM:=Aa NM;replace DT:=Aa DT;have hM:=Aa hM;have hB0:=fun o=>(Ac _ w).alloc nR o;have hW:=fun o=>Ap w o;dsimp only [A4,An] at T NM DT ⊢;obtain⟨O,hO⟩:∃ o:Obj,Hid (o=.cells #[↑m.id,↑m.authority,↑m.kind,↑m.target,↑m.aB.op,↑m.aB.name,↑m.aB.cmp,↑m.aB.n,.slice ak nk ck,↑m.start,↑m.aF,↑m.dN] 59):=⟨_,Aa rfl⟩
 have CB:∀ (W:ZB),W.heap[w.heap.size]?=some (.cells #[↑m.id,↑m.authority,↑m.kind,↑m.target,↑m.aB.op,↑m.aB.name,↑m.aB.cmp,↑m.aB.n,.slice ak nk ck,↑m.start,↑m.aF,↑m.dN] 59) ->
   ∀ i,W.cell? ⟨w,i,none⟩=#[↑m.id,↑m.authority,↑m.kind,↑m.target,↑m.aB.op,↑m.aB.name,↑m.aB.cmp,↑m.aB.n,.slice ak nk ck,↑m.start,↑m.aF,↑m.dN][i]?:=fun W h i=>Ab h i
 replace CB:=Aa CB;cases ft with
 |none =>obtain rfl:=hRe.out;dsimp only [bQ] at T ⊢;clear NM DT;go_enter func44,ntmps44;go_wp2_with fail;refine (T.out _ (hB0 _)).mono ?_;rintro e w1 ⟨rfl,hb1⟩;clear T;go_wp2;refine Ag (Am rfl _ _ _) rfl ?_;exact FD106
 |some t =>
  dsimp only [bQ] at T;go_enter func44,ntmps44;go_wp2_with fail;refine (T.out _ (hB0 _)).mono ?_;rintro e w1 ⟨rfl,hb1⟩;have hB1:Below w w w1:=(hB0 _).trans (hb1.mono sM);have hk1:=(hb1.block w sM).trans (hW _);clear T hb1 hB0 hW;have c1:=CB.out w1 hk1;replace hk1:=Aa hk1;go_wp2_with fail;refine (NM.out _).mono ?_;rintro e w2 ⟨rfl,hb2⟩;have hB2:Below w w w2:=hB1.trans (hb2.mono hB1.size);have hk2:=(hb2.block w (aZ hk1.out)).trans hk1.out;clear NM c1 hb2 hB1 hk1;have c2:=CB.out w2 hk2;replace hk2:=Aa hk2;cases b1 with
  |false =>obtain rfl:=hRe.out;clear DT;exact FD95
  |true =>
   go_wp2_with fail;refine (DT.out _).mono ?_;rintro e w3 ⟨rfl,hb3⟩;have hB3:Below w w w3:=hB2.trans (hb3.mono hB2.size);have hk3:=(hb3.block w (aZ hk2.out)).trans hk2.out;have hl3:w.heap.size<w3.heap.size:=(aZ hk3)
   clear DT c2 hb3 hB2 hk2;have c3:=CB.out w3 hk3;replace hk3:=Aa hk3;cases b2 with
   |false =>obtain rfl:=hRe.out;go_wp2;refine Ag (Am rfl _ _ _) rfl ?_;exact⟨rfl,hB3⟩
   |true =>
    have hkd:m.kind=1\/m.kind=2\/m.kind=3:=by
     unfold aT at h1;dsimp only at h1;by_cases q1:m.kind=1;·exact .inl q1
     by_cases q2:m.kind=2;·exact .inr (.inl q2)
     by_cases q3:m.kind=3;·exact .inr (.inr q3)
     rw [Ah q1,Ah q2,Ah q3] at h1;cases h1
    have hmm:=@Iz prog;obtain⟨kw,hkw⟩:∃ kw,Hid (dP m.kind=kw):=⟨_,Aa rfl⟩
    obtain⟨o1,o2,o3,u1,u2,u3,um⟩:=Sg (w3.alloc (.cells #[.slice none 0 0] 25)) 1 2 3 ([102,111,114,98,105,100]:List UInt8) ([101,120,101,109,112,116]:List UInt8) ([98,108,111,99,107]:List UInt8) rfl rfl rfl;have ul:=Dr M8 underlying104 (.string ⟨#[]⟩) Vd um m.kind;have ule:((Cn m.kind [((1:Int),aA ([102,111,114,98,105,100]:List UInt8)),(2,aA ([101,120,101,109,112,116]:List UInt8)),(3,aA ([98,108,111,99,107]:List UInt8))] 0).map (·.2)).getD (.string ⟨#[]⟩)=↑kw:=by rw [<- hkw.out];rcases hkd with e|e|e <;> rw [e] <;> rfl
    rw [ule] at ul;rw [Dn] at u1 u2 u3 ul um;have hp:∀ k,k≠w3.heap.size+1->(((((w3.alloc (.cells #[.slice none 0 0] 25)).alloc (.map #[] 0)).putObj (w3.heap.size+1) o1).putObj (w3.heap.size+1) o2).putObj (w3.heap.size+1) o3).heap[k]?=((w3.alloc (.cells #[.slice none 0 0] 25)).alloc (.map #[] 0)).heap[k]?:=fun k hk=>by rw [World.putObj_heap_other hk,World.putObj_heap_other hk,World.putObj_heap_other hk]
    have hBW:Below w3 w3 (((((w3.alloc (.cells #[.slice none 0 0] 25)).alloc (.map #[] 0)).putObj (w3.heap.size+1) o1).putObj (w3.heap.size+1) o2).putObj (w3.heap.size+1) o3):=Bw (Bw (Bw (((Ac _ w3).alloc nR _).alloc sM _) oM _) oM _) oM _;have hwA:Cx w3 w3 (((((w3.alloc (.cells #[.slice none 0 0] 25)).alloc (.map #[] 0)).putObj (w3.heap.size+1) o1).putObj (w3.heap.size+1) o2).putObj (w3.heap.size+1) o3) []:=Cap (by rw [hp _ oM];simp only [World.alloc,Dl,Ed];rw [Ah oM,Ar trivial]);have hk4:=(hBW.block w hl3).trans hk3.out;have c4:=CB.out _ hk4;have hXs:(((((w3.alloc (.cells #[.slice none 0 0] 25)).alloc (.map #[] 0)).putObj (w3.heap.size+1) o1).putObj (w3.heap.size+1) o2).putObj (w3.heap.size+1) o3).heap.size=w3.heap.size+1+1:=sM;clear hp um hkd c3;replace hwA:=Aa hwA;replace hBW:=Aa hBW;replace hk4:=Aa hk4;replace hXs:=Aa hXs;go_wp2_with fail;rw [<- hXs.out];clear u1 u2 u3 ul c4 hmm hXs;generalize (((((w3.alloc (.cells #[.slice none 0 0] 25)).alloc (.map #[] 0)).putObj (w3.heap.size+1) o1).putObj (w3.heap.size+1) o2).putObj (w3.heap.size+1) o3)=X at *;have BX:∀ (W W':ZB),Below w3 w3 W->Below w3 W W'->Below w3 w3 W'/\w3.heap.size<=W'.heap.size/\∀ i,W'.cell? ⟨w,i,none⟩=#[↑m.id,↑m.authority,↑m.kind,↑m.target,↑m.aB.op,↑m.aB.name,↑m.aB.cmp,↑m.aB.n,.slice ak nk ck,↑m.start,↑m.aF,↑m.dN][i]?:=fun W W' h1 h2=>by have h3:=h1.trans h2;exact⟨h3,h3.size,CB.out W' ((h3.block w hl3).trans hk3.out)⟩
    replace BX:=Aa BX;refine (Pp _ [kw] [] w3.heap.size w3 X hwA.out sM 1 rfl _ rfl).mono ?_;rintro e w4 ⟨rfl,hA4,hb4,_⟩;obtain⟨hB4,hs4,c4⟩:=BX.out _ _ hBW.out ((((Ac _ X).alloc hBW.out.size _)).trans hb4);obtain⟨L4,hL4⟩:∃ L,Hid (fO true [] [kw]=L):=⟨_,Aa rfl⟩
    rw [hL4.out] at hA4;replace hA4:=Aa hA4;replace hB4:=Aa hB4;have hn4:L4.length<=1:=by rw [<- hL4.out];simp [fO]
    clear hb4 hwA hBW hk4;go_wp2_with fail;refine (Pp _ [m.target] L4 w3 w3 w4 hA4.out (by simp;omega) 1 rfl _ rfl).mono ?_;rintro e w5 ⟨rfl,hA5,hb5,_⟩;obtain⟨hB5,hs5,c5⟩:=BX.out _ _ hB4.out ((((Ac _ w4).alloc hB4.out.size _)).trans hb5);obtain⟨L5,hL5⟩:∃ L,Hid (fO (!List.isEmpty m.target) L4 [m.target]=L):=⟨_,Aa rfl⟩
    rw [hL5.out] at hA5;replace hA5:=Aa hA5;replace hB5:=Aa hB5;have hn5:L5.length<=2:=by rw [<- hL5.out];exact Af (Sf _ _ _) (by simp only [Ba,Bj];omega)
    clear hb5 c4 hA4;go_wp2_with fail;refine (Pp _ [m.id,([111,102]:List UInt8),m.authority] L5 w3 w3 w5 hA5.out (by simp;omega) 3 rfl _ rfl).mono ?_;rintro e w6 ⟨rfl,hA6,hb6,_⟩;obtain⟨hB6,hs6,c6⟩:=BX.out _ _ hB5.out ((((Ac _ w5).alloc hB5.out.size _)).trans hb6);obtain⟨L6,hL6⟩:∃ L,Hid (fO true L5 [m.id,([111,102]:List UInt8),m.authority]=L):=⟨_,Aa rfl⟩
    rw [hL6.out] at hA6;replace hA6:=Aa hA6;replace hB6:=Aa hB6;have hn6:L6.length<=5:=by rw [<- hL6.out];exact Af (Sf _ _ _) (by simp only [Ba,Bj];omega)
    clear hb6 c5 hA5;go_wp2_with fail;refine (Pp _ [([105,102]:List UInt8),t] L6 w3 w3 w6 hA6.out (by simp;omega) 2 rfl _ rfl).mono ?_;rintro e w7 ⟨rfl,hA7,hb7,_⟩;obtain⟨hB7,hs7,c7⟩:=BX.out _ _ hB6.out ((((Ac _ w6).alloc hB6.out.size _)).trans hb7);obtain⟨L7,hL7⟩:∃ L,Hid (fO (m.aB.op != 1) L6 [([105,102]:List UInt8),t]=L):=⟨_,Aa rfl⟩
    rw [hL7.out] at hA7;replace hA7:=Aa hA7;replace hB7:=Aa hB7;have hn7:L7.length<=7:=by rw [<- hL7.out];exact Af (Sf _ _ _) (by simp only [Ba,Bj];omega)
    clear hb7 c6 hA6;have hGW:∀ W,Below w3 w3 W->Gl W:=fun W hb=>hG.below (hB3.trans (hb.mono hB3.size));have l9:=hM.out.nums;have I1:=Aa fun (W:ZB) (hg:Gl W)=>Hd m.start W l9.s.1 l9.s.2 hg;have I2:=Aa fun (W:ZB) (hg:Gl W)=>Hd m.aF W l9.u.1 l9.u.2 hg;have I3:=Aa fun (W:ZB) (hg:Gl W)=>Hd m.dN W l9.w.1 l9.w.2 hg;clear l9;replace hGW:=Aa hGW;go_wp2_with fail;refine (I1.out _ (hGW.out _ hB7.out)).mono ?_;rintro e w7b ⟨rfl,xR⟩;clear I1;go_wp2_with fail;refine (Pp _ [([102,114,111,109]:List UInt8),ZK m.start] L7 w3 w3 w7b (hA7.out.below xR) (by simp;omega) 2 rfl _ rfl).mono ?_;rintro e w8 ⟨rfl,hA8,hb8,_⟩;obtain⟨hB8,hs8,c8⟩:=BX.out _ _ (hB7.out.trans (xR.mono hB7.out.size)) ((((Ac _ w7b).alloc (hB7.out.trans (xR.mono hB7.out.size)).size _)).trans hb8);obtain⟨L8,hL8⟩:∃ L,Hid (fO true L7 [([102,114,111,109]:List UInt8),ZK m.start]=L):=⟨_,Aa rfl⟩
    rw [hL8.out] at hA8;replace hA8:=Aa hA8;replace hB8:=Aa hB8;have hn8:L8.length<=9:=by rw [<- hL8.out];exact Af (Sf _ _ _) (by simp only [Ba,Bj];omega)
    clear hb8 c7 hA7;have SS9:∀ W',Below w3 w8 W'->W'.cell? ⟨w,10,none⟩=some ↑m.aF:=fun W' hb=>(hb.cell (p:=⟨w,10,none⟩) hl3).trans (c8 10);have hD9:Below w3 w8 w8.drew:=(Ac _ w8).drew;have AQ:=hGW.out _ (hB8.out.trans hD9);have vY:=hA8.out.below (Ac w8 w8).drew;replace SS9:=Aa SS9;replace vY:=Aa vY;go_wp2_with fail;go_region_held3 (fun W'=>W'.cell? ⟨w,10,none⟩=some ↑m.aF) ((refine SS9.out _ ?_;first|exact hU9|exact hT9.alloc hV9 _|exact hT9|exact hD9)) (first |(go_at_call 101;refine (I2.out _ AQ).mono ?_;rintro e wI9 ⟨rfl,xQ⟩;have hT9:Below w3 w8 wI9:=hD9.trans (xQ.mono (by simp;exact hs8));have hV9:w3.heap.size<=wI9.heap.size:=by (have:=hT9.size;omega)) |(go_at_call 107;refine (Pp _ [([117,110,116,105,108]:List UInt8),ZK m.aF] L8 w3 w3 wI9 (vY.out.below xQ) (by simp;omega) 2 rfl _ rfl).mono ?_;rintro e w9 ⟨rfl,hA9,hb9,_⟩;have hU9:Below w3 w8 w9:=(hT9.alloc hV9 _).trans hb9))
    obtain⟨hB9,hs9,c9⟩:=BX.out _ _ hB8.out hU9;obtain⟨L9,hL9⟩:∃ L,Hid (fO (ZH (0<=m.aF)) L8 [([117,110,116,105,108]:List UInt8),ZK m.aF]=L):=⟨_,Aa rfl⟩
    rw [hL9.out] at hA9;replace hA9:=Aa hA9;replace hB9:=Aa hB9;have hn9:L9.length<=11:=by rw [<- hL9.out];exact Af (Sf _ _ _) (by simp only [Ba,Bj];omega)
    clear hb9 c8 hA8 hU9 hT9 xQ vY AQ I2;have yD:∀ W',Below w3 w9 W'->W'.cell? ⟨w,11,none⟩=some ↑m.dN:=fun W' hb=>(hb.cell (p:=⟨w,11,none⟩) hl3).trans (c9 11);have yh:Below w3 w9 w9.drew:=(Ac _ w9).drew;have wJ:=hGW.out _ (hB9.out.trans yh);have su:=hA9.out.below (Ac w9 w9).drew;replace yD:=Aa yD;replace su:=Aa su;go_wp2_with fail;go_region_held3 (fun W'=>W'.cell? ⟨w,11,none⟩=some ↑m.dN) ((refine yD.out _ ?_;first|exact xZ|exact uO.alloc zZ _|exact uO|exact yh)) (first |(go_at_call 101;refine (I3.out _ wJ).mono ?_;rintro e wR ⟨rfl,uH⟩;have uO:Below w3 w9 wR:=yh.trans (uH.mono (by simp;exact hs9));have zZ:w3.heap.size<=wR.heap.size:=by (have:=uO.size;omega)) |(go_at_call 107;refine (Pp _ [([119,105,110,100]:List UInt8),ZK m.dN] L9 w3 w3 wR (su.out.below uH) (by simp;omega) 2 rfl _ rfl).mono ?_;rintro e w10 ⟨rfl,hA10,oL,_⟩;have xZ:Below w3 w9 w10:=(uO.alloc zZ _).trans oL))
    obtain⟨yt,hs10,c10⟩:=BX.out _ _ hB9.out xZ;obtain⟨L10,yc⟩:∃ L,Hid (fO (ZH (0<m.dN)) L9 [([119,105,110,100]:List UInt8),ZK m.dN]=L):=⟨_,Aa rfl⟩
    rw [yc.out] at hA10;replace hA10:=Aa hA10;replace yt:=Aa yt;have EO:L10.length<=13:=by rw [<- yc.out];exact Af (Sf _ _ _) (by simp only [Ba,Bj];omega)
    clear oL c9 hA9 xZ uO uH su wJ I3;obtain⟨v,hv,hO,_,_⟩:=hA10.out;obtain⟨av,cv,rfl,_,_,_⟩:=hO.form;have c11:w10.cell? ⟨w3,0,none⟩=some (.slice av L10.length cv):=Ab hv 0;have hL:L10=Fi m t:=by have te:=Hk m.target;rw [<- yc.out,<- hL9.out,<- hL8.out,<- hL7.out,<- hL6.out,<- hL5.out,<- hL4.out,<- hkw.out];unfold Fi;rw [te,Bool.not_not]
    have htl:=Tl hft hM.out.short;have vX:dU 6000000 L10:=by
     rw [hL];have i1:=Lib.itoa_length_le m.start hM.out.nums.s.1 hM.out.nums.s.2;have i2:=Lib.itoa_length_le m.aF hM.out.nums.u.1 hM.out.nums.u.2;have i3:=Lib.itoa_length_le m.dN hM.out.nums.w.1 hM.out.nums.w.2;have hid:=hM.out.id;have hau:=hM.out.authority;have htg:=hM.out.target;have hkl:(dP m.kind).length<=6:=by (unfold dP;repeat' split);all_goals decide
     exact FD61
    have hjl:(CH.join [32] L10).length<=100000000:=by have:=K7 [32] 6000000 L10 vX;have h13:L10.length*(6000000+[(32:UInt8)].length)<=13*(6000000+1):=Dh _ EO;omega
    have J:=Aa (Ml _ L10 [32] w10 hO.strs oM oM);have hRf:Hid (R=bQ (some (CH.join [32] L10++[59]))):=Aa (by rw [hRe.out,hL];rfl);generalize CH.join [32] L10=JJ at *;generalize L10.length=LL at *;have l1:¬ (9223372036854775807<JJ.length+1):=oM;clear hO hv vX hL hRe hA10 c10;go_wp2_with fail;refine J.out.mono ?_;rintro e w11 ⟨rfl,FQ⟩;clear J c11;go_wp2;refine Ag (Am rfl _ _ _) rfl ?_;have wK:Below w w w10:=hB3.trans (yt.out.mono hB3.size);refine⟨?_,wK.trans (FQ.mono wK.size)⟩;rw [hRf.out];unfold bQ;dsimp only;rw [<- bytes_append];rfl
def Nt (xs:List (CH.Version × dI)):List ZC:=xs.flatMap fun x=>Al x.1 x.2
theorem Ly {B:Nat} {w:ZB} {v:CH.Version} {s:dI} (h:aN B w v s):∀ u∈Al v s,u.oneCell'=true:=by obtain⟨va,v1,v2⟩:=s;obtain⟨_,_,e1,_,_⟩:=h.acts.form;obtain⟨_,_,e2,_,_⟩:=h.sig.form;obtain⟨_,_,e3,_,_⟩:=h.path.form;change va=_ at e1;change v1=_ at e2;change v2=_ at e3;intro u hu;simp only [Al,A8,Az,Df] at hu;exact FD120
def Lb (base B:Nat) (w:ZB) (v:ZC) (ls:List CH.Version):Prop := ∃ xs:List (CH.Version × dI),xs.map (·.1)=ls/\w.ownsRow base 29 8 v ls.length (Nt xs)/\(∀ x∈xs,aN B w x.1 x.2)/\B<=base/\base<=w.heap.size
theorem Lb.nil {base B:Nat} {w:ZB} (hB:B<=base) (hb:base<=w.heap.size):Lb base B w (.slice none 0 0) []:=⟨[],rfl,Jj w base _ _,(fun _ h=>by cases h),hB,hb⟩
theorem Lb.below {base B:Nat} {w w':ZB} {v:ZC} {ls:List CH.Version} (h:Lb base B w v ls) (hb:Below w w w'):Lb base B w' v ls:=by obtain⟨xs,h1,h2,h3,h4,h5⟩:=h;exact⟨xs,h1,Ff h2 hb,fun x hx=>(h3 x hx).below hb (Af h4 h5),h4,Af h5 hb.size⟩
theorem L4i:(prog.info? 29).map (fun i=>(i.zero,i.size,i.bytes))=some (some (.agg #[.int .i64 0,.int .i64 0,.int .i64 0,.string ⟨#[]⟩,.slice none 0 0,.int .i64 0,.slice none 0 0,.slice none 0 0]),8,120):=kR
theorem _root_.Go.World.grownBy.cells {w w':ZB} {row:Option Nat} (h:w.grownBy w' row) {p:Addr} {v:ZC} (hp:w.cell? p=some v) (hne:row≠some p.block):w'.cell? p=some v:=by rw [Wg (h.block _ (Em w p hp) hne.symm)];exact hp
theorem Fm8 {w:ZB} {ops:Array Oper} {rest:List Oper} {o:Oper} {a:Act} {Q:Exit->Act->ZB->Prop} (hgd:o.guard=none) (s x:Operand) (ho:o.op=.call { callee:=.builtin .append,args:=#[s,x],argTypes:=#[143,143] }) (base:Nat) (v:ZC) (n:Nat) (xs:List ZC) (hs:a.eval s=v) (hown:w.ownsRow base 29 8 v n xs) (vx:ZC) (m:Nat) (news:List ZC) (hx:a.eval x=vx) (hX:H1n w vx m news) (hl:news.length=m*8) (h1:∀ u∈news,u.oneCell'=true) (hlen:n+m<=1000000) (hbase:base<=w.heap.size) (h:∀ v' w',w'.ownsRow base 29 8 v' (n+m) (xs++news)->w.grownBy w' v.ownBlock->(v'.ownBlock=v.ownBlock\/v'.ownBlock=some w.heap.size)->wpList prog ops Q rest (a.put o.dst v') w') : wpList prog ops Q (o::rest) a w:=by
 obtain⟨i,hi,hz0,hz1,hz2⟩:=I7 L4i;refine Pr w hgd s x 143 ho base 29 i _ 8 120 underlying143 hi hz0 hz1 hz2 rfl dC v n _ hs hown vx m news hx hX hl h1 ?_ ?_ hbase h;·exact FD143
 ·omega
end
end Go.Proofs.YtdgmgjeoikcgbaaGreatDoor
namespace CH
def uX (a b:Int):Int:=if a<b then -1 else if b<a then 1 else 0
end CH
namespace Go.Proofs.YtdgmgjeoikcgbaaGreatDoor
open Go.RowKit Go.Lib Go.Shelf Go.Sort CH
structure VP where
 v:CH.Version
 a1:Option Addr
 n1:Nat
 c1:Nat
 a2:Option Addr
 n2:Nat
 c2:Nat
 a3:Option Addr
 n3:Nat
 c3:Nat
def VP.s (x:VP):dI:=⟨.slice x.a1 x.n1 x.c1,.slice x.a2 x.n2 x.c2,.slice x.a3 x.n3 x.c3⟩
instance : Inhabited VP := ⟨⟨default, none, 0, 0, none, 0, 0, none, 0, 0⟩⟩
theorem Ti (a:Int) (w:ZB):ZE Tryz.prog 152 #[↑a] w (fun e w'=>e=.returned (.bool false)/\w=w'):=by have q:(a != a)=false:=sM;go_enter Tryz.func152,Tryz.ntmps152;exact FD40
theorem Uo (a b:Int) (w:ZB):ZE Tryz.prog 96 #[↑a,↑b] w (fun e w'=>e=.returned (.int .i64 (uX a b))/\w=w'):=by
 obtain⟨r,hr⟩:∃ r,uX a b=r:=⟨_,rfl⟩
 rw [hr];unfold uX at hr;rcases (oM:a<b\/(¬ a<b/\b<a)\/(¬ a<b/\¬ b<a)) with h|⟨h,h'⟩|⟨h,h'⟩;·rw [Ar h] at hr;subst hr;have q:ZH (a<b)=true:=Aj h;exact FD50
 ·rw [Ah h,Ar h'] at hr;subst hr;have q:ZH (a<b)=false:=Ak h;have q':ZH (b<a)=true:=Aj h';exact FD50
 ·rw [Ah h,Ah h'] at hr;subst hr;have q:ZH (a<b)=false:=Ak h;have q':ZH (b<a)=false:=Ak h';exact FD50
end Go.Proofs.YtdgmgjeoikcgbaaGreatDoor
namespace Go.Proofs.YtdgmgjeoikcgbaaGreatDoor
section
open Go.Lib Go.Proofs.Tryz Go.RowKit Go.Shelf Go.Sort CH
section
open CH
variable {α β:Type} [Inhabited α] [Inhabited β] (f:α->β) (lt:β->β->Bool) (hd:f default=default)
end
end
end Go.Proofs.YtdgmgjeoikcgbaaGreatDoor
