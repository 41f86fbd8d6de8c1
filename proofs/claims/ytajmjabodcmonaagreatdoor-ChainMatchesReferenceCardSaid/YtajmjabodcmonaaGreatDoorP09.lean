/- ChainMatch, part 10 of 26. -/
import Derived.Test.YtajmjabodcmonaaGreatDoorP06
import Derived.Test.YtajmjabodcmonaaGreatDoorP07
import Derived.Test.YtajmjabodcmonaaGreatDoorP08
import Derived.Shelf.SlSortCmp.InsertionK
set_option linter.all false
set_option maxHeartbeats 40000000
set_option maxRecDepth 100000
open Go renaming undef -> ZA, World -> ZB, Value -> ZC, Calls -> ZE, redrawn -> ZI
open Go.RowKit renaming intOf -> ZG
open Decidable renaming decide -> ZH
open Go.Lib renaming itoa -> ZK
namespace Go.Proofs.Y
section
open Go.Lib Go.Proofs.Tryz Go.RowKit Go.Shelf Go.Sort CH
variable {ls:List Q00} {B B':Nat} {w w':ZB} {R:List Nat}
theorem Pw (op:Int) (x:CH.Formula) (h:(x.op==6||x.op==5&&op != 6)=true):A4 op x=[40]++x.text++[41]:=by unfold A4;rw [if_pos h]
theorem Sh (op:Int) (x:CH.Formula) (h:(x.op==6||x.op==5&&op != 6)=false):A4 op x=x.text:=by unfold A4;rw [if_neg (by rw [h];simp)]
def Tm (f:CH.Formula):Prop:=∀ x∈f.kids,∀ (vx:ZC) (W:ZB),Ay W W x vx->Gl W->ZE prog 170 #[.agg (Ao x vx)] W (Ret W ↑x.text)
theorem Kg8 (f:CH.Formula) (vk:ZC) (w:ZB) (hG:Gl w) (hK:Ay w w f vk) (hop:f.op=5) (hlen:f.kids.length<=100000) (hxl:∀ x∈f.kids,x.text.length<=3000000000) (hIH:Tm f) (hJl:(CH.join ([32,97,110,100,32]:Q00) (f.kids.map (A4 5))).length<=140737488355328):ZE prog 170 #[.agg (Ao f vk)] w (Ret w ↑f.text):=by
 obtain⟨R,hR⟩:∃ R,Hid (f.text=R):=⟨_,Aa rfl⟩
 rw [hR.out];obtain⟨ak,ck,rfl,hc1,hc2,hrow⟩:=hK.form;replace hrow:=Aa hrow;replace hIH:=Aa hIH;replace hxl:=Aa hxl;generalize hKN:f.kids.length=KN at *;replace hKN:=Aa hKN;dsimp only [Ao];rw [hop];replace hop:=Aa hop;have hB0:=(Ac _ w).alloc nR (.cells #[.int .i64 5,↑f.name,↑f.cmp,↑f.n,.slice ak KN ck] 67);have hblk:=Aw w (.cells #[.int .i64 5,↑f.name,↑f.cmp,↑f.n,.slice ak KN ck] 67);have hs1:(w.alloc (.cells #[.int .i64 5,↑f.name,↑f.cmp,↑f.n,.slice ak KN ck] 67)).heap.size=w.heap.size+1:=sM;clear hK;go_enter func170,ntmps170;go_wp2_with fail;generalize w.alloc (.cells #[.int .i64 5,↑f.name,↑f.cmp,↑f.n,.slice ak KN ck] 67)=w1 at *;replace hs1:=Aa hs1;replace hblk:=Aa hblk;go_loopw [3,31] (fun lv iv wr=>∃ j:Nat,j<=KN/\iv=↑j/\Hid (At (w+1) wr lv ((f.kids.take j).map (A4 5)))/\Hid (Below (w+1) w1 wr)) (fun _ iv _=>KN - (ZG iv).toNat);case atStart=>exact⟨0,Az _,rfl,Aa (At.nil _ _),Aa (Ac _ _)⟩
 case round =>
  obtain⟨j,hj,rfl,hO,hb⟩:=hrel;have hB:Below w w wr:=hB0.trans (hb.out.mono oM);have hsz:w.heap.size+1<=wr.heap.size:=by have:=hb.out.size;have:=hs1.out;omega
  have m0:wr.cell? ⟨w,0,none⟩=some (.int .i64 5):=(hb.out.cell (p:=⟨w,0,none⟩) (Fj _)).trans (Ab hblk.out 0);obtain⟨a3,c3,rfl,hf1,hf2,hf3⟩:=hO.out.form;replace hf3:=Aa hf3;by_cases hlt:j<KN
  ·obtain⟨x,hx⟩:∃ x,f.kids[j]?=some x:=⟨_,Ad (by rw [hKN.out];omega)⟩
   obtain⟨bb,off,rfl,hblt,hcs⟩:=hrow.out (fun e=>by have:=hKN.out;rw [e] at this;simp at this;omega);obtain⟨vx,c0,c1,c2,c3',c4,hkx⟩:=dw.get _ _ _ _ _ hcs hx;have hc:=fun o=>hB.cell (p:=⟨bb,o,none⟩) hblt;have e0:=(hc _).trans c0;have e1:=(hc _).trans c1;have e2:=(hc _).trans c2;have e3:=(hc _).trans c3';have e4:=(hc _).trans c4;have hmem:x∈f.kids:=Ap hx;have hxt:=hxl.out x hmem;have IH:=Aa fun (W:ZB) (hbW:Below w w W)=>hIH.out x hmem vx W (Ay.mono hbW.size _ _ (Ay.below hbW nR _ _ hkx)) (hG.below hbW);have hts:Hid ((f.kids.take (j+1)).map (A4 5)=(f.kids.take j).map (A4 5)++[A4 5 x]):=Aa (by rw [aI f.kids j x hx];simp);obtain⟨ax,cx,rfl,_,_⟩:=hkx.form;have hLl:((f.kids.take j).map (A4 5)).length=j:=by have:=hKN.out;simp;omega
   replace hLl:=Aa hLl;generalize hL:(f.kids.take j).map (A4 5)=L at *;have hkP:=Pw 5 x;have hkB:=Sh 5 x;replace hkP:=Aa hkP;replace hkB:=Aa hkB;generalize hKT:A4 5 x=KT at *;replace hL:=Aa hL;replace hKT:=Aa hKT;generalize x.kids.length=xn at *;generalize x.text=T at *;clear c0 c1 c2 c3' c4 hc hcs hkx hmem hx;dsimp only [Ao] at IH;go_wp2_with fail;refine CmZ (IH.out _ (hB.alloc hB.size _)) fun w2 hb2=>?_;have hblk2:=(hb2.block wr sM).trans (Aw wr _);have n0:w2.cell? ⟨wr,0,none⟩=some ↑x.op:=Ab hblk2 0;have n1:w2.cell? ⟨w,0,none⟩=some (.int .i64 5):=(hb2.cell (p:=⟨w,0,none⟩) (by simp;omega)).trans (by rw [G6 _ _ _ (by rw [m0];rfl)];exact m0);have hO2:Hid (At (w+1) w2 (.slice a3 L.length c3) L):=Aa ((hO.out.alloc _).below hb2);have hB2:Hid (Below (w+1) w1 w2):=Aa ((hb.out.alloc oM _).trans (hb2.mono (by simp;omega)));have hs2:w.heap.size+1<=w2.heap.size:=by have:=hB2.out.size;have:=hs1.out;omega
   clear IH hb2 hblk2 e0 e1 e2 e3 e4 m0 hO hb hB;have STEP:∀ (v':ZC) (w3:ZB) (o:Obj),At (w+1) w3 v' (L++[KT])->(w2.alloc o).grownBy w3 (Value.slice a3 L.length c3).ownBlock->Hid (At (w+1) w3 v' ((f.kids.take (j+1)).map (A4 5)))/\Hid (Below (w+1) w1 w3):=fun v' w3 o h1 h2 =>⟨Aa (by rw [hts.out];exact h1),Aa ((hB2.out.alloc hs2 _).grown h2 (by simp;omega) (fun j hj=>(Dw hO2.out j hj).1))⟩
   replace STEP:=Aa STEP;obtain⟨b6,p6⟩:∃ b,(x.op==6)=b:=⟨_,rfl⟩
   obtain⟨b5,p5⟩:∃ b,(x.op==5)=b:=⟨_,rfl⟩
   have hpar:Hid ((x.op==6||x.op==5&&(5:Int) != 6)=(b6||b5&&(5:Int) != 6)):=Aa (by rw [p6,p5]);exact FD85
  ·obtain rfl:j=KN:=oM;have htk:f.kids.take j=f.kids:=by rw [<- hKN.out,Dn]
   clear hf3;rw [htk] at hO hf1 ⊢;clear htk;have hO:Hid (At (w+1) wr (.slice a3 (f.kids.map (A4 5)).length c3) (f.kids.map (A4 5))):=hO;have J:=Aa (Lx _ (f.kids.map (A4 5)) ([32,97,110,100,32]:Q00) wr hO.out.strs (by have:=hKN.out;simp;omega) hJl);have hRe:Hid (CH.join ([32,97,110,100,32]:Q00) (f.kids.map (A4 5))=R):=Aa (by rw [<- hR.out,text_eq,hop.out];rfl);generalize (f.kids.map (A4 5)).length=LL at *;generalize CH.join ([32,97,110,100,32]:Q00) (f.kids.map (A4 5))=JJ at *;exact FD90
theorem Kf8 (f:CH.Formula) (vk:ZC) (w:ZB) (hG:Gl w) (hK:Ay w w f vk) (hop:f.op=6) (hlen:f.kids.length<=100000) (hxl:∀ x∈f.kids,x.text.length<=3000000000) (hIH:Tm f) (hJl:(CH.join ([32,111,114,32]:Q00) (f.kids.map (A4 6))).length<=140737488355328):ZE prog 170 #[.agg (Ao f vk)] w (Ret w ↑f.text):=by
 obtain⟨R,hR⟩:∃ R,Hid (f.text=R):=⟨_,Aa rfl⟩
 rw [hR.out];obtain⟨ak,ck,rfl,hc1,hc2,hrow⟩:=hK.form;replace hrow:=Aa hrow;replace hIH:=Aa hIH;replace hxl:=Aa hxl;generalize hKN:f.kids.length=KN at *;replace hKN:=Aa hKN;dsimp only [Ao];rw [hop];replace hop:=Aa hop;have hB0:=(Ac _ w).alloc nR (.cells #[.int .i64 6,↑f.name,↑f.cmp,↑f.n,.slice ak KN ck] 67);have hblk:=Aw w (.cells #[.int .i64 6,↑f.name,↑f.cmp,↑f.n,.slice ak KN ck] 67);have hs1:(w.alloc (.cells #[.int .i64 6,↑f.name,↑f.cmp,↑f.n,.slice ak KN ck] 67)).heap.size=w.heap.size+1:=sM;clear hK;go_enter func170,ntmps170;go_wp2_with fail;generalize w.alloc (.cells #[.int .i64 6,↑f.name,↑f.cmp,↑f.n,.slice ak KN ck] 67)=w1 at *;replace hs1:=Aa hs1;replace hblk:=Aa hblk;go_loopw [3,31] (fun lv iv wr=>∃ j:Nat,j<=KN/\iv=↑j/\Hid (At (w+1) wr lv ((f.kids.take j).map (A4 6)))/\Hid (Below (w+1) w1 wr)) (fun _ iv _=>KN - (ZG iv).toNat);case atStart=>exact⟨0,Az _,rfl,Aa (At.nil _ _),Aa (Ac _ _)⟩
 case round =>
  obtain⟨j,hj,rfl,hO,hb⟩:=hrel;have hB:Below w w wr:=hB0.trans (hb.out.mono oM);have hsz:w.heap.size+1<=wr.heap.size:=by have:=hb.out.size;have:=hs1.out;omega
  have m0:wr.cell? ⟨w,0,none⟩=some (.int .i64 6):=(hb.out.cell (p:=⟨w,0,none⟩) (Fj _)).trans (Ab hblk.out 0);obtain⟨a3,c3,rfl,hf1,hf2,hf3⟩:=hO.out.form;replace hf3:=Aa hf3;by_cases hlt:j<KN
  ·obtain⟨x,hx⟩:∃ x,f.kids[j]?=some x:=⟨_,Ad (by rw [hKN.out];omega)⟩
   obtain⟨bb,off,rfl,hblt,hcs⟩:=hrow.out (fun e=>by have:=hKN.out;rw [e] at this;simp at this;omega);obtain⟨vx,c0,c1,c2,c3',c4,hkx⟩:=dw.get _ _ _ _ _ hcs hx;have hc:=fun o=>hB.cell (p:=⟨bb,o,none⟩) hblt;have e0:=(hc _).trans c0;have e1:=(hc _).trans c1;have e2:=(hc _).trans c2;have e3:=(hc _).trans c3';have e4:=(hc _).trans c4;have hmem:x∈f.kids:=Ap hx;have hxt:=hxl.out x hmem;have IH:=Aa fun (W:ZB) (hbW:Below w w W)=>hIH.out x hmem vx W (Ay.mono hbW.size _ _ (Ay.below hbW nR _ _ hkx)) (hG.below hbW);have hts:Hid ((f.kids.take (j+1)).map (A4 6)=(f.kids.take j).map (A4 6)++[A4 6 x]):=Aa (by rw [aI f.kids j x hx];simp);obtain⟨ax,cx,rfl,_,_⟩:=hkx.form;have hLl:((f.kids.take j).map (A4 6)).length=j:=by have:=hKN.out;simp;omega
   replace hLl:=Aa hLl;generalize hL:(f.kids.take j).map (A4 6)=L at *;have hkP:=Pw 6 x;have hkB:=Sh 6 x;replace hkP:=Aa hkP;replace hkB:=Aa hkB;generalize hKT:A4 6 x=KT at *;replace hL:=Aa hL;replace hKT:=Aa hKT;generalize x.kids.length=xn at *;generalize x.text=T at *;clear c0 c1 c2 c3' c4 hc hcs hkx hmem hx;dsimp only [Ao] at IH;go_wp2_with fail;refine CmZ (IH.out _ (hB.alloc hB.size _)) fun w2 hb2=>?_;have hblk2:=(hb2.block wr sM).trans (Aw wr _);have n0:w2.cell? ⟨wr,0,none⟩=some ↑x.op:=Ab hblk2 0;have n1:w2.cell? ⟨w,0,none⟩=some (.int .i64 6):=(hb2.cell (p:=⟨w,0,none⟩) (by simp;omega)).trans (by rw [G6 _ _ _ (by rw [m0];rfl)];exact m0);have hO2:Hid (At (w+1) w2 (.slice a3 L.length c3) L):=Aa ((hO.out.alloc _).below hb2);have hB2:Hid (Below (w+1) w1 w2):=Aa ((hb.out.alloc oM _).trans (hb2.mono (by simp;omega)));have hs2:w.heap.size+1<=w2.heap.size:=by have:=hB2.out.size;have:=hs1.out;omega
   clear IH hb2 hblk2 e0 e1 e2 e3 e4 m0 hO hb hB;have STEP:∀ (v':ZC) (w3:ZB) (o:Obj),At (w+1) w3 v' (L++[KT])->(w2.alloc o).grownBy w3 (Value.slice a3 L.length c3).ownBlock->Hid (At (w+1) w3 v' ((f.kids.take (j+1)).map (A4 6)))/\Hid (Below (w+1) w1 w3):=fun v' w3 o h1 h2 =>⟨Aa (by rw [hts.out];exact h1),Aa ((hB2.out.alloc hs2 _).grown h2 (by simp;omega) (fun j hj=>(Dw hO2.out j hj).1))⟩
   replace STEP:=Aa STEP;obtain⟨b6,p6⟩:∃ b,(x.op==6)=b:=⟨_,rfl⟩
   obtain⟨b5,p5⟩:∃ b,(x.op==5)=b:=⟨_,rfl⟩
   have hpar:Hid ((x.op==6||x.op==5&&(6:Int) != 6)=(b6||b5&&(6:Int) != 6)):=Aa (by rw [p6,p5]);have l1:¬ (9223372036854775807<1+T.length):=oM;have l2:¬ (9223372036854775807<1+T.length+1):=oM;cases b6 <;> cases b5;·exact FD11
   ·exact FD11
   ·exact FD2
   ·exact FD2
  ·obtain rfl:j=KN:=oM;have htk:f.kids.take j=f.kids:=by rw [<- hKN.out,Dn]
   clear hf3;rw [htk] at hO hf1 ⊢;clear htk;have hO:Hid (At (w+1) wr (.slice a3 (f.kids.map (A4 6)).length c3) (f.kids.map (A4 6))):=hO;have J:=Aa (Lx _ (f.kids.map (A4 6)) ([32,111,114,32]:Q00) wr hO.out.strs (by have:=hKN.out;simp;omega) hJl);have hRe:Hid (CH.join ([32,111,114,32]:Q00) (f.kids.map (A4 6))=R):=Aa (by rw [<- hR.out,text_eq,hop.out];rfl);generalize (f.kids.map (A4 6)).length=LL at *;generalize CH.join ([32,111,114,32]:Q00) (f.kids.map (A4 6))=JJ at *;exact FD90
theorem Kh8 (f:CH.Formula) (vk:ZC) (w:ZB) (hG:Gl w) (hK:Ay w w f vk) (hop:f.op=4) (hlen:f.kids.length<=100000) (hxl:∀ x∈f.kids,x.text.length<=3000000000) (hone:f.kids.length=1) (hIH:Tm f) (hJl:(CH.join ([32,111,114,32]:Q00) (f.kids.map (A4 4))).length<=140737488355328):ZE prog 170 #[.agg (Ao f vk)] w (Ret w ↑f.text):=by
 obtain⟨R,hR⟩:∃ R,Hid (f.text=R):=⟨_,Aa rfl⟩
 rw [hR.out];obtain⟨ak,ck,rfl,hc1,hc2,hrow⟩:=hK.form;replace hrow:=Aa hrow;replace hIH:=Aa hIH;replace hxl:=Aa hxl;generalize hKN:f.kids.length=KN at *;replace hone:=Aa hone;replace hKN:=Aa hKN;dsimp only [Ao];rw [hop];replace hop:=Aa hop;have hB0:=(Ac _ w).alloc nR (.cells #[.int .i64 4,↑f.name,↑f.cmp,↑f.n,.slice ak KN ck] 67);have hblk:=Aw w (.cells #[.int .i64 4,↑f.name,↑f.cmp,↑f.n,.slice ak KN ck] 67);have hs1:(w.alloc (.cells #[.int .i64 4,↑f.name,↑f.cmp,↑f.n,.slice ak KN ck] 67)).heap.size=w.heap.size+1:=sM;clear hK;go_enter func170,ntmps170;go_wp2_with fail;generalize w.alloc (.cells #[.int .i64 4,↑f.name,↑f.cmp,↑f.n,.slice ak KN ck] 67)=w1 at *;replace hs1:=Aa hs1;replace hblk:=Aa hblk;go_loopw [3,31] (fun lv iv wr=>∃ j:Nat,j<=KN/\iv=↑j/\Hid (At (w+1) wr lv ((f.kids.take j).map (A4 4)))/\Hid (Below (w+1) w1 wr)) (fun _ iv _=>KN - (ZG iv).toNat);case atStart=>exact⟨0,Az _,rfl,Aa (At.nil _ _),Aa (Ac _ _)⟩
 case round =>
  obtain⟨j,hj,rfl,hO,hb⟩:=hrel;have hB:Below w w wr:=hB0.trans (hb.out.mono oM);have hsz:w.heap.size+1<=wr.heap.size:=by have:=hb.out.size;have:=hs1.out;omega
  have m0:wr.cell? ⟨w,0,none⟩=some (.int .i64 4):=(hb.out.cell (p:=⟨w,0,none⟩) (Fj _)).trans (Ab hblk.out 0);obtain⟨a3,c3,rfl,hf1,hf2,hf3⟩:=hO.out.form;replace hf3:=Aa hf3;by_cases hlt:j<KN
  ·obtain⟨x,hx⟩:∃ x,f.kids[j]?=some x:=⟨_,Ad (by rw [hKN.out];omega)⟩
   obtain⟨bb,off,rfl,hblt,hcs⟩:=hrow.out (fun e=>by have:=hKN.out;rw [e] at this;simp at this;omega);obtain⟨vx,c0,c1,c2,c3',c4,hkx⟩:=dw.get _ _ _ _ _ hcs hx;have hc:=fun o=>hB.cell (p:=⟨bb,o,none⟩) hblt;have e0:=(hc _).trans c0;have e1:=(hc _).trans c1;have e2:=(hc _).trans c2;have e3:=(hc _).trans c3';have e4:=(hc _).trans c4;have hmem:x∈f.kids:=Ap hx;have hxt:=hxl.out x hmem;have IH:=Aa fun (W:ZB) (hbW:Below w w W)=>hIH.out x hmem vx W (Ay.mono hbW.size _ _ (Ay.below hbW nR _ _ hkx)) (hG.below hbW);have hts:Hid ((f.kids.take (j+1)).map (A4 4)=(f.kids.take j).map (A4 4)++[A4 4 x]):=Aa (by rw [aI f.kids j x hx];simp);obtain⟨ax,cx,rfl,_,_⟩:=hkx.form;have hLl:((f.kids.take j).map (A4 4)).length=j:=by have:=hKN.out;simp;omega
   replace hLl:=Aa hLl;generalize hL:(f.kids.take j).map (A4 4)=L at *;have hkP:=Pw 4 x;have hkB:=Sh 4 x;replace hkP:=Aa hkP;replace hkB:=Aa hkB;generalize hKT:A4 4 x=KT at *;replace hL:=Aa hL;replace hKT:=Aa hKT;generalize x.kids.length=xn at *;generalize x.text=T at *;clear c0 c1 c2 c3' c4 hc hcs hkx hmem hx;dsimp only [Ao] at IH;go_wp2_with fail;refine CmZ (IH.out _ (hB.alloc hB.size _)) fun w2 hb2=>?_;have hblk2:=(hb2.block wr sM).trans (Aw wr _);have n0:w2.cell? ⟨wr,0,none⟩=some ↑x.op:=Ab hblk2 0;have n1:w2.cell? ⟨w,0,none⟩=some (.int .i64 4):=(hb2.cell (p:=⟨w,0,none⟩) (by simp;omega)).trans (by rw [G6 _ _ _ (by rw [m0];rfl)];exact m0);have hO2:Hid (At (w+1) w2 (.slice a3 L.length c3) L):=Aa ((hO.out.alloc _).below hb2);have hB2:Hid (Below (w+1) w1 w2):=Aa ((hb.out.alloc oM _).trans (hb2.mono (by simp;omega)));have hs2:w.heap.size+1<=w2.heap.size:=by have:=hB2.out.size;have:=hs1.out;omega
   clear IH hb2 hblk2 e0 e1 e2 e3 e4 m0 hO hb hB;have STEP:∀ (v':ZC) (w3:ZB) (o:Obj),At (w+1) w3 v' (L++[KT])->(w2.alloc o).grownBy w3 (Value.slice a3 L.length c3).ownBlock->Hid (At (w+1) w3 v' ((f.kids.take (j+1)).map (A4 4)))/\Hid (Below (w+1) w1 w3):=fun v' w3 o h1 h2 =>⟨Aa (by rw [hts.out];exact h1),Aa ((hB2.out.alloc hs2 _).grown h2 (by simp;omega) (fun j hj=>(Dw hO2.out j hj).1))⟩
   replace STEP:=Aa STEP;obtain⟨b6,p6⟩:∃ b,(x.op==6)=b:=⟨_,rfl⟩
   obtain⟨b5,p5⟩:∃ b,(x.op==5)=b:=⟨_,rfl⟩
   have hpar:Hid ((x.op==6||x.op==5&&(4:Int) != 6)=(b6||b5&&(4:Int) != 6)):=Aa (by rw [p6,p5]);exact FD85
  ·obtain rfl:j=KN:=oM;have htk:f.kids.take j=f.kids:=by rw [<- hKN.out,Dn]
   clear hf3;rw [htk] at hO hf1 ⊢;clear htk;have hO:Hid (At (w+1) wr (.slice a3 (f.kids.map (A4 4)).length c3) (f.kids.map (A4 4))):=hO;obtain⟨x,hx⟩:∃ x,f.kids=[x]:=List.length_eq_one_iff.1 (by rw [hKN.out];exact hone.out);have hRe:Hid ([110,111,116,32]++A4 4 x=R):=Aa (by rw [<- hR.out,text_eq,hop.out,hx];rfl);have hxt:=hxl.out x (by rw [hx];simp);have hkt:(A4 4 x).length<=x.text.length+2:=by unfold A4;split <;> simp
   have hO:At (w+1) wr (.slice a3 1 c3) [A4 4 x]:=by have:=hO.out;rw [hx] at this;exact this
   obtain⟨b3,MQ,rfl,hb3,hc3⟩:∃ b off,a3=some ⟨b,off,none⟩/\b<wr.heap.size/\∀ (j:Nat) (l:Q00),[A4 4 x][j]?=some l->wr.cell? ⟨b,off+j,none⟩=some ↑l:=by obtain⟨a',c',e',h1',h2',h3'⟩:=hO.strs;cases e';exact h3' sM
   have k0:=hc3 0 _ rfl;rw [Ia] at k0;rw [hx] at ⊢;have hll:([x].map (A4 4)).length=1:=rfl;rw [hll];clear hO hc3 hx hll;generalize A4 4 x=KT at *;have l1:¬ (9223372036854775807<4+KT.length):=oM;go_wp2;go_ret;exact⟨by rw [<- hRe.out,<- bytes_append];rfl,hB⟩
theorem Qp (f:CH.Formula) (ak:Option Addr) (nk ck:Nat) (w:ZB) (h:f.op=1\/f.op=2) : ZE prog 170 #[.agg (Ao f (.slice ak nk ck))] w (Ret w ↑f.text):=by
 have ht:=text_eq f;obtain⟨R,hR⟩:∃ R,Hid (f.text=R):=⟨_,Aa rfl⟩
 rw [hR.out] at ht ⊢;dsimp only [Ao];rcases h with h|h;·rw [h] at ht ⊢;replace ht:R=([116,114,117,101]:Q00):=ht;subst ht;go_enter func170,ntmps170;go_wp2;go_ret;exact FD140
 ·rw [h] at ht ⊢;replace ht:R=([102,97,108,115,101]:Q00):=ht;subst ht;go_enter func170,ntmps170;go_wp2;go_ret;exact FD140
theorem Re {l:List CH.Formula} (h:eP l=true) {x:CH.Formula} (hx:x∈l):x.ok=true:=by
 induction l with
 |nil=>cases hx
 |cons g l ih =>
  simp only [eP,Ba] at h;rcases Bl.1 hx with rfl|hx;·exact h.1
  ·exact ih h.2 hx
theorem Mnz (k:Nat):∀ (f:CH.Formula) (vk:ZC) (w:ZB),f.depth<=k->Gl w->Ay w w f vk->f.ok=true->Cy f->f.count<=90000 -> ZE prog 170 #[.agg (Ao f vk)] w (Ret w ↑f.text):=by
 induction k with
 |zero=>intro f vk w hk;exact absurd hk (by rw [Ex];omega)
 |succ k ih =>
  intro f vk w hk hG hK hok hS hcount;have oI:=No hok;have hd:=Ex f;have hcn:=Uq f;have hlen:=K1 f.kids;have hIH:Tm f:=fun x hx vx W hKx hGx=>ih x vx W (by have:=K6 hx;omega) hGx hKx (Re oI.2.2 hx) (hS.kids.mem hx) (by have:=Rp hx;omega);have hxl:∀ x∈f.kids,x.text.length<=3000000000:=fun x hx=>by have:=Q4 x (hS.kids.mem hx) (Re oI.2.2 hx);have:=Rp hx;omega
  have hjl:∀ (op:Int) (sep:Q00),sep.length<=5->(CH.join sep (f.kids.map (A4 op))).length<=140737488355328:=fun op sep hsep=>by
   have h1:=Tv op f.kids hS.kids oI.2.2;have h2:=Sk sep (f.kids.map (A4 op));have h3:((f.kids.map (A4 op)).map fun l=>l.length+sep.length).sum<=((f.kids.map (A4 op)).map fun l=>l.length+5).sum:=by
    generalize f.kids.map (A4 op)=ls;induction ls with
    |nil=>simp
    |cons a l ih=>simp only [Fa,Nc];omega
   omega
  obtain⟨ak,ck,rfl,hc1,hc2,hrow⟩:=hK.form;rcases Fpt hok with h|h|⟨h,h1,h6⟩|⟨h,h1⟩|h|h;·exact Qp f ak _ ck w (.inl h)
  ·exact Qp f ak _ ck w (.inr h)
  ·have hn:=oI.2.1 h;exact Byd f ak _ ck w hG h h1 h6 hn.1 hn.2 hS.name
  ·exact Kh8 f _ w hG hK h oM hxl h1 hIH (hjl 4 _ dC)
  ·exact Kg8 f _ w hG hK h oM hxl hIH (hjl 5 _ dC)
  ·exact Kf8 f _ w hG hK h oM hxl hIH (hjl 6 _ dC)
theorem Vu (f:CH.Formula) (vk:ZC) (w:ZB) (hG:Gl w) (hK:Ay w w f vk) (hS:Cy f) (hc:f.count<=100000000) (hd:f.depth<=100000000) : ZE prog 103 #[.agg (Ao f vk)] w (Ret w (bU (bf f))):=by
 obtain⟨R,hR⟩:∃ R,Hid (bU (bf f)=R):=⟨_,Aa rfl⟩
 rw [hR.out];have KB:=fun (W:ZB) (hb:Below w w W)=>Ay.mono hb.size _ _ (Ay.below hb nR _ _ hK);have L:=fun (W:ZB) (hb:Below w w W)=>Lia f vk W (KB W hb) hc hd;have F:=fun (W:ZB) (hb:Below w w W)=>Lsp f.depth f vk W nR (KB W hb) hS;obtain⟨lg,hlg⟩:∃ b,(ZH (f.count > 200)||ZH (f.depth > 20))=b:=⟨_,rfl⟩
 obtain⟨ok,hok⟩:∃ b,f.ok=b:=⟨_,rfl⟩
 rw [hlg] at L;rw [hok] at F;replace L:=Aa L;replace F:=Aa F;have hRe:Hid (R=bU (if lg then none else if ok then some f.text else none)):=Aa (by rw [<- hR.out,<- hlg,<- hok];rfl);have hB0:=fun o=>(Ac _ w).alloc nR o;have hW:=fun o=>Aw w o;have hz1:=Bso;have hz2:=Yv;have FE:=Sr;have T:=fun (yw:f.count<=90000) (hok:f.ok=true) (W:ZB) (hb:Below w w W)=>Mnz f.depth f vk W nR (hG.below hb) (KB W hb) hok hS yw;replace T:=Aa T;clear KB;obtain⟨ak,ck,rfl,hc1,hc2,hrow⟩:=hK.form;clear hrow hK;generalize f.kids.length=KN at *;dsimp only [Ao] at L F T ⊢;cases lg with
 |true =>obtain rfl:=hRe.out;clear F T hok hlg;go_enter func103,ntmps103;go_wp2_with fail;refine CmZ (L.out _ (hB0 _)) fun w1 hb1=>?_;clear L;go_wp2;refine Aj (Aq rfl _ _ _) rfl ?_;exact FD106
 |false =>
  have yw:f.count<=200:=by simp only [Gt,Dc] at hlg;omega
  clear hlg;go_enter func103,ntmps103;go_wp2_with fail;refine CmZ (L.out _ (hB0 _)) fun w1 hb1=>?_;have hB1:Below w w w1:=(hB0 _).trans (hb1.mono sM);have hblk:=(hb1.block w sM).trans (hW _);clear L hb1 hW hB0;have k0:=Ab hblk 0;have k1:=Ab hblk 1;have k2:=Ab hblk 2;have k3:=Ab hblk 3;have k4:=Ab hblk 4;simp only [Hy,Fv,Fz] at k0 k1 k2 k3 k4;have hblk:=Aa hblk;go_wp2_with fail;refine CmZ (F.out _ hB1) fun w2 hb2=>?_;have hB2:Below w w w2:=hB1.trans (hb2.mono hB1.size);have hblk2:=(hb2.block w (aZ hblk.out)).trans hblk.out;clear F k0 k1 k2 k3 k4;have k0:=Ab hblk2 0;have k1:=Ab hblk2 1;have k2:=Ab hblk2 2;have k3:=Ab hblk2 3;have k4:=Ab hblk2 4;simp only [Hy,Fv,Fz] at k0 k1 k2 k3 k4;clear hblk hblk2 hb2;cases ok with
  |false =>obtain rfl:=hRe.out;clear T hok;exact FD94
  |true =>obtain rfl:=hRe.out;have T:=Aa (T.out oM hok);clear hok;go_wp2_with fail;refine CmZ (T.out _ hB2) fun w3 hb3=>?_;clear T;go_wp2;refine Aj (Aq rfl _ _ _) rfl ?_;exact FD136
theorem Hb4 (vx:ZC) (lx ls:List Q00) (base p B:Nat) (w:ZB) (hW:Cs base p w ls) (hX:Strs B w vx lx) (hl:ls.length+lx.length<=1000000) : ZE prog 106 #[.bool true,vx,.pointer (some ⟨p,0,none⟩)] w (Joe base p w (ls++lx)):=by have hpl:=Wn hW;obtain⟨v,hv,hO,hne,hbp⟩:=hW;obtain⟨av,cv,rfl,hf1,hf2,_⟩:=hO.form;have hblk:=Pt hO;have c0:w.cell? ⟨p,0,none⟩=some (.slice av ls.length cv):=Ab hv 0;obtain⟨ax,cx,rfl,_,_⟩:=hX.form;generalize hN:ls.length=N at *;generalize hM:lx.length=M at *;go_enter func106,ntmps106;exact FD19
theorem Dom (vx:ZC) (ls:List Q00) (base p:Nat) (w:ZB) (hW:Cs base p w ls) (ax:Option Addr) (nx cx:Nat) (hx:vx=.slice ax nx cx) : ZE prog 106 #[.bool false,vx,.pointer (some ⟨p,0,none⟩)] w (Joe base p w ls):=by subst hx;go_enter func106,ntmps106;go_wp2;go_end0;exact⟨rfl,hW,Ac _ _,Bg _⟩
def fO (b:Bool) (ls lx:List Q00):List Q00:=if b then ls++lx else ls
theorem Rs (b:Bool) (ls lx:List Q00):(fO b ls lx).length<=ls.length+lx.length:=by unfold fO;split <;> simp
theorem dU.fO {n:Nat} {b:Bool} {lx:List Q00} (h1:dU n ls) (h2:dU n lx):dU n (fO b ls lx):=by
 intro l hl;unfold Go.Proofs.Y.fO at hl;split at hl
 ·rcases Dp.1 hl with h|h;·exact h1 l h
  ·exact h2 l h
 ·exact h1 l hl
theorem S7 {f:CH.Formula} {t:Q00} (h:bf f=some t) (hS:Cy f):t.length<=6000000:=by
 unfold bf at h;split at h;·cases h
 ·rename_i hn;split at h;·rename_i hok;cases h;have:=Q4 f hS hok;simp only [Ec,Bq,Lu] at hn;omega
  ·cases h
theorem N5 (b:Bool) (lx ls:List Q00) (base p:Nat) (w:ZB) (hW:Cs base p w ls) (hl:ls.length+lx.length<=1000000) (n:Nat) (hn:lx.length=n) (T:Array ZC) (hT:T=(lx.map aA).toArray) : ZE prog 106 #[.bool b,.slice (some ⟨w,0,none⟩) n n,.pointer (some ⟨p,0,none⟩)] (w.alloc (.cells T 9)) (Joe base p (w.alloc (.cells T 9)) (fO b ls lx)):=by
 subst hn hT;cases b with
 |true=>exact Hb4 _ lx ls base p _ _ (hW.alloc _) (Fu w lx oM).strs hl
 |false=>exact Dom _ ls base p _ (hW.alloc _) _ _ _ rfl
theorem Due {W:ZB} {p:Nat} (h:W.heap[p]?=some (.cells #[.slice none 0 0] 22 (0,0))):Cs p p W [] := ⟨.slice none 0 0,h,At.nil _ _,by simp [Value.ownBlock],Bg _⟩
theorem V6 (w:ZB):(zeroValue 9).run prog w=.ok (.string ⟨#[]⟩) w:=kR
theorem R0 (w:ZB) (a b c:Int) (va vb vc:Q00) (hab:(b==a)=false) (hac:(c==a)=false) (hbc:(c==b)=false) : ∃ o1 o2 o3,(Instr.mapUpdate 117 (.map (some w.heap.size)) ↑a (aA va)).run prog (w.alloc (.map #[] 0))=.ok () ((w.alloc (.map #[] 0)).putObj w.heap.size o1) /\ (Instr.mapUpdate 117 (.map (some w.heap.size)) ↑b (aA vb)).run prog ((w.alloc (.map #[] 0)).putObj w.heap.size o1)=.ok () (((w.alloc (.map #[] 0)).putObj w.heap.size o1).putObj w.heap.size o2) /\ (Instr.mapUpdate 117 (.map (some w.heap.size)) ↑c (aA vc)).run prog (((w.alloc (.map #[] 0)).putObj w.heap.size o1).putObj w.heap.size o2)=.ok () ((((w.alloc (.map #[] 0)).putObj w.heap.size o1).putObj w.heap.size o2).putObj w.heap.size o3) /\ We aJ w ((((w.alloc (.map #[] 0)).putObj w.heap.size o1).putObj w.heap.size o2).putObj w.heap.size o3) [(a,aA va),(b,aA vb),(c,aA vc)]:=by obtain⟨o1,h1,m1⟩:=El Ty underlying117 (Rm aJ w) a (aA va) rfl;obtain⟨o2,h2,m2⟩:=El Ty underlying117 m1 b (aA vb) (by simp [Cd,hab]);obtain⟨o3,h3,m3⟩:=El Ty underlying117 m2 c (aA vc) (by simp [Cd,hac,hbc]);exact⟨o1,o2,o3,h1,h2,h3,m3⟩
structure gK (B:Nat) (w:ZB) (m:bD) (vk:ZC):Prop where
 kids:Ay B w m.aB vk
 nums:jF m
 id:m.id.length<=10000
 authority:m.authority.length<=10000
 target:m.target.length<=10000
 short:Cy m.aB
 count:m.aB.count<=100000000
 depth:m.aB.depth<=100000000
theorem gK.below {m:bD} {vk:ZC} (h:gK B w m vk) (hb:Below B' w w') (hB:B<=B'):gK B w' m vk:={ h with kids:=Ay.below hb hB _ _ h.kids }
theorem gK.mono {m:bD} {vk:ZC} (h:gK B w m vk) (hB:B<=B'):gK B' w m vk:={ h with kids:=Ay.mono hB _ _ h.kids }
def Ds (m:bD) (t:Q00):List Q00 := fO (ZH (m.dP > 0)) (fO (ZH (m.aF >= 0)) (fO true (fO (m.aB.op != 1) (fO true (fO (m.target != []) (fO true [] [dR m.kind]) [m.target]) [m.id,([111,102]:Q00),m.authority]) [([105,102]:Q00),t]) [([102,114,111,109]:Q00),ZK m.start]) [([117,110,116,105,108]:Q00),ZK m.aF]) [([119,105,110,100]:Q00),ZK m.dP]
theorem Ts (m:bD):dh m=match bf m.aB with
  |none=>none
  |some t=>if aT m&&bg m then some (CH.join [32] (Ds m t)++[59]) else none:=by
 unfold dh
 cases bf m.aB with
 |none=>rfl
 |some t =>
  dsimp only
  congr 4
  unfold Ds fO
  cases h1:(m.target != []) <;> cases h2:(m.aB.op != 1) <;> cases h3:ZH (m.aF >= 0) <;> cases h4:ZH (m.dP > 0) <;> simp_all
def I64 (n:Int):Prop:=-9223372036854775808<=n/\n<=9223372036854775807
structure xB (a:Q02):Prop where
 change:iT a.change
 pos:I64 a.change.pos
 lid:a.licence.id.length<=10000
 lm:Fx a.licence.measures
 lp:Fx a.licence.aH
 hold:jk a.holding
 id:a.id.length<=10000
 kind:I64 a.kind
 n:I64 a.n
def Br (l:fF) (vm vp:ZC):List ZC:=[aA l.id,vm,vp,aJ l.quota,aJ l.uses,aJ l.start,aJ l.aF]
structure eG where
 vn:ZC
 vk:ZC
 vm:ZC
 vp:ZC
 vj:ZC
def As (a:Q02) (s:eG):List ZC := aJ a.kind::(A5 a.change s.vn++(Av a.measure s.vk++(Br a.licence s.vm s.vp++(Ax a.holding s.vj++[aA a.id,aJ a.n]))))
structure fH (B:Nat) (w:ZB) (a:Q02) (s:eG):Prop where
 names:C6 B w s.vn a.change.entry.names
 meas:gK B w a.measure s.vk
 lm:Strs B w s.vm a.licence.measures
 lp:Strs B w s.vp a.licence.aH
 hj:Strs B w s.vj a.holding.joint
 small:xB a
theorem fH.below {a:Q02} {s:eG} (h:fH B w a s) (hb:Below B' w w') (hB:B<=B'):fH B w' a s:=⟨h.names.below hb hB,h.meas.below hb hB,h.lm.below hb hB,h.lp.below hb hB,h.hj.below hb hB,h.small⟩
theorem fH.mono {a:Q02} {s:eG} (h:fH B w a s) (hB:B<=B'):fH B' w a s:=⟨h.names.mono hB,h.meas.mono hB,h.lm.mono hB,h.lp.mono hB,h.hj.mono hB,h.small⟩
structure Held (R:List Nat) (w w':ZB):Prop where
 os:w'.os=w.os
 tape:w'.tape=w.tape
 output:w'.output=w.output
 size:w.heap.size<=w'.heap.size
 block:∀ k,k<w.heap.size->k ∉ R->w'.heap[k]?=w.heap[k]?
theorem Held.of_below (h:Below w w w'):Held R w w':=⟨h.os,h.tape,h.output,h.size,fun k hk _=>h.block k hk⟩
theorem Held.trans {w1 w2:ZB} (h:Held R w w1) (h':Held R w1 w2):Held R w w2 := ⟨h'.os.trans h.os,h'.tape.trans h.tape,h'.output.trans h.output,Af h.size h'.size,fun k hk hR=>(h'.block k (Ae hk h.size) hR).trans (h.block k hk hR)⟩
theorem Held.mono {R':List Nat} (h:Held R w w') (hs:∀ r∈R,r∈R'):Held R' w w':=⟨h.os,h.tape,h.output,h.size,fun k hk hR=>h.block k hk fun hr=>hR (hs k hr)⟩
theorem Held.below (h:Held R w w') (hB:B<=w.heap.size) (hR:∀ r∈R,B<=r):Below B w w':=⟨h.os,h.tape,h.output,h.size,fun k hk=>h.block k (Ae hk hB) fun hr=>by have:=hR k hr;omega⟩
def Cells (w w':ZB):Prop:=∀ p v,w.cell? p=some v->w'.cell? p=some v
theorem Cells.trans {a b c:ZB} (h:Cells a b) (h':Cells b c):Cells a c:=fun p v hp=>h' p v (h p v hp)
theorem Cells.of_below (h:Below w w w'):Cells w w':=fun p v hp=>(h.cell (Ez w p hp)).trans hp
def But (w:ZB) (r:Nat):Prop:=∃ es c,w.heap[r]?=some (.map es c)
theorem Pe {p:Addr} (h:w'.heap[p.block]?=w.heap[p.block]?):w'.cell? p=w.cell? p:=by simp only [World.cell?,h]
theorem Held.cells (h:Held R w w') (hR:∀ r∈R,But w r):Cells w w':=fun p v hp=>by
 have hlt:=Ez w p hp;by_cases hm:p.block∈R;·obtain⟨es,c,he⟩:=hR _ hm;simp [World.cell?,he] at hp
 ·rw [Pe (h.block _ hlt hm)];exact hp
theorem Strs.kept {v:ZC} (h:Strs B w v ls) (hc:Cells w w'):Strs B w' v ls:=by obtain⟨a,cap,hv,h1,h2,h3⟩:=h;refine⟨a,cap,hv,h1,h2,fun hne=>?_⟩;obtain⟨b,off,ha,hlt,hx⟩:=h3 hne;exact⟨b,off,ha,hlt,fun j l hj=>hc _ _ (hx j l hj)⟩
theorem C6.kept {v:ZC} {ns:List Q05} (h:C6 B w v ns) (hc:Cells w w'):C6 B w' v ns:=by obtain⟨a,cap,h1,h2,h3,h4⟩:=h;refine⟨a,cap,h1,h2,h3,fun hne=>?_⟩;obtain⟨b,off,e,hlt,hx⟩:=h4 hne;refine⟨b,off,e,hlt,fun j n hj=>?_⟩;obtain⟨vw,c1,c2,c3⟩:=hx j n hj;exact⟨vw,hc _ _ c1,hc _ _ c2,c3.kept hc⟩
mutual
theorem Ay.kept (hc:Cells w w'):∀ (f:CH.Formula) (v:ZC),Ay B w f v->Ay B w' f v
 |.mk _ _ _ _ kids,v,h=>by
  unfold Ay at h ⊢
  obtain⟨a,cap,h1,h2,h3,h4⟩:=h
  refine⟨a,cap,h1,h2,h3,fun hne=>?_⟩
  obtain⟨b,off,e,hlt,hr⟩:=h4 hne
  exact⟨b,off,e,hlt,dw.kept hc kids b off hr⟩
theorem dw.kept (hc:Cells w w'):∀ (l:List CH.Formula) (b off:Nat),dw B w l b off->dw B w' l b off
 |[],_,_,_=>by unfold dw;trivial
 |f::l,b,off,h=>by
  unfold dw at h ⊢
  obtain⟨⟨vk,c0,c1,c2,c3,c4,hk⟩,hr⟩:=h
  exact⟨⟨vk,hc _ _ c0,hc _ _ c1,hc _ _ c2,hc _ _ c3,hc _ _ c4,Ay.kept hc f vk hk⟩,dw.kept hc l b (off+5) hr⟩
end
theorem fH.kept {B:Nat} {w w':ZB} {a:Q02} {s:eG} (h:fH B w a s) (hc:Cells w w'):fH B w' a s:=⟨h.names.kept hc,{ h.meas with kids:=Ay.kept hc _ _ h.meas.kids },h.lm.kept hc,h.lp.kept hc,h.hj.kept hc,h.small⟩
theorem Gl.kept {w w':ZB} (h:Gl w) (hc:Cells w w') (hb:Below 9 w w'):Gl w':={
  size:=Af h.size hb.size
  db:=hc _ _ h.db
  pow10:=var?_below hb kR (g:=0) dC h.pow10
  utf8:=⟨fun c hlt=>hc _ _ (h.utf8.1 c hlt),fun i hi=>⟨hc _ _ (h.utf8.2 i hi).1,hc _ _ (h.utf8.2 i hi).2⟩⟩ }
theorem Gc.kept {w w':ZB} (h:Gc w) (hc:Cells w w') (hb:Below 9 w w'):Gc w':=by refine⟨h.gl.kept hc hb,?_⟩;obtain⟨R,oR,cap,h1,h2⟩:=h.tX;exact⟨R,oR,cap,hc _ _ h1,fun i hi=>⟨hc _ _ (h2 i hi).1,hc _ _ (h2 i hi).2.1,hc _ _ (h2 i hi).2.2.1,hc _ _ (h2 i hi).2.2.2.1,hc _ _ (h2 i hi).2.2.2.2⟩⟩
theorem Tj {B:Nat} {w:ZB} {a:Q02} {s:eG} (h:fH B w a s):∀ v∈As a s,v.oneCell'=true:=by obtain⟨vn,vk,vm,vp,vj⟩:=s;obtain⟨_,_,e1,_,_⟩:=h.names.form;obtain⟨_,_,e2,_,_,_⟩:=h.meas.kids.form;exact FD60
def F0 (B:Nat) (w:ZB) (v:ZC) (l:List Q02):Prop := ∃ a cap,v=.slice a l.length cap/\l.length<=cap/\cap<=9223372036854775807 /\ (l≠[]->∃ b off,a=some ⟨b,off,none⟩/\b<B/\∀ j x,l[j]?=some x->∃ s,(∀ i u,(As x s)[i]?=some u->w.cell? ⟨b,off+j*37+i,none⟩=some u)/\fH B w x s)
theorem F0.kept {B:Nat} {w w':ZB} {v:ZC} {l:List Q02} (h:F0 B w v l) (hc:Cells w w'):F0 B w' v l:=by obtain⟨a,cap,h1,h2,h3,h4⟩:=h;refine⟨a,cap,h1,h2,h3,fun hne=>?_⟩;obtain⟨b,off,e,hlt,hx⟩:=h4 hne;refine⟨b,off,e,hlt,fun j x hj=>?_⟩;obtain⟨s,c1,c2⟩:=hx j x hj;exact⟨s,fun i u hi=>hc _ _ (c1 i u hi),c2.kept hc⟩
theorem F0.below {B B':Nat} {w w':ZB} {v:ZC} {l:List Q02} (h:F0 B w v l) (hb:Below B' w w') (hB:B<=B'):F0 B w' v l:=by exact FD43
theorem F0.mono {B B':Nat} {w:ZB} {v:ZC} {l:List Q02} (h:F0 B w v l) (hB:B<=B'):F0 B' w v l:=by exact FD24
theorem F0.form {B:Nat} {w:ZB} {v:ZC} {l:List Q02} (h:F0 B w v l):∃ a cap,v=.slice a l.length cap/\l.length<=cap/\cap<=9223372036854775807:=by exact FD142
structure aS where
 va:ZC
 v1:ZC
 v2:ZC
def Al (v:Q01) (s:aS):List ZC:=[aJ v.authority,aJ v.number,aJ v.pos,aA v.prev,s.va,aJ v.sel.index,s.v1,s.v2]
structure sF (v:Q01):Prop where
 authority:I64 v.authority
 number:I64 v.number
 pos:I64 v.pos
 prev:v.prev.length<=10000
 index:I64 v.sel.index
 sig:Fx v.sel.sig
 path:Fx v.sel.path
structure aG (B:Nat) (w:ZB) (v:Q01) (s:aS):Prop where
 acts:F0 B w s.va v.acts
 sig:Strs B w s.v1 v.sel.sig
 path:Strs B w s.v2 v.sel.path
 small:sF v
theorem aG.kept {B:Nat} {w w':ZB} {v:Q01} {s:aS} (h:aG B w v s) (hc:Cells w w'):aG B w' v s:=⟨h.acts.kept hc,h.sig.kept hc,h.path.kept hc,h.small⟩
theorem aG.below {B B':Nat} {w w':ZB} {v:Q01} {s:aS} (h:aG B w v s) (hb:Below B' w w') (hB:B<=B'):aG B w' v s:=⟨h.acts.below hb hB,h.sig.below hb hB,h.path.below hb hB,h.small⟩
theorem aG.mono {B B':Nat} {w:ZB} {v:Q01} {s:aS} (h:aG B w v s) (hB:B<=B'):aG B' w v s:=⟨h.acts.mono hB,h.sig.mono hB,h.path.mono hB,h.small⟩
theorem aG.grow {w w':ZB} {v:Q01} {s:aS} (h:aG w w v s) (hb:Below w w w'):aG w' w' v s:=(h.below hb nR).mono hb.size
theorem vI {X:ZB} {b:Nat} {u0 u1 u2 u3 u4 u5 u6 u7:ZC} {T:TypeId} {z:Nat × Nat} (h:X.heap[b]?=some (.cells #[u0,u1,u2,u3,u4,u5,u6,u7] T z)) : (∀ d os,(grow (ZI X d) os).cell? ⟨b,0,none⟩=some u0)/\(∀ d os,(grow (ZI X d) os).cell? ⟨b,1,none⟩=some u1)/\(∀ d os,(grow (ZI X d) os).cell? ⟨b,2,none⟩=some u2)/\(∀ d os,(grow (ZI X d) os).cell? ⟨b,3,none⟩=some u3)/\(∀ d os,(grow (ZI X d) os).cell? ⟨b,4,none⟩=some u4)/\(∀ d os,(grow (ZI X d) os).cell? ⟨b,5,none⟩=some u5)/\(∀ d os,(grow (ZI X d) os).cell? ⟨b,6,none⟩=some u6)/\(∀ d os,(grow (ZI X d) os).cell? ⟨b,7,none⟩=some u7) := ⟨Ag (Ab h 0),Ag (Ab h 1),Ag (Ab h 2),Ag (Ab h 3),Ag (Ab h 4),Ag (Ab h 5),Ag (Ab h 6),Ag (Ab h 7)⟩
theorem xG {X:ZB} {b o:Nat} {u0 u1 u2 u3 u4 u5 u6 u7:ZC} (h:X.rangeAt b o [u0,u1,u2,u3,u4,u5,u6,u7]) : (∀ d os,(grow (ZI X d) os).cell? ⟨b,o,none⟩=some u0)/\(∀ d os,(grow (ZI X d) os).cell? ⟨b,o+1,none⟩=some u1)/\(∀ d os,(grow (ZI X d) os).cell? ⟨b,o+2,none⟩=some u2)/\(∀ d os,(grow (ZI X d) os).cell? ⟨b,o+3,none⟩=some u3)/\(∀ d os,(grow (ZI X d) os).cell? ⟨b,o+4,none⟩=some u4)/\(∀ d os,(grow (ZI X d) os).cell? ⟨b,o+5,none⟩=some u5)/\(∀ d os,(grow (ZI X d) os).cell? ⟨b,o+6,none⟩=some u6)/\(∀ d os,(grow (ZI X d) os).cell? ⟨b,o+7,none⟩=some u7) := ⟨Ag (h 0 _ rfl),Ag (h 1 _ rfl),Ag (h 2 _ rfl),Ag (h 3 _ rfl),Ag (h 4 _ rfl),Ag (h 5 _ rfl),Ag (h 6 _ rfl),Ag (h 7 _ rfl)⟩
theorem Ino:pR 64 9223372036854775807 (fun l=>!ay l):=by refine⟨enters_of func64 kR rfl,fun l w hG hl=>?_⟩;go_enter func64,ntmps64;exact FD72
theorem Ss (v:ZC) (ls:List Q00) (most:Nat) (w:ZB) (hG:Gl w) (hv:Strs w w v ls) (hl:∀ l∈ls,l.length<=9223372036854775807) : ZE prog 29 #[v,↑most] w (Ret w (.bool (bJ ls most))):=by
 have C:=Aa (Uv _ _ _ Ino v ls w hG hv hl);obtain⟨r,hr⟩:∃ r,Hid (bJ ls most=r):=⟨_,Aa rfl⟩
 rw [hr.out];obtain⟨a,cap,rfl,_,_⟩:=hv.form;clear hv hl;obtain⟨b,hb⟩:∃ b,Hid ((ls.any fun s=>!ay s)=b):=⟨_,Aa rfl⟩
 rw [hb.out] at C;by_cases h:ls.length<=most
 ·have hr1:r=!b:=by rw [<- hr.out,<- hb.out];unfold bJ;rw [decide_eq_true h];rfl
  subst hr1;have d:ZH ((ls.length:Int)<=(most:Int))=true:=by simp;omega
  generalize ls.length=N at *;go_enter func29,ntmps29;go_wp2_with fail;refine CmZ C.out fun w1 hb1=>?_;clear C;exact FD39
 ·have hr1:r=false:=by rw [<- hr.out];unfold bJ;rw [decide_eq_false h];rfl
  subst hr1;have d:ZH ((ls.length:Int)<=(most:Int))=false:=by simp;omega
  generalize ls.length=N at *;go_enter func29,ntmps29;exact FD30
theorem Q1 (ws:List CH.Word) (m n:Nat) (h:∀ x∈ws,dU m x.texts) (hn:(ws.flatMap CH.Word.texts).length<=n):(CH.words ws).length<=n*(m+1):=by unfold CH.words;refine Af (Kj [32] m _ fun l hl=>?_) (Dh _ hn);obtain⟨x,hx,hl⟩:=List.mem_flatMap.1 hl;exact h x hx l hl
theorem Cw (n:Int) (h:I64 n):dU 10000 (CH.Word.int n).texts:=by
 have:=Lib.itoa_length_le n h.1 h.2;show dU 10000 (if n = -1 then _ else _);split;·exact .one sM
 ·exact .one oM
theorem Cv (s:Q00) (h:s.length<=10000):dU 10000 (CH.Word.str s).texts:=by
 show dU 10000 [if s=[] then _ else _];split;·exact .one sM
 ·exact .one h
theorem Lb (n:Int):(CH.Word.int n).texts.length=1:=by show (if n = -1 then _ else _:List Q00).length=1;split <;> rfl
theorem Pu (n:Q05) (hok:bP n=true) (hS:Fx n.words):(aV n).length<=60100:=by
 have h1:=Kj [32] 10000 n.words hS.2;have h2:n.words.length<=6:=by unfold bP at hok;simp only [Ba,Bq] at hok;exact hok.2.2
 have h3:n.words.length*(10000+1)<=6*(10000+1):=Dh _ h2;exact FD101
theorem Vi {c:CH.Change} {t:Q00} (h:bQ c=some t) (hS:iT c) (hp:I64 c.pos):t.length<=1000000:=by
 unfold bQ at h;split at h
 ·rename_i hok;cases h;have hi:=Lib.itoa_length_le c.pos hp.1 hp.2;have hid:=hS.id;have h1:=Kj [32] 70000 ([CH.kindWord c.kind,c.id]++(if c.kind==1||c.kind==2 then [ZK c.pos] else [])++c.entry.names.map (fun n=>[34]++aV n++[34])) (fun l hl=>by
   rcases Dp.1 hl with hl|hl
   ·rcases Dp.1 hl with hl|hl
    ·simp only [Bl,Ci,Et] at hl;rcases hl with rfl|rfl;·exact Af (Ro _) dC
     ·omega
    ·split at hl;·cases Ce.1 hl;omega
     ·cases hl
   ·obtain⟨n,hn,rfl⟩:=Dz.1 hl;have:=Pu n (Mo hok n hn) (hS.entry.names n hn);simp;omega)
  have h2:=Gd hok;have h3:([CH.kindWord c.kind,c.id]++(if c.kind==1||c.kind==2 then [ZK c.pos] else [])++c.entry.names.map (fun n=>[34]++aV n++[34])).length<=11:=by
   rw [Ah,Ah,Bh];have:(if c.kind==1||c.kind==2 then [ZK c.pos] else []:List Q00).length<=1:=by split <;> simp
   simp only [A8,Bj];omega
  have h4:=Dh (70000+1) h3;rw [Ah,Di];simp only [A8,Bj,Bf] at h1;omega
 ·cases h
theorem S6 {B:Nat} {w:ZB} {m:bD} {vk:ZC} {t:Q00} (h:dh m=some t) (hM:gK B w m vk):t.length<=100000000:=by
 rw [Ts] at h;cases hf:bf m.aB with
 |none=>rw [hf] at h;cases h
 |some u =>
  rw [hf] at h;dsimp only at h;split at h
  ·cases h;have htl:=S7 hf hM.short;have i1:=Lib.itoa_length_le m.start hM.nums.s.1 hM.nums.s.2;have i2:=Lib.itoa_length_le m.aF hM.nums.u.1 hM.nums.u.2;have i3:=Lib.itoa_length_le m.dP hM.nums.w.1 hM.nums.w.2;have hid:=hM.id;have hau:=hM.authority;have htg:=hM.target;have hkl:(dR m.kind).length<=6:=by unfold dR;exact FD154
   have yt:dU 6000000 (Ds m u):=by exact FD59
   have hn:(Ds m u).length<=13:=by
    unfold Ds fO;repeat' split
    all_goals simp
   have h1:=Kj [32] 6000000 _ yt;have h2:=Dh (6000000+[(32:UInt8)].length) hn;rw [Ah,Di];simp only [A8,Bj,Bf] at h1 h2;omega
  ·cases h
theorem O6 {l:fF} (h:aO l=true):l.measures.length<=12/\l.aH.length<=60/\I64 l.quota/\I64 l.uses/\I64 l.start/\I64 l.aF:=by unfold aO CH.within at h;simp only [Ba,Bq] at h;unfold I64;omega
theorem O7 {h:aQ} (hk:bC h=true):h.joint.length<=4/\I64 h.capital/\I64 h.cZ/\I64 h.start/\I64 h.stop:=by have hj:=U1 hk;unfold bC CH.within at hk;simp only [Ba,Ec,F9,Gt,J6,Nu,Bq,Dc,Eb] at hk;unfold I64;obtain⟨⟨⟨_,_⟩,hq⟩,hw⟩:=hk;omega
def Lw (l:fF):List CH.Word:=[.str ([108,105,99,101,110,99,101]:Q00),.str l.id,.int l.quota,.int l.uses,.int l.start,.int l.aF,.int l.measures.length,.strs l.measures,.strs l.aH]
def J2 (h:aQ):List CH.Word:=[.str ([104,111,108,100,105,110,103]:Q00),.str h.id,.str h.company,.str h.holder,.str h.ah,.str h.aC,.int h.capital,.int h.cZ,.int h.start,.int h.stop,.strs h.joint]
def Ch (a:Q02):List CH.Word:=[.str (je a.kind),.str a.id,.int a.n]
theorem Rn {l:fF} (h:aO l=true) (hid:l.id.length<=10000) (hm:Fx l.measures) (hp:Fx l.aH):(CH.words (Lw l)).length<=1000000:=by
 obtain⟨h1,h2,h3,h4,h5,h6⟩:=O6 h;have hn:((Lw l).flatMap CH.Word.texts).length<=80:=by unfold Lw;simp only [Dx,Gx,Ah,Lb,Bj];show 1+(1+(1+(1+(1+(1+(1+(l.measures.length+(l.aH.length+0))))))))<=80;omega
 refine Af (Q1 _ 10000 80 ?_ hn) dC;intro x hx;simp only [Lw,Bl,Ci,Et] at hx;rcases hx with rfl|rfl|rfl|rfl|rfl|rfl|rfl|rfl|rfl;·exact Cv _ sM
 ·exact Cv _ hid
 ·exact Cw _ h3
 ·exact Cw _ h4
 ·exact Cw _ h5
 ·exact Cw _ h6
 ·exact Cw _ (by unfold I64;omega)
 ·exact hm.2
 ·exact hp.2
theorem O8 {h:aQ} (hk:bC h=true) (hS:jk h):(CH.words (J2 h)).length<=1000000:=by
 obtain⟨h1,h3,h4,h5,h6⟩:=O7 hk;have hn:((J2 h).flatMap CH.Word.texts).length<=80:=by unfold J2;simp only [Dx,Gx,Ah,Lb,Bj];show 1+(1+(1+(1+(1+(1+(1+(1+(1+(1+(h.joint.length+0))))))))))<=80;omega
 refine Af (Q1 _ 10000 80 ?_ hn) dC;intro x hx;simp only [J2,Bl,Ci,Et] at hx;rcases hx with rfl|rfl|rfl|rfl|rfl|rfl|rfl|rfl|rfl|rfl|rfl;·exact Cv _ sM
 ·exact Cv _ hS.id
 ·exact Cv _ hS.company
 ·exact Cv _ hS.holder
 ·exact Cv _ hS.ah
 ·exact Cv _ hS.aC
 ·exact Cw _ h3
 ·exact Cw _ h4
 ·exact Cw _ h5
 ·exact Cw _ h6
 ·exact hS.joint.2
theorem Mx {a:Q02} (hid:a.id.length<=10000) (hn:I64 a.n):(CH.words (Ch a)).length<=1000000:=by
 have h3:((Ch a).flatMap CH.Word.texts).length<=80:=by unfold Ch;simp only [Dx,Gx,Ah,Lb,Bj];show 1+(1+(1+0))<=80;omega
 refine Af (Q1 _ 10000 80 ?_ h3) dC;intro x hx;simp only [Ch,Bl,Ci,Et] at hx;rcases hx with rfl|rfl|rfl;·refine Cv _ ?_;unfold je;exact FD154
 ·exact Cv _ hid
 ·exact Cw _ hn
theorem Mp {B:Nat} {w:ZB} {a:Q02} {s:eG} {t:Q00} (h:aP a=some t) (hA:fH B w a s):t.length<=100000100:=by
 unfold aP at h;split at h;·cases h
 split at h;·obtain⟨u,hu,rfl⟩:=Jz.1 h;have:=Vi hu hA.small.change hA.small.pos;simp;omega
 split at h;·obtain⟨u,hu,rfl⟩:=Jz.1 h;have:=S6 hu hA.meas;simp;omega
 split at h
 ·split at h;·rename_i hok;cases h;have:=Rn hok hA.small.lid hA.small.lm hA.small.lp;unfold Lw at this;rw [Ah,Di];omega
  ·cases h
 split at h
 ·split at h;·rename_i hok;cases h;have:=O8 hok hA.small.hold;unfold J2 at this;rw [Ah,Di];omega
  ·cases h
 split at h;·obtain⟨_,h⟩:=Option.ite_none_right_eq_some.1 h;cases h;have:=Mx hA.small.id hA.small.n;unfold Ch at this;rw [Ah,Di];omega
 ·cases h
theorem Vr (m:bD) (vk:ZC) (w:ZB) (hG:Gl w) (hM:gK w w m vk) : ZE prog 55 #[.agg (Av m vk).toArray] w (Ret w (bU (dh m))):=by
 obtain⟨R,hR⟩:∃ R,Hid (bU (dh m)=R):=⟨_,Aa rfl⟩
 rw [hR.out];have hRe:Hid (R=bU (match bf m.aB with
  |none=>none
  |some t=>if aT m&&bg m then some (CH.join [32] (Ds m t)++[59]) else none)):=Aa (hR.out.symm.trans (congrArg bU (Ts m)))
 clear hR;have T:=fun (W:ZB) (hb:Below w w W)=>Vu m.aB vk W (hG.below hb) ((hM.below hb nR).mono hb.size).kids hM.short hM.count hM.depth;obtain⟨ak,ck,rfl,hc1,hc2,hrow⟩:=hM.kids.form;clear hrow;have NM:=fun W=>Lcm m ak m.aB.kids.length ck W (Af hM.id dC) (Af hM.authority dC) (Af hM.target dC);have DT:=fun W=>Lzv m ak m.aB.kids.length ck W;generalize m.aB.kids.length=nk at *;obtain⟨ft,hft⟩:∃ r,bf m.aB=r:=⟨_,rfl⟩
 obtain⟨b1,h1⟩:∃ r,aT m=r:=⟨_,rfl⟩
 obtain⟨b2,h2⟩:∃ r,bg m=r:=⟨_,rfl⟩
 rw [hft] at T hRe;rw [h1] at NM hRe;rw [h2] at DT hRe;replace T:=Aa T;replace NM:=Aa NM;replace DT:=Aa DT;have hM:=Aa hM;have hB0:=fun o=>(Ac _ w).alloc nR o;have hW:=fun o=>Aw w o;dsimp only [Av,Ao] at T NM DT ⊢;obtain⟨O,hO⟩:∃ o:Obj,Hid (o=.cells #[↑m.id,↑m.authority,↑m.kind,↑m.target,↑m.aB.op,↑m.aB.name,↑m.aB.cmp,↑m.aB.n,.slice ak nk ck,↑m.start,↑m.aF,↑m.dP] 69):=⟨_,Aa rfl⟩
 have CB:∀ (W:ZB),W.heap[w.heap.size]?=some (.cells #[↑m.id,↑m.authority,↑m.kind,↑m.target,↑m.aB.op,↑m.aB.name,↑m.aB.cmp,↑m.aB.n,.slice ak nk ck,↑m.start,↑m.aF,↑m.dP] 69) ->
   ∀ i,W.cell? ⟨w,i,none⟩=#[↑m.id,↑m.authority,↑m.kind,↑m.target,↑m.aB.op,↑m.aB.name,↑m.aB.cmp,↑m.aB.n,.slice ak nk ck,↑m.start,↑m.aF,↑m.dP][i]?:=fun W h i=>Ab h i
 replace CB:=Aa CB;cases ft with
 |none =>obtain rfl:=hRe.out;dsimp only [bU] at T ⊢;clear NM DT;go_enter func55,ntmps55;go_wp2_with fail;refine CmZ (T.out _ (hB0 _)) fun w1 hb1=>?_;clear T;go_wp2;refine Aj (Aq rfl _ _ _) rfl ?_;exact FD106
 |some t =>
  dsimp only [bU] at T;go_enter func55,ntmps55;go_wp2_with fail;refine CmZ (T.out _ (hB0 _)) fun w1 hb1=>?_;have hB1:Below w w w1:=(hB0 _).trans (hb1.mono sM);have hk1:=(hb1.block w sM).trans (hW _);clear T hb1 hB0 hW;have c1:=CB.out w1 hk1;replace hk1:=Aa hk1;go_wp2_with fail;refine CmZ (NM.out _) fun w2 hb2=>?_;have hB2:Below w w w2:=hB1.trans (hb2.mono hB1.size);have hk2:=(hb2.block w (aZ hk1.out)).trans hk1.out;clear NM c1 hb2 hB1 hk1;have c2:=CB.out w2 hk2;replace hk2:=Aa hk2;cases b1 with
  |false =>obtain rfl:=hRe.out;clear DT;exact FD94
  |true =>
   go_wp2_with fail;refine CmZ (DT.out _) fun w3 hb3=>?_;have hB3:Below w w w3:=hB2.trans (hb3.mono hB2.size);have hk3:=(hb3.block w (aZ hk2.out)).trans hk2.out;have hl3:w.heap.size<w3.heap.size:=(aZ hk3)
   clear DT c2 hb3 hB2 hk2;have c3:=CB.out w3 hk3;replace hk3:=Aa hk3;cases b2 with
   |false =>obtain rfl:=hRe.out;go_wp2;refine Aj (Aq rfl _ _ _) rfl ?_;exact⟨rfl,hB3⟩
   |true =>
    have hkd:m.kind=1\/m.kind=2\/m.kind=3:=by
     unfold aT at h1;dsimp only at h1;by_cases q1:m.kind=1;·exact .inl q1
     by_cases q2:m.kind=2;·exact .inr (.inl q2)
     by_cases q3:m.kind=3;·exact .inr (.inr q3)
     rw [Ai q1,Ai q2,Ai q3] at h1;cases h1
    have hmm:=@Ji prog;obtain⟨kw,hkw⟩:∃ kw,Hid (dR m.kind=kw):=⟨_,Aa rfl⟩
    obtain⟨o1,o2,o3,u1,u2,u3,um⟩:=R0 (w3.alloc (.cells #[.slice none 0 0] 22)) 1 2 3 ([102,111,114,98,105,100]:Q00) ([101,120,101,109,112,116]:Q00) ([98,108,111,99,107]:Q00) rfl rfl rfl;have ul:=C5 Ty underlying117 (.string ⟨#[]⟩) V6 um m.kind;have ule:((Cd m.kind [((1:Int),aA ([102,111,114,98,105,100]:Q00)),(2,aA ([101,120,101,109,112,116]:Q00)),(3,aA ([98,108,111,99,107]:Q00))] 0).map (·.2)).getD (.string ⟨#[]⟩)=↑kw:=by rw [<- hkw.out];rcases hkd with e|e|e <;> rw [e] <;> rfl
    rw [ule] at ul;rw [Dt] at u1 u2 u3 ul um;have hp:∀ k,k≠w3.heap.size+1->(((((w3.alloc (.cells #[.slice none 0 0] 22)).alloc (.map #[] 0)).putObj (w3.heap.size+1) o1).putObj (w3.heap.size+1) o2).putObj (w3.heap.size+1) o3).heap[k]?=((w3.alloc (.cells #[.slice none 0 0] 22)).alloc (.map #[] 0)).heap[k]?:=fun k hk=>by rw [World.putObj_heap_other hk,World.putObj_heap_other hk,World.putObj_heap_other hk]
    have hBW:Below w3 w3 (((((w3.alloc (.cells #[.slice none 0 0] 22)).alloc (.map #[] 0)).putObj (w3.heap.size+1) o1).putObj (w3.heap.size+1) o2).putObj (w3.heap.size+1) o3):=B8 (B8 (B8 (((Ac _ w3).alloc nR _).alloc sM _) oM _) oM _) oM _;have hwA:Cs w3 w3 (((((w3.alloc (.cells #[.slice none 0 0] 22)).alloc (.map #[] 0)).putObj (w3.heap.size+1) o1).putObj (w3.heap.size+1) o2).putObj (w3.heap.size+1) o3) []:=Due (by rw [hp _ oM];simp only [World.alloc,Dk,Ef];rw [Ai oM,Au trivial]);have hk4:=(hBW.block w hl3).trans hk3.out;have c4:=CB.out _ hk4;have hXs:(((((w3.alloc (.cells #[.slice none 0 0] 22)).alloc (.map #[] 0)).putObj (w3.heap.size+1) o1).putObj (w3.heap.size+1) o2).putObj (w3.heap.size+1) o3).heap.size=w3.heap.size+1+1:=sM;clear hp um hkd c3;replace hwA:=Aa hwA;replace hBW:=Aa hBW;replace hk4:=Aa hk4;replace hXs:=Aa hXs;go_wp2_with fail;rw [<- hXs.out];clear u1 u2 u3 ul c4 hmm hXs;generalize (((((w3.alloc (.cells #[.slice none 0 0] 22)).alloc (.map #[] 0)).putObj (w3.heap.size+1) o1).putObj (w3.heap.size+1) o2).putObj (w3.heap.size+1) o3)=X at *;have BX:∀ (W W':ZB),Below w3 w3 W->Below w3 W W'->Below w3 w3 W'/\w3.heap.size<=W'.heap.size/\∀ i,W'.cell? ⟨w,i,none⟩=#[↑m.id,↑m.authority,↑m.kind,↑m.target,↑m.aB.op,↑m.aB.name,↑m.aB.cmp,↑m.aB.n,.slice ak nk ck,↑m.start,↑m.aF,↑m.dP][i]?:=fun W W' h1 h2=>by have h3:=h1.trans h2;exact⟨h3,h3.size,CB.out W' ((h3.block w hl3).trans hk3.out)⟩
    replace BX:=Aa BX;refine (N5 _ [kw] [] w3.heap.size w3 X hwA.out sM 1 rfl _ rfl).mono ?_;rintro e w4 ⟨rfl,hA4,hb4,_⟩;obtain⟨hB4,hs4,c4⟩:=BX.out _ _ hBW.out ((((Ac _ X).alloc hBW.out.size _)).trans hb4);obtain⟨L4,hL4⟩:∃ L,Hid (fO true [] [kw]=L):=⟨_,Aa rfl⟩
    rw [hL4.out] at hA4;replace hA4:=Aa hA4;replace hB4:=Aa hB4;have hn4:L4.length<=1:=by rw [<- hL4.out];simp [fO]
    clear hb4 hwA hBW hk4;go_wp2_with fail;refine (N5 _ [m.target] L4 w3 w3 w4 hA4.out (by simp;omega) 1 rfl _ rfl).mono ?_;rintro e w5 ⟨rfl,hA5,hb5,_⟩;obtain⟨hB5,hs5,c5⟩:=BX.out _ _ hB4.out ((((Ac _ w4).alloc hB4.out.size _)).trans hb5);obtain⟨L5,hL5⟩:∃ L,Hid (fO (!List.isEmpty m.target) L4 [m.target]=L):=⟨_,Aa rfl⟩
    rw [hL5.out] at hA5;replace hA5:=Aa hA5;replace hB5:=Aa hB5;have hn5:L5.length<=2:=by rw [<- hL5.out];exact Af (Rs _ _ _) (by simp only [A8,Bj];omega)
    clear hb5 c4 hA4;go_wp2_with fail;refine (N5 _ [m.id,([111,102]:Q00),m.authority] L5 w3 w3 w5 hA5.out (by simp;omega) 3 rfl _ rfl).mono ?_;rintro e w6 ⟨rfl,hA6,hb6,_⟩;obtain⟨hB6,hs6,c6⟩:=BX.out _ _ hB5.out ((((Ac _ w5).alloc hB5.out.size _)).trans hb6);obtain⟨L6,hL6⟩:∃ L,Hid (fO true L5 [m.id,([111,102]:Q00),m.authority]=L):=⟨_,Aa rfl⟩
    rw [hL6.out] at hA6;replace hA6:=Aa hA6;replace hB6:=Aa hB6;have hn6:L6.length<=5:=by rw [<- hL6.out];exact Af (Rs _ _ _) (by simp only [A8,Bj];omega)
    clear hb6 c5 hA5;go_wp2_with fail;refine (N5 _ [([105,102]:Q00),t] L6 w3 w3 w6 hA6.out (by simp;omega) 2 rfl _ rfl).mono ?_;rintro e w7 ⟨rfl,hA7,hb7,_⟩;obtain⟨hB7,hs7,c7⟩:=BX.out _ _ hB6.out ((((Ac _ w6).alloc hB6.out.size _)).trans hb7);obtain⟨L7,hL7⟩:∃ L,Hid (fO (m.aB.op != 1) L6 [([105,102]:Q00),t]=L):=⟨_,Aa rfl⟩
    rw [hL7.out] at hA7;replace hA7:=Aa hA7;replace hB7:=Aa hB7;have hn7:L7.length<=7:=by rw [<- hL7.out];exact Af (Rs _ _ _) (by simp only [A8,Bj];omega)
    clear hb7 c6 hA6;have hGW:∀ W,Below w3 w3 W->Gl W:=fun W hb=>hG.below (hB3.trans (hb.mono hB3.size));have ny:=hM.out.nums;have I1:=Aa fun (W:ZB) (hg:Gl W)=>G0 m.start W ny.s.1 ny.s.2 hg;have I2:=Aa fun (W:ZB) (hg:Gl W)=>G0 m.aF W ny.u.1 ny.u.2 hg;have I3:=Aa fun (W:ZB) (hg:Gl W)=>G0 m.dP W ny.w.1 ny.w.2 hg;clear ny;replace hGW:=Aa hGW;go_wp2_with fail;refine CmZ (I1.out _ (hGW.out _ hB7.out)) fun w7b zT=>?_;clear I1;go_wp2_with fail;refine (N5 _ [([102,114,111,109]:Q00),ZK m.start] L7 w3 w3 w7b (hA7.out.below zT) (by simp;omega) 2 rfl _ rfl).mono ?_;rintro e w8 ⟨rfl,hA8,hb8,_⟩;obtain⟨hB8,hs8,c8⟩:=BX.out _ _ (hB7.out.trans (zT.mono hB7.out.size)) ((((Ac _ w7b).alloc (hB7.out.trans (zT.mono hB7.out.size)).size _)).trans hb8);obtain⟨L8,hL8⟩:∃ L,Hid (fO true L7 [([102,114,111,109]:Q00),ZK m.start]=L):=⟨_,Aa rfl⟩
    rw [hL8.out] at hA8;replace hA8:=Aa hA8;replace hB8:=Aa hB8;have hn8:L8.length<=9:=by rw [<- hL8.out];exact Af (Rs _ _ _) (by simp only [A8,Bj];omega)
    clear hb8 c7 hA7;have SS9:∀ W',Below w3 w8 W'->W'.cell? ⟨w,10,none⟩=some ↑m.aF:=fun W' hb=>(hb.cell (p:=⟨w,10,none⟩) hl3).trans (c8 10);have hD9:Below w3 w8 w8.drew:=(Ac _ w8).drew;have ES:=hGW.out _ (hB8.out.trans hD9);have yu:=hA8.out.below (Ac w8 w8).drew;replace SS9:=Aa SS9;replace yu:=Aa yu;go_wp2_with fail;go_region_held3 (fun W'=>W'.cell? ⟨w,10,none⟩=some ↑m.aF) ((refine SS9.out _ ?_;first|exact hU9|exact hT9.alloc hV9 _|exact hT9|exact hD9)) (first |(go_at_call 100;refine CmZ (I2.out _ ES) fun wI9 zS=>?_;have hT9:Below w3 w8 wI9:=hD9.trans (zS.mono (by simp;exact hs8));have hV9:w3.heap.size<=wI9.heap.size:=by (have:=hT9.size;omega)) |(go_at_call 106;refine (N5 _ [([117,110,116,105,108]:Q00),ZK m.aF] L8 w3 w3 wI9 (yu.out.below zS) (by simp;omega) 2 rfl _ rfl).mono ?_;rintro e w9 ⟨rfl,hA9,hb9,_⟩;have hU9:Below w3 w8 w9:=(hT9.alloc hV9 _).trans hb9))
    obtain⟨hB9,hs9,c9⟩:=BX.out _ _ hB8.out hU9;obtain⟨L9,hL9⟩:∃ L,Hid (fO (ZH (0<=m.aF)) L8 [([117,110,116,105,108]:Q00),ZK m.aF]=L):=⟨_,Aa rfl⟩
    rw [hL9.out] at hA9;replace hA9:=Aa hA9;replace hB9:=Aa hB9;have hn9:L9.length<=11:=by rw [<- hL9.out];exact Af (Rs _ _ _) (by simp only [A8,Bj];omega)
    clear hb9 c8 hA8 hU9 hT9 zS yu ES I2;have BJ:∀ W',Below w3 w9 W'->W'.cell? ⟨w,11,none⟩=some ↑m.dP:=fun W' hb=>(hb.cell (p:=⟨w,11,none⟩) hl3).trans (c9 11);have AQ:Below w3 w9 w9.drew:=(Ac _ w9).drew;have yH:=hGW.out _ (hB9.out.trans AQ);have uH:=hA9.out.below (Ac w9 w9).drew;replace BJ:=Aa BJ;replace uH:=Aa uH;go_wp2_with fail;go_region_held3 (fun W'=>W'.cell? ⟨w,11,none⟩=some ↑m.dP) ((refine BJ.out _ ?_;first|exact AB|exact wS.alloc EM _|exact wS|exact AQ)) (first |(go_at_call 100;refine CmZ (I3.out _ yH) fun yQ wO=>?_;have wS:Below w3 w9 yQ:=AQ.trans (wO.mono (by simp;exact hs9));have EM:w3.heap.size<=yQ.heap.size:=by (have:=wS.size;omega)) |(go_at_call 106;refine (N5 _ [([119,105,110,100]:Q00),ZK m.dP] L9 w3 w3 yQ (uH.out.below wO) (by simp;omega) 2 rfl _ rfl).mono ?_;rintro e w10 ⟨rfl,hA10,jO,_⟩;have AB:Below w3 w9 w10:=(wS.alloc EM _).trans jO))
    obtain⟨nM,hs10,c10⟩:=BX.out _ _ hB9.out AB;obtain⟨L10,AO⟩:∃ L,Hid (fO (ZH (0<m.dP)) L9 [([119,105,110,100]:Q00),ZK m.dP]=L):=⟨_,Aa rfl⟩
    rw [AO.out] at hA10;replace hA10:=Aa hA10;replace nM:=Aa nM;have JQ:L10.length<=13:=by rw [<- AO.out];exact Af (Rs _ _ _) (by simp only [A8,Bj];omega)
    clear jO c9 hA9 AB wS wO uH yH I3;obtain⟨v,hv,hO,_,_⟩:=hA10.out;obtain⟨av,cv,rfl,_,_,_⟩:=hO.form;have c11:w10.cell? ⟨w3,0,none⟩=some (.slice av L10.length cv):=Ab hv 0;have hL:L10=Ds m t:=by have te:=G4 m.target;rw [<- AO.out,<- hL9.out,<- hL8.out,<- hL7.out,<- hL6.out,<- hL5.out,<- hL4.out,<- hkw.out];unfold Ds;rw [te,Bool.not_not]
    have htl:=S7 hft hM.out.short;have yt:dU 6000000 L10:=by
     rw [hL];have i1:=Lib.itoa_length_le m.start hM.out.nums.s.1 hM.out.nums.s.2;have i2:=Lib.itoa_length_le m.aF hM.out.nums.u.1 hM.out.nums.u.2;have i3:=Lib.itoa_length_le m.dP hM.out.nums.w.1 hM.out.nums.w.2;have hid:=hM.out.id;have hau:=hM.out.authority;have htg:=hM.out.target;have hkl:(dR m.kind).length<=6:=by (unfold dR;repeat' split);all_goals decide
     exact FD59
    have hjl:(CH.join [32] L10).length<=100000000:=by have:=Kj [32] 6000000 L10 yt;have h13:L10.length*(6000000+[(32:UInt8)].length)<=13*(6000000+1):=Dh _ JQ;omega
    have J:=Aa (Lx _ L10 [32] w10 hO.strs oM oM);have hRf:Hid (R=bU (some (CH.join [32] L10++[59]))):=Aa (by rw [hRe.out,hL];rfl);generalize CH.join [32] L10=JJ at *;generalize L10.length=LL at *;have l1:¬ (9223372036854775807<JJ.length+1):=oM;clear hO hv yt hL hRe hA10 c10;go_wp2_with fail;refine CmZ J.out fun w11 KX=>?_;clear J c11;go_wp2;refine Aj (Aq rfl _ _ _) rfl ?_;have yI:Below w w w10:=hB3.trans (nM.out.mono hB3.size);refine⟨?_,yI.trans (KX.mono yI.size)⟩;rw [hRf.out];unfold bU;dsimp only;rw [<- bytes_append];rfl
theorem Crs (vn:ZC) (c:CH.Change) (w:ZB) (hG:Gc w) (hv:C6 w w vn c.entry.names) (hS:iT c) (hp0:-9223372036854775808<=c.pos) (hp1:c.pos<=9223372036854775807) : ZE prog 54 #[.agg (A5 c vn).toArray] w (Ret w (bU (bQ c))):=by
 obtain⟨r,hr⟩:∃ r,Hid (bU (bQ c)=r):=⟨_,Aa rfl⟩
 rw [hr.out];have hB0:=fun o=>(Ac _ w).alloc nR o;have hW:=fun o=>Aw w o;have F:=fun (w':ZB) (hb:Below w w w')=>I23 vn c w' (hG.below hb) ((hv.below hb nR).mono hb.size) hS;obtain⟨an,cn,rfl,OG,OE⟩:=hv.form;generalize hN:c.entry.names.length=N at *;dsimp only [A5] at F ⊢;cases hok:dn c with
 |false =>rw [hok] at F;have F:=Aa F;go_enter func54,ntmps54;go_wp2_with fail;refine CmZ (F.out _ (hB0 _)) fun w1 hb1=>?_;clear F;go_wp2;refine Aj (Aq rfl _ _ _) rfl ?_;exact⟨by rw [<- hr.out];unfold bQ;rw [hok];rfl,(hB0 _).trans (hb1.mono sM)⟩
 |true =>
  rw [hok] at F;have F:=Aa F;have hk:=I10 hok;go_enter func54,ntmps54;go_wp2_with fail;refine CmZ (F.out _ (hB0 _)) fun w1 hb1=>?_;clear F;have hB1:Below w w w1:=(hB0 _).trans (hb1.mono sM);have hblk:=(hb1.block w sM).trans (hW _);have hlt1:w.heap.size<w1.heap.size:=(aZ hblk)
  clear hb1 hW hB0;have HB:=Aa hblk;obtain⟨kn,hkn,NZ,NY⟩:∃ kn:Nat,c.kind=kn/\1<=kn/\kn<=4:=⟨c.kind.toNat,oM,oM,oM⟩
  have k0:w1.cell? ⟨w,0,none⟩=some ↑kn:=by rw [<- hkn];exact Ab hblk 0
  have k1:w1.cell? ⟨w,1,none⟩=some ↑c.id:=Ab hblk 1;clear hblk;go_wp2_with fail;have SS:∀ W',Below w1 w1 W'->W'.cell? ⟨w,0,none⟩=some ↑kn/\W'.cell? ⟨w,1,none⟩=some ↑c.id:=fun W' hb=>⟨(hb.cell (p:=⟨w,0,none⟩) hlt1).trans k0,(hb.cell (p:=⟨w,1,none⟩) hlt1).trans k1⟩
  obtain⟨kw,hkw⟩:∃ kw,Hid (CH.kindWord c.kind=kw):=⟨_,Aa rfl⟩
  have hkc:∀ (W':ZB),(W'.alloc (.cells #[.string ⟨#[]⟩,.string ⟨([97,100,100]:Q00).toArray⟩,.string ⟨([114,101,109,111,118,101]:Q00).toArray⟩,.string ⟨([99,111,114,114,101,99,116]:Q00).toArray⟩,.string ⟨([118,111,105,100]:Q00).toArray⟩] 9)).cell? ⟨W',kn,none⟩=some ↑kw:=fun W'=>by rw [Cm,<- hkw.out,hkn];rcases (oM:kn=1\/kn=2\/kn=3\/kn=4) with rfl|rfl|rfl|rfl <;> rfl
  have hBd:Below w1 w1 w1.drew:=(Ac _ w1).drew;have k0d:=fun o=>(SS _ (hBd.alloc nR o))
  have JX:∀ (W':ZB) o,((W'.alloc (.cells #[.string ⟨#[]⟩,.string ⟨([97,100,100]:Q00).toArray⟩,.string ⟨([114,101,109,111,118,101]:Q00).toArray⟩,.string ⟨([99,111,114,114,101,99,116]:Q00).toArray⟩,.string ⟨([118,111,105,100]:Q00).toArray⟩] 9)).alloc o).cell? ⟨W',kn,none⟩=some ↑kw:=fun W' o=>by rw [G6 _ _ _ (by rw [hkc];rfl)];exact hkc W'
  have JW:∀ o,((w1.alloc o).alloc (.cells #[.string ⟨#[]⟩,.string ⟨([97,100,100]:Q00).toArray⟩,.string ⟨([114,101,109,111,118,101]:Q00).toArray⟩,.string ⟨([99,111,114,114,101,99,116]:Q00).toArray⟩,.string ⟨([118,111,105,100]:Q00).toArray⟩] 9)).cell? ⟨w1+1,kn,none⟩=some ↑kw:=fun o=>by have:=hkc (w1.alloc o);rwa [Dt] at this
  rename_i K hK;have TAIL:∀ (P:Nat) (v13 v16 v20:ZC) (X:ZB),Cs w1 P X [kw,c.id]->Below w1 w1 X->K { tmps:=#[.agg #[↑kn,↑c.id,↑c.entry.id,.slice an N cn,↑c.pos],.pointer (some ⟨w,0,none⟩),.string ⟨#[]⟩,.int .i64 0,.pointer (some ⟨P,0,none⟩),ZA,ZA,ZA,ZA,ZA,.agg #[↑kn,↑c.id,↑c.entry.id,.slice an N cn,↑c.pos],.bool true,.bool false,v13,.pointer (some ⟨w,0,none⟩),↑kn,v16,↑kw,.pointer (some ⟨w,1,none⟩),↑c.id,v20,ZA,ZA,ZA,ZA,ZA,ZA,ZA,ZA,ZA,ZA,ZA,ZA,ZA,ZA,ZA,ZA,ZA,ZA,ZA,ZA,ZA,ZA,ZA,ZA,ZA,ZA,ZA,ZA,ZA,ZA,ZA,ZA,ZA,ZA,ZA,ZA,ZA,ZA],defers:=[] } X:=by
   intro P v13 v16 v20 X hA hBX;refine hK _ _ ?_;clear hkc JX JW k0d SS;have m0:X.cell? ⟨w,0,none⟩=some ↑kn:=(hBX.cell (p:=⟨w,0,none⟩) hlt1).trans k0;have m3:X.cell? ⟨w,3,none⟩=some (.slice an N cn):=(hBX.cell (p:=⟨w,3,none⟩) hlt1).trans (Ab HB.out 3);have m4:X.cell? ⟨w,4,none⟩=some ↑c.pos:=(hBX.cell (p:=⟨w,4,none⟩) hlt1).trans (Ab HB.out 4);have zu:=Lib.itoa_length_le c.pos hp0 hp1;have hkl:kw.length<=1000000000100:=by rw [<- hkw.out];exact Af (Ro _) dC
   have wG:Hid (c.id.length<=1000000000100):=Aa (by have:=hS.id;omega);have zu:Hid ((ZK c.pos).length<=1000000000100):=Aa oM;replace hkl:=Aa hkl;rcases (oM:kn=1\/kn=2\/kn=3\/kn=4) with e|e|e|e;·exact FD5
   ·exact FD5
   ·exact FD9
   ·exact FD9
  have z0:(0:Int)<=(kn:Int):=oM;have zk:((kn:Int)).toNat=kn:=oM;have hk5:(kn:Int)<5:=oM;refine Ed (S:=(fun W'=>W'.cell? ⟨w,0,none⟩=some ↑kn/\W'.cell? ⟨w,1,none⟩=some ↑c.id)) kR (SS _ hBd) fun kz=>?_;refine tj 1 ?_;push_cast;refine tj 2 ?_;push_cast;refine tj 5 ?_;push_cast;refine tj 6 ?_;push_cast;refine Ew (rs:=[0,8]) kR sM ?_;refine Cc (o:=_) rfl (fun K hK=>?_) ?_;focus
   go_simp;refine (Bln _).mono ?_;rintro e w2 ⟨rfl,rfl⟩;go_wp2_with fail;refine hK.out _ _ (by refine SS _ ?_;repeat (first|exact hBd|exact Ac _ _|refine G9 ?_|refine Fg ?_ (by simp <;> omega) _|refine Fp ?_ (by simp <;> omega) _)) (fun kz=>?_);clear hK K;push_cast;refine tj 3 ?_;push_cast;refine Ew (rs:=[4,8]) kR sM ?_;refine Cc (o:=_) rfl (fun K hK=>?_) ?_;focus
    go_simp;refine hK.out _ _ (by refine SS _ ?_;repeat (first|exact hBd|exact Ac _ _|refine G9 ?_|refine Fg ?_ (by simp <;> omega) _|refine Fp ?_ (by simp <;> omega) _)) (fun kz=>?_);clear hK K;push_cast;refine Ew (rs:=[7,8]) kR sM ?_;refine Cc (o:=_) rfl (fun K hK=>?_) ?_;focus go_simp;refine hK.out _ _ (by refine SS _ ?_;repeat (first|exact hBd|exact Ac _ _|refine G9 ?_|refine Fg ?_ (by simp <;> omega) _|refine Fp ?_ (by simp <;> omega) _)) (fun kz=>?_);clear hK K;push_cast;refine rk 8 rfl fun K hK=>?_;go_simp;refine hK.out _ _ (by refine SS _ ?_;repeat (first|exact hBd|exact Ac _ _|refine G9 ?_|refine Fg ?_ (by simp <;> omega) _|refine Fp ?_ (by simp <;> omega) _)) (fun kz=>?_);clear hK K;push_cast;refine rk 9 rfl fun K hK=>?_;go_simp;refine hK.out _ _ (by refine SS _ ?_;repeat (first|exact hBd|exact Ac _ _|refine G9 ?_|refine Fg ?_ (by simp <;> omega) _|refine Fp ?_ (by simp <;> omega) _)) (fun kz=>?_);clear hK K;push_cast;refine Dy kR ?_ _
    rotate_left 1;refine Cc (o:=_) rfl (fun K hK=>?_) Eo;focus go_simp;refine hK.out _ _ (by refine SS _ ?_;repeat (first|exact hBd|exact Ac _ _|refine G9 ?_|refine Fg ?_ (by simp <;> omega) _|refine Fp ?_ (by simp <;> omega) _)) (fun kz=>?_);clear hK K;push_cast;refine rk 7 rfl fun K hK=>?_;go_simp;refine hK.out _ _ (by refine SS _ ?_;repeat (first|exact hBd|exact Ac _ _|refine G9 ?_|refine Fg ?_ (by simp <;> omega) _|refine Fp ?_ (by simp <;> omega) _)) (fun kz=>?_);clear hK K;push_cast;refine rk 9 rfl fun K hK=>?_;go_simp;refine hK.out _ _ (by refine SS _ ?_;repeat (first|exact hBd|exact Ac _ _|refine G9 ?_|refine Fg ?_ (by simp <;> omega) _|refine Fp ?_ (by simp <;> omega) _)) (fun kz=>?_);clear hK K;push_cast;refine Dy kR ?_ _
   rotate_left 2;refine Cc (o:=_) rfl (fun K hK=>?_) Eo;focus go_simp;refine hK.out _ _ (by refine SS _ ?_;repeat (first|exact hBd|exact Ac _ _|refine G9 ?_|refine Fg ?_ (by simp <;> omega) _|refine Fp ?_ (by simp <;> omega) _)) (fun kz=>?_);clear hK K;push_cast;refine rk 4 rfl fun K hK=>?_;go_simp;refine hK.out _ _ (by refine SS _ ?_;repeat (first|exact hBd|exact Ac _ _|refine G9 ?_|refine Fg ?_ (by simp <;> omega) _|refine Fp ?_ (by simp <;> omega) _)) (fun kz=>?_);clear hK K;push_cast;refine rk 7 rfl fun K hK=>?_;go_simp;refine hK.out _ _ (by refine SS _ ?_;repeat (first|exact hBd|exact Ac _ _|refine G9 ?_|refine Fg ?_ (by simp <;> omega) _|refine Fp ?_ (by simp <;> omega) _)) (fun kz=>?_);clear hK K;push_cast;refine rk 9 rfl fun K hK=>?_;go_simp;refine hK.out _ _ (by refine SS _ ?_;repeat (first|exact hBd|exact Ac _ _|refine G9 ?_|refine Fg ?_ (by simp <;> omega) _|refine Fp ?_ (by simp <;> omega) _)) (fun kz=>?_);clear hK K;push_cast;refine Dy kR ?_ _
  rotate_left 3;refine Cc (o:=_) rfl (fun K hK=>?_) Eo;focus go_simp;refine hK.out _ _ (by refine SS _ ?_;repeat (first|exact hBd|exact Ac _ _|refine G9 ?_|refine Fg ?_ (by simp <;> omega) _|refine Fp ?_ (by simp <;> omega) _)) (fun kz=>?_);clear hK K;push_cast;refine rk 0 rfl fun K hK=>?_;go_simp;refine (Bln _).mono ?_;rintro e w2 ⟨rfl,rfl⟩;go_wp2_with fail;refine hK.out _ _ (by refine SS _ ?_;repeat (first|exact hBd|exact Ac _ _|refine G9 ?_|refine Fg ?_ (by simp <;> omega) _|refine Fp ?_ (by simp <;> omega) _)) (fun kz=>?_);clear hK K;push_cast;refine tj 3 ?_;push_cast;refine rk 4 rfl fun K hK=>?_;go_simp;refine hK.out _ _ (by refine SS _ ?_;repeat (first|exact hBd|exact Ac _ _|refine G9 ?_|refine Fg ?_ (by simp <;> omega) _|refine Fp ?_ (by simp <;> omega) _)) (fun kz=>?_);clear hK K;push_cast;refine rk 7 rfl fun K hK=>?_;go_simp;refine hK.out _ _ (by refine SS _ ?_;repeat (first|exact hBd|exact Ac _ _|refine G9 ?_|refine Fg ?_ (by simp <;> omega) _|refine Fp ?_ (by simp <;> omega) _)) (fun kz=>?_);clear hK K;push_cast;refine rk 9 rfl fun K hK=>?_;go_simp;refine hK.out _ _ (by refine SS _ ?_;repeat (first|exact hBd|exact Ac _ _|refine G9 ?_|refine Fg ?_ (by simp <;> omega) _|refine Fp ?_ (by simp <;> omega) _)) (fun kz=>?_);clear hK K;push_cast;refine Dy kR ?_ _
  all_goals first |exact TAIL _ _ _ _ _ (Tq w1 (.cells #[.string ⟨#[]⟩,.string ⟨([97,100,100]:Q00).toArray⟩,.string ⟨([114,101,109,111,118,101]:Q00).toArray⟩,.string ⟨([99,111,114,114,101,99,116]:Q00).toArray⟩,.string ⟨([118,111,105,100]:Q00).toArray⟩] 9) (.cells #[↑kw,↑c.id] 9) (.cells #[.slice (some ⟨w1+1,0,none⟩) 2 2] 22) 2 1 dC kw c.id rfl rfl).1 (Tq w1 (.cells #[.string ⟨#[]⟩,.string ⟨([97,100,100]:Q00).toArray⟩,.string ⟨([114,101,109,111,118,101]:Q00).toArray⟩,.string ⟨([99,111,114,114,101,99,116]:Q00).toArray⟩,.string ⟨([118,111,105,100]:Q00).toArray⟩] 9) (.cells #[↑kw,↑c.id] 9) (.cells #[.slice (some ⟨w1+1,0,none⟩) 2 2] 22) 2 1 dC kw c.id rfl rfl).2 |exact TAIL _ _ _ _ _ (Tq w1 (.cells #[.string ⟨#[]⟩,.string ⟨([97,100,100]:Q00).toArray⟩,.string ⟨([114,101,109,111,118,101]:Q00).toArray⟩,.string ⟨([99,111,114,114,101,99,116]:Q00).toArray⟩,.string ⟨([118,111,105,100]:Q00).toArray⟩] 9) (.cells #[.slice (some ⟨w1+1+1,0,none⟩) 2 2] 22) (.cells #[↑kw,↑c.id] 9) 1 2 dC kw c.id rfl rfl).1 (Tq w1 (.cells #[.string ⟨#[]⟩,.string ⟨([97,100,100]:Q00).toArray⟩,.string ⟨([114,101,109,111,118,101]:Q00).toArray⟩,.string ⟨([99,111,114,114,101,99,116]:Q00).toArray⟩,.string ⟨([118,111,105,100]:Q00).toArray⟩] 9) (.cells #[.slice (some ⟨w1+1+1,0,none⟩) 2 2] 22) (.cells #[↑kw,↑c.id] 9) 1 2 dC kw c.id rfl rfl).2 |exact TAIL _ _ _ _ _ (Tq w1 (.cells #[.slice (some ⟨w1+1+1,0,none⟩) 2 2] 22) (.cells #[.string ⟨#[]⟩,.string ⟨([97,100,100]:Q00).toArray⟩,.string ⟨([114,101,109,111,118,101]:Q00).toArray⟩,.string ⟨([99,111,114,114,101,99,116]:Q00).toArray⟩,.string ⟨([118,111,105,100]:Q00).toArray⟩] 9) (.cells #[↑kw,↑c.id] 9) 0 2 dC kw c.id rfl rfl).1 (Tq w1 (.cells #[.slice (some ⟨w1+1+1,0,none⟩) 2 2] 22) (.cells #[.string ⟨#[]⟩,.string ⟨([97,100,100]:Q00).toArray⟩,.string ⟨([114,101,109,111,118,101]:Q00).toArray⟩,.string ⟨([99,111,114,114,101,99,116]:Q00).toArray⟩,.string ⟨([118,111,105,100]:Q00).toArray⟩] 9) (.cells #[↑kw,↑c.id] 9) 0 2 dC kw c.id rfl rfl).2
end
section
open Go.Lib Go.Proofs.Tryz Go.RowKit Go.Shelf Go.Sort CH
section
open CH
variable {F:Fence} {n:Nat} {P:Program}
theorem Fig {α:Type} {g:Operand} {ps:Array Tmp} {assign body:Code} {Q:Exit->Act->ZB->Prop} {a:Act} {w:ZB}
  (hro:F.round=none) (h1:1<=n) {gf:Nat} {lb:Array ZC} (hg:a.eval g=.func (.func gf) #[] lb) (hFg:F.fn gf) (eg:∀ args w,(callFunc gf args).run P w=.ok (.enter gf args) w)
  {encs:α->Array ZC} {S Sp:List α->Prop} {N:Nat} {w0:ZB} (hseq:SeqStopsK F (n - 1) P gf lb encs KeepsWalks S Sp N w0)
  (hb0:Below w0.heap.size w0 w) (hps:∀ x,(encs x).size=ps.size)
  (I:List α->ZB->Prop) (hI:OwnFrom w.heap.size I) (h0:I [] w) (a₁:α->Nat->Act) (asg:α->ZB->ZB) (Bx:α->Nat->ZB->Prop)
  (hassign:∀ (l:Nat) (x:α) (W:ZB) (K:Act->ZB->Prop),K (a₁ x W.heap.size) (asg x W) ->
   assign.wpIn (F.inRound l) (n - 1 - 1) P (Exit.then K (fun _ _ _=>False)) { tmps:=(ps.zip (encs x)).foldl (fun t (p,v)=>t.setIfInBounds p v) a.tmps,defers:=[] } W)
  (KZ:∀ x W,Below W.heap.size W (asg x W)) (hBx:∀ x W,Bx x W.heap.size (asg x W))
  (hBp:∀ x b V l (o o':Obj),Bx x b V->V.heap[l]?=some o->o.isCells=false->Bx x b (V.putObj l o'))
  (hbody:∀ (l:Nat) (pre:List α) (x:α) (b:Nat) (W:ZB),I pre W->Bx x b W->pre.length<N->body.wpIn (F.inRound l) (n - 1 - 1) P (ownPostK KeepsWalks I (fun _ _ _=>False) (pre++[x]) W) (a₁ x b) W)
  (hdone:∀ (D:Nat) (xs:List α) (W:ZB),w.heap.size<=D->S xs->I xs W->W.heap[D]?=some (.deferred (some []))->Q .normal { a with defers:={ target:=.collected D,args:=#[] }::a.defers } W) :
  (Code.rangeFunc g ps assign body).wpIn F n P Q a w:=by
 refine wpIn_rangeFunc ?_
 intro fn hfn
 rw [hro]
 obtain⟨rec,hrec⟩:∃ rec:LoopState->Option Code->Loop,rec=fun st pe=>{ state:=st,pending:=pe,fn,tmps:=a.tmps,params:=ps,assign,body,defers:=w.heap.size }:=⟨_,rfl⟩
 obtain⟨V,hV⟩:∃ V,(w.alloc (.deferred (some []))).alloc (.loop (rec .ready none))=V:=⟨_,rfl⟩
 have bV:Below w.heap.size w V:=by rw [<- hV];exact ((Ac _ w).alloc nR _).alloc sM _
 have zV:V.heap.size=w.heap.size+1+1:=by rw [<- hV];simp
 have vX:V.heap[w.heap.size+1]?=some (.loop (rec .ready none)):=by
  exact FD150
 have tN:V.heap[w.heap.size]?=some (.deferred (some [])):=by
  rw [<- hV];exact (Kw _ _ _ sM).trans (Aw w _)
 have IV:I [] V:=by rw [<- hV];exact hI.alloc _ (hI.alloc _ h0)
 refine⟨w.heap.size+1,[{ target:=.collected w.heap.size,args:=#[] }],V,{ target:=.fn (.func gf) lb,args:=#[.func (.yield (w.heap.size+1)) #[] #[]] },V,gf,
  #[.func (.yield (w.heap.size+1)) #[] #[]]++lb,V,?_,?_,?_,?_,fun _=>h1,?_⟩
 ·rw [<- hV,hrec];exact run_enterLoop_outer _ _ _ _ _
 ·simp only [resolve,hg]
  simp [go_sem]
 ·intro f' hf';simp [Target.leads] at hf';subst hf';exact hFg
 ·simp [invoke,go_sem,eg]
 have far:∀ {A:ZB} {row:Option Nat},(∀ r,row=some r->V.heap.size<=r/\∃ o:Obj,A.heap[r]?=some o/\o.isWalk=true)->∀ r,row=some r->w.heap.size<=r/\∃ o:Obj,A.heap[r]?=some o/\o.isCells=false :=
  fun hr r e=>by obtain⟨h1,o,h2,h3⟩:=hr r e;exact⟨oM,o,h2,Obj.not_cells_of_walk h3⟩
 refine (hseq (w.heap.size+1)
  (fun pre A=>I pre A/\A.heap[w.heap.size+1]?=some (.loop (rec .ready none))/\A.heap[w.heap.size]?=some (.deferred (some [])))
  (fun _ _=>False)
  V (hb0.trans (bV.mono hb0.size))
  (fun s A B row hs hg' hr=>⟨hI s A B row hs.1 hg' (far hr),(grownBy_keeps hg' (fun r e=>(hr r e).2) hs.2.1 rfl).trans hs.2.1,(grownBy_keeps hg' (fun r e=>(hr r e).2) hs.2.2 rfl).trans hs.2.2⟩)
  (fun _ _ _ _ hs _ _=>hs)
  ?_ ⟨IV,vX,tN⟩).mono ?_
 ·rintro pre x A0 ⟨hi0,hl0,hk0⟩ hlen
  have hlt0:w.heap.size+1<A0.heap.size:=(aZ hl0)
  have hy:=run_yield (P:=P) (args:=encs x) hl0 (by rw [hrec];exact hps x)
  rw [hrec] at hy
  obtain⟨A,hA⟩:∃ A,asg x A0=A:=⟨_,rfl⟩
  have bA:Below A0.heap.size A0 A:=by rw [<- hA];exact KZ x A0
  have xA:Bx x A0.heap.size A:=by rw [<- hA];exact hBx x A0
  have hi:I pre A:=hI pre A0 A none hi0 (O9 bA) (fun r e=>by cases e)
  have hl:A.heap[w.heap.size+1]?=some (.loop (rec .ready none)):=(bA.block _ hlt0).trans hl0
  have hk:A.heap[w.heap.size]?=some (.deferred (some [])):=(bA.block _ oM).trans hk0
  have hlt:w.heap.size+1<A.heap.size:=(aZ hl)
  refine⟨fn,_,assign,body,hy,roundIn_of_wpIn hfn (hassign _ x A0 _ ?_)⟩
  rw [hA]
  refine⟨_,run_beginRound hl (by rw [hrec]),?_⟩
  obtain⟨busy,jM⟩:∃ b:Obj,b=.loop { rec .ready none with state:=.busy }:=⟨_,rfl⟩
  rw [<- jM]
  have l2:(A.putObj (w.heap.size+1) busy).heap[w.heap.size+1]?=some busy:=World.putObj_heap_same hlt
  have k2:(A.putObj (w.heap.size+1) busy).heap[w.heap.size]?=some (.deferred (some [])):=(World.putObj_heap_other oM).trans hk
  have b2:KeepsWalks A0 (A.putObj (w.heap.size+1) busy):=(Rr bA).trans (KeepsWalks.putObj _ hl rfl)
  have i2:I pre (A.putObj (w.heap.size+1) busy):=hI.putObj _ hi oM hl rfl
  have x2:Bx x A0.heap.size (A.putObj (w.heap.size+1) busy):=hBp _ _ _ _ _ _ xA hl rfl
  have ends:∀ (C:ZB),KeepsOthers (A.putObj (w.heap.size+1) busy) C ->
    (Instr.endRound (w.heap.size+1) none).run P C=.ok (.bool true) (C.putObj (w.heap.size+1) (.loop (rec .ready none))) /\
    C.heap[w.heap.size+1]?=some busy /\
    (C.putObj (w.heap.size+1) (.loop (rec .ready none))).heap[w.heap.size+1]?=some (.loop (rec .ready none)) /\
    (C.putObj (w.heap.size+1) (.loop (rec .ready none))).heap[w.heap.size]?=some (.deferred (some [])):=fun C hC=>by
   have l3:=hC.same _ _ l2 (by rw [jM];rfl)
   have l3':=l3
   rw [jM] at l3'
   have:=run_endRound (P:=P) none l3'
   rw [hrec] at this ⊢
   exact⟨this,l3,World.putObj_heap_same (aZ l3),(World.putObj_heap_other oM).trans (hC.same _ _ k2 rfl)⟩
  refine wpIn_mono (hbody _ pre x _ _ i2 x2 hlen) ?_
  rintro e a3 C hC
  cases e with
  |normal =>
   obtain⟨hk3,hkp3,hi3⟩:=hC
   obtain⟨hr,hl3,hl4,hk4⟩:=ends C hk3
   exact⟨_,_,hr,.inl ⟨rfl,⟨hI.putObj _ hi3 oM hl3 (by rw [jM];rfl),hl4,hk4⟩,(b2.trans hkp3).trans (KeepsWalks.putObj _ hl3 (by rw [jM];rfl))⟩⟩
  |ret=>exact hC.2.elim
  |exit id=>exact hC.2.elim
  |goto t=>exact hC.2.elim
  |panic ch=>exact hC.elim
  |outgrown=>exact hC.elim
 ·rintro e B ⟨⟨v,rfl⟩,(⟨xs,hS,hi,hl,hk⟩|⟨pre,hSp,hf⟩)⟩
  ·exact FD78
  ·exact hf.elim
end
end
section
open Go.Lib Go.Proofs.Tryz Go.RowKit Go.Shelf Go.Sort CH
variable {w:ZB}
def A9 (xs:List (Q01 × aS)):List ZC:=xs.flatMap fun x=>Al x.1 x.2
theorem Kg (xs:List (Q01 × aS)):(A9 xs).length=xs.length*8:=by
 induction xs with
 |nil=>rfl
 |cons x l ih =>unfold A9 at ih ⊢;rw [Dx,Ah,ih,A8];show 8+_=_;omega
theorem Ha {B:Nat} {v:Q01} {s:aS} (h:aG B w v s):∀ u∈Al v s,u.oneCell'=true:=by obtain⟨va,v1,v2⟩:=s;obtain⟨_,_,e1,_,_⟩:=h.acts.form;obtain⟨_,_,e2,_,_⟩:=h.sig.form;obtain⟨_,_,e3,_,_⟩:=h.path.form;change va=_ at e1;change v1=_ at e2;change v2=_ at e3;intro u hu;simp only [Al,Bl,Ci,Et] at hu;exact FD124
def Bi (base B:Nat) (w:ZB) (v:ZC) (ls:List Q01):Prop := ∃ xs:List (Q01 × aS),xs.map (·.1)=ls/\w.ownsRow base 38 8 v ls.length (A9 xs)/\(∀ x∈xs,aG B w x.1 x.2)/\B<=base/\base<=w.heap.size
theorem Bi.nil {base B:Nat} (hB:B<=base) (hb:base<=w.heap.size):Bi base B w (.slice none 0 0) []:=⟨[],rfl,I5 w base _ _,(fun _ h=>by cases h),hB,hb⟩
theorem Bi.below {base B:Nat} {w':ZB} {v:ZC} {ls:List Q01} (h:Bi base B w v ls) (hb:Below w w w'):Bi base B w' v ls:=by obtain⟨xs,h1,h2,h3,h4,h5⟩:=h;exact⟨xs,h1,Cu h2 hb,fun x hx=>(h3 x hx).below hb (Af h4 h5),h4,Af h5 hb.size⟩
theorem I44:(prog.info? 38).map (fun i=>(i.zero,i.size,i.bytes))=some (some (.agg #[.int .i64 0,.int .i64 0,.int .i64 0,.string ⟨#[]⟩,.slice none 0 0,.int .i64 0,.slice none 0 0,.slice none 0 0]),8,120):=kR
theorem _root_.Go.World.grownBy.cells {w':ZB} {row:Option Nat} (h:w.grownBy w' row) {p:Addr} {v:ZC} (hp:w.cell? p=some v) (hne:row≠some p.block):w'.cell? p=some v:=by rw [Pe (h.block _ (Ez w p hp) hne.symm)];exact hp
theorem Vn {ops:Array Oper} {rest:List Oper} {o:Oper} {a:Act} {Q:Exit->Act->ZB->Prop} (hgd:o.guard=none) (s x:Operand) (ho:o.op=.call { callee:=.builtin .append,args:=#[s,x],argTypes:=#[23,23] }) (base:Nat) (v:ZC) (n:Nat) (xs:List ZC) (hs:a.eval s=v) (hown:w.ownsRow base 38 8 v n xs) (vx:ZC) (m:Nat) (news:List ZC) (hx:a.eval x=vx) (hX:Fy w vx m news) (hl:news.length=m*8) (h1:∀ u∈news,u.oneCell'=true) (hlen:n+m<=1000000) (hbase:base<=w.heap.size) (h:∀ v' w',w'.ownsRow base 38 8 v' (n+m) (xs++news)->w.grownBy w' v.ownBlock->(v'.ownBlock=v.ownBlock\/v'.ownBlock=some w.heap.size)->wpList prog ops Q rest (a.put o.dst v') w') : wpList prog ops Q (o::rest) a w:=by
 obtain⟨i,hi,hz0,hz1,hz2⟩:=H8 I44;refine K9 w hgd s x 23 ho base 38 i _ 8 120 underlying23 hi hz0 hz1 hz2 rfl dC v n _ hs hown vx m news hx hX hl h1 ?_ ?_ hbase h;·exact FD145
 ·omega
end
end Go.Proofs.Y
namespace CH
def mJ (a b:Int):Int:=if a<b then -1 else if b<a then 1 else 0
end CH
namespace Go.Proofs.Y
open Go.RowKit Go.Lib Go.Shelf Go.Sort CH
structure VP where
 v:Q01
 a1:Option Addr
 n1:Nat
 c1:Nat
 a2:Option Addr
 n2:Nat
 c2:Nat
 a3:Option Addr
 n3:Nat
 c3:Nat
def VP.s (x:VP):aS:=⟨.slice x.a1 x.n1 x.c1,.slice x.a2 x.n2 x.c2,.slice x.a3 x.n3 x.c3⟩
def iH (x:VP):List ZC:=Al x.v x.s
instance : Inhabited VP := ⟨⟨default, none, 0, 0, none, 0, 0, none, 0, 0⟩⟩
def lM (x y:VP):Int:=mJ x.v.pos y.v.pos
theorem Nm7 (x:VP):∀ u∈iH x,u.oneCell'=true:=by intro u hu;simp only [iH,VP.s,Al,Bl,Ci,Et] at hu;rcases hu with rfl|rfl|rfl|rfl|rfl|rfl|rfl|rfl <;> rfl
theorem Uf (a:Int) (w:ZB):ZE Tryz.prog 79 #[↑a] w (fun e w'=>e=.returned (.bool false)/\w=w'):=by have q:(a != a)=false:=sM;go_enter Tryz.func79,Tryz.ntmps79;exact FD35
theorem Vc (a b:Int) (w:ZB):ZE Tryz.prog 47 #[↑a,↑b] w (fun e w'=>e=.returned (.int .i64 (mJ a b))/\w=w'):=by
 obtain⟨r,hr⟩:∃ r,mJ a b=r:=⟨_,rfl⟩
 rw [hr];unfold mJ at hr;rcases (oM:a<b\/(¬ a<b/\b<a)\/(¬ a<b/\¬ b<a)) with h|⟨h,h'⟩|⟨h,h'⟩;·rw [Au h] at hr;subst hr;have q:ZH (a<b)=true:=Am h;exact FD47
 ·rw [Ai h,Au h'] at hr;subst hr;have q:ZH (a<b)=false:=Ak h;have q':ZH (b<a)=true:=Am h';exact FD47
 ·rw [Ai h,Ai h'] at hr;subst hr;have q:ZH (a<b)=false:=Ak h;have q':ZH (b<a)=false:=Ak h';exact FD47
theorem Hb1 (w:ZB) (o1 o2:Obj):∃ q os',(w.alloc o1).alloc o2=grow (w.drewN q) os':=by refine⟨0,#[o1,o2],?_⟩;simp only [World.alloc,grow];congr 1
theorem Non (x y:VP) (w:ZB):ZE Tryz.prog 46 #[.agg (iH x).toArray,.agg (iH y).toArray] w (fun e w'=>e=.returned (.int .i64 (lM x y))/\∃ q os',w'=grow (w.drewN q) os'):=by
 obtain⟨r,hr⟩:∃ r,mJ x.v.pos y.v.pos=r:=⟨_,rfl⟩
 have hC:=fun W=>Vc x.v.pos y.v.pos W;have hcv:lM x y=r:=hr;rw [hcv];rw [hr] at hC;have hC:=Aa hC;clear hcv hr;obtain⟨x,a1,n1,c1,a2,n2,c2,a3,n3,c3⟩:=x;obtain⟨y,b1,m1,d1,b2,m2,d2,b3,m3,d3⟩:=y;simp only [iH,VP.s,Al] at hC ⊢;go_enter Tryz.func46,Tryz.ntmps46;go_wp2_with fail;refine (hC.out _).mono ?_;rintro e w' ⟨rfl,rfl⟩;go_wp2;go_ret;exact⟨rfl,Hb1 w _ _⟩
def Pre:Ren:=⟨fun|20=>143|n=>n,fun|22=>23|24=>38|25=>103|n=>n,fun n=>n⟩
theorem M12:SlLaysF0.n20 Tryz.prog Pre:={
 mixed:=kR
 f20:=⟨Tryz.f143.name,dC,Tryz.func143.trans (congrArg some kR)⟩
 t0:=Tryz.underlying0
 a0:=Tryz.isAgg0
 z0:=Tryz.sizeOf0
 v0:=Tryz.zeroValue0
 t3:=Tryz.underlying3
 a3:=Tryz.isAgg3
 z3:=Tryz.sizeOf3
 v3:=Tryz.zeroValue3
 t4:=Tryz.underlying4
 a4:=Tryz.isAgg4
 z4:=Tryz.sizeOf4
 v4:=Tryz.zeroValue4
 t22:=Tryz.underlying23
 a22:=Tryz.isAgg23
 z22:=Tryz.sizeOf23
 v22:=Tryz.zeroValue23
 t25:=Tryz.underlying103
 a25:=Tryz.isAgg103
 z25:=Tryz.sizeOf103
 v25:=Tryz.zeroValue103 }
theorem M13 (g cap:Nat) (d:Array VP) (w:ZB) (hH:HoldsK iH 8 w g 0 d) (hblk:g<w.heap.size) (hn:d.size<20) : ZE Tryz.prog 143 #[.slice (some ⟨g,0,none⟩) d.size cap,.int .i64 0,.int .i64 (d.size:Nat),.func (.func 46) #[] #[]] w fun e w' => e=.returned (.tuple #[])/\∃ n os,w'=sortWorldK iH 8 w g 0 n (Sort.insertionSort (ltOf lM) d 0 d.size) os := AnyQ.insertionSortCmpFunc (α:=VP) M12 8 Tryz.isAgg38 Tryz.sizeOf38 iH (fun _=>rfl) Nm7 lM 46 #[] g 0 cap 0 d.size d w (fun args W=>by kernel_rfl) (fun m os dk _ x y=>Non x y _) hH hblk (Az _) nR oM
end Go.Proofs.Y
namespace Go.Proofs.Y
section
open Go.Lib Go.Proofs.Tryz Go.RowKit Go.Shelf Go.Sort CH
theorem Hnl (g cap:Nat) (d:Array VP) (w:ZB) (hH:HoldsK iH 8 w g 0 d) (hblk:g<w.heap.size) (hn:d.size<20) : ZE prog 78 #[.slice (some ⟨g,0,none⟩) d.size cap,.int .i64 (d.size:Nat),.func (.func 46) #[] #[]] w fun e w' => e=.returned (.tuple #[])/\∃ n os,w'=sortWorldK iH 8 w g 0 n (Sort.insertionSort (ltOf lM) d 0 d.size) os:=by
 have I:=Aa (M13 g cap d w hH hblk hn);obtain⟨Q,hQ⟩:∃ Q:ZB->Prop,(fun w'=>∃ n os,w'=sortWorldK iH 8 w g 0 n (Sort.insertionSort (ltOf lM) d 0 d.size) os)=Q:=⟨_,rfl⟩
 have I:Hid (ZE prog 143 #[.slice (some ⟨g,0,none⟩) d.size cap,.int .i64 0,.int .i64 (d.size:Nat),.func (.func 46) #[] #[]] w fun e w'=>e=.returned (.tuple #[])/\Q w'):=Aa (by rw [<- hQ];exact I.out);have hG:ZE prog 78 #[.slice (some ⟨g,0,none⟩) d.size cap,.int .i64 (d.size:Nat),.func (.func 46) #[] #[]] w fun e w'=>e=.returned (.tuple #[])/\Q w':=by
  clear hQ hH hblk;generalize d.size=N at *;have q20:ZH ((20:Int)<=(N:Int))=false:=by simp;omega
  have MP:ZH ((20:Int)<(N:Int))=false:=by simp;omega
  go_enter func78,ntmps78;go_wp2_with fail;go_loopw [7,8] (fun a b wr=>a=.int .i64 0/\b=.int .i64 20/\w=wr) (fun _ _ _=>0);case atStart=>exact⟨rfl,rfl,rfl⟩
  case round =>
   obtain⟨rfl,rfl,rfl⟩:=hrel;go_wp2_with fail;refine CmZ I.out fun w1 hq=>?_;clear I;go_wp2_with fail;go_loopw [6] (fun a wr=>a=.int .i64 20/\w1=wr) (fun _ _=>0);case atStart=>exact⟨rfl,rfl⟩
   case round =>obtain⟨rfl,rfl⟩:=hrel;go_wp2;go_end0;exact⟨rfl,hq⟩
 rw [<- hQ] at hG;exact hG
theorem Xb (g cap:Nat) (d:Array VP) (w:ZB) (hH:HoldsK iH 8 w g 0 d) (hblk:g<w.heap.size) (hn:d.size<20) : ZE prog 45 #[.slice (some ⟨g,0,none⟩) d.size cap,.func (.func 46) #[] #[]] w fun e w' => e=.returned (.tuple #[])/\∃ n os,w'=sortWorldK iH 8 w g 0 n (Sort.insertionSort (ltOf lM) d 0 d.size) os:=by
 have I:=Aa (Hnl g cap d w hH hblk hn);obtain⟨Q,hQ⟩:∃ Q:ZB->Prop,(fun w'=>∃ n os,w'=sortWorldK iH 8 w g 0 n (Sort.insertionSort (ltOf lM) d 0 d.size) os)=Q:=⟨_,rfl⟩
 have I:Hid (ZE prog 78 #[.slice (some ⟨g,0,none⟩) d.size cap,.int .i64 (d.size:Nat),.func (.func 46) #[] #[]] w fun e w'=>e=.returned (.tuple #[])/\Q w'):=Aa (by rw [<- hQ];exact I.out);have hG:ZE prog 45 #[.slice (some ⟨g,0,none⟩) d.size cap,.func (.func 46) #[] #[]] w fun e w'=>e=.returned (.tuple #[])/\Q w':=by clear hQ hH hblk;generalize d.size=N at *;go_enter func45,ntmps45;go_wp2_with fail;refine CmZ I.out fun w1 hq=>?_;go_wp2;go_end0;exact⟨rfl,hq⟩
 rw [<- hQ] at hG;exact hG
theorem I19 (w:ZB):ZE prog 143 #[.slice none 0 0,.int .i64 0,.int .i64 0,.func (.func 46) #[] #[]] w fun e w'=>e=.returned (.tuple #[])/\w=w':=by go_enter func143,ntmps143;exact FD77
theorem Zk (w:ZB):ZE prog 78 #[.slice none 0 0,.int .i64 0,.func (.func 46) #[] #[]] w fun e w'=>e=.returned (.tuple #[])/\w=w':=by
 go_enter func78,ntmps78;go_wp2_with fail;go_loopw [7,8] (fun a b wr=>a=.int .i64 0/\b=.int .i64 20/\w=wr) (fun _ _ _=>0);case atStart=>exact⟨rfl,rfl,rfl⟩
 case round =>
  obtain⟨rfl,rfl,rfl⟩:=hrel;go_wp2_with fail;refine (I19 w).mono ?_;rintro e w1 ⟨rfl,rfl⟩;go_wp2_with fail;go_loopw [6] (fun a wr=>a=.int .i64 20/\w=wr) (fun _ _=>0);case atStart=>exact⟨rfl,rfl⟩
  case round =>obtain⟨rfl,rfl⟩:=hrel;go_wp2;go_end0;exact⟨rfl,rfl⟩
theorem Qr (w:ZB):ZE prog 45 #[.slice none 0 0,.func (.func 46) #[] #[]] w fun e w'=>e=.returned (.tuple #[])/\w=w':=by go_enter func45,ntmps45;go_wp2_with fail;refine (Zk w).mono ?_;rintro e w1 ⟨rfl,rfl⟩;go_wp2;go_end0;exact⟨rfl,rfl⟩
section
open CH
variable {α β:Type} [Inhabited α] [Inhabited β] (f:α->β) (lt:β->β->Bool) (hd:f default=default)
theorem V9 (d:Array α) (i:Nat) (hd:f default=default):(d.map f)[i]! =f d[i]!:=by
 by_cases h:i<d.size;·simp [h]
 ·simp [h,hd]
theorem Pin (d:Array α) (i j:Nat) (hd:f default=default):swp (d.map f) i j=(swp d i j).map f:=by unfold swp;rw [V9 f d _ hd,V9 f d _ hd];simp [Array.map_setIfInBounds]
theorem Rw (a:Nat) (hd:f default=default):∀ (j:Nat) (d:Array α),insInner lt a j (d.map f)=(insInner (fun x y=>lt (f x) (f y)) a j d).map f
 |0,_=>rfl
 |j+1,d=>by
  rw [insInner,insInner,V9 f d _ hd,V9 f d _ hd,Pin f d _ _ hd]
  split
  ·exact Rw a hd j _
  ·rfl
theorem Rt (a b:Nat) (hd:f default=default):∀ (n i:Nat) (d:Array α),b - i<=n->insOuter lt a b i (d.map f)=(insOuter (fun x y=>lt (f x) (f y)) a b i d).map f
 |0,i,d,h=>by
  have h1:=insOuter.eq_1 lt a b i (d.map f)
  have h2:=insOuter.eq_1 (fun x y=>lt (f x) (f y)) a b i d
  rw [Ai oM] at h1 h2
  rw [h1,h2]
 |n+1,i,d,h=>by
  have h1:=insOuter.eq_1 lt a b i (d.map f)
  have h2:=insOuter.eq_1 (fun x y=>lt (f x) (f y)) a b i d
  by_cases hi:i<b
  ·rw [Au hi] at h1 h2
   rw [h1,h2,Rw f lt a hd,Rt a b hd n (i+1) _ oM]
  ·rw [Ai hi] at h1 h2
   rw [h1,h2]
theorem Rq (d:Array α) (a b:Nat) (hd:f default=default):insertionSort lt (d.map f) a b=(insertionSort (fun x y=>lt (f x) (f y)) d a b).map f := Rt f lt a b hd b (a+1) d oM
end
theorem Let (x y:VP):ltOf lM x y=iW x.v y.v:=by
 unfold ltOf lM mJ iW;rcases (oM:x.v.pos<y.v.pos\/(¬ x.v.pos<y.v.pos/\y.v.pos<x.v.pos)\/(¬ x.v.pos<y.v.pos/\¬ y.v.pos<x.v.pos)) with h|⟨h,h'⟩|⟨h,h'⟩;·rw [Au h,Am h];rfl
 ·rw [Ai h,Au h',Ak h];rfl
 ·rw [Ai h,Ai h',Ak h];rfl
theorem Qg (d:Array VP) (a b:Nat):((insertionSort (ltOf lM) d a b).map (·.v))=insertionSort iW (d.map (·.v)) a b:=by
 rw [Rq (·.v) iW d a b rfl];have:(ltOf lM)=fun x y=>iW x.v y.v:=by funext x y;exact Let x y
 rw [this]
end
end Go.Proofs.Y
namespace CH
section
variable {s:Q00}
theorem Aag (s:Q00):∀ (f i:Nat) (out ts:List Tok),lJ s f i out=.ok ts->∀ t∈ts,t∈out\/∃ i j,i<s.length/\next s i=.ok (t,j)
 |0,i,out,ts,h,t,ht=>by
  cases h
  exact .inl ht
 |f+1,i,out,ts,h,t,ht=>by
  unfold lJ at h
  split at h
  ·rename_i hi
   split at h
   ·cases h
   ·rename_i u j hu
    split at h
    ·cases h
    ·rcases Aag s f _ _ ts h t ht with h1|h1
     ·rcases Dp.1 h1 with h2|h2
      ·exact .inl h2
      ·rw [Ce] at h2
       subst h2
       exact .inr ⟨i,j,hi,hu⟩
     ·exact .inr h1
  ·cases h
   exact .inl ht
theorem Aau {i j:Nat} {t:Tok} (h:next s i=.ok (t,j)) (hk:t.kind=1):dO s i=3/\cu s [3,4,5] i - i<=24/\t.text=(s.drop i).take (cu s [3,4,5] i - i):=by
 unfold next at h
 split at h
 ·rename_i e;split at h;·cases h
  ·cases h;exact⟨e,oM,rfl⟩
 all_goals
  exfalso;repeat' split at h
  all_goals first |(cases h;done) |(cases h;simp at hk)
theorem Aa7:∀ n:Fin 256,[3,4,5].contains (cls (UInt8.ofNat n.val))=true->tailB (UInt8.ofNat n.val)=true:=by decide +kernel
theorem Aao:∀ n:Fin 256,cls (UInt8.ofNat n.val)=3->letterB (UInt8.ofNat n.val)=true:=by decide +kernel
theorem Aah:∀ n:Fin 256,iK (UInt8.ofNat n.val)=letterB (UInt8.ofNat n.val):=by decide +kernel
theorem Yc (c:UInt8):iK c=letterB c:=by have:=Aah ⟨c.toNat,Fb c⟩;simpa only [UInt8.ofNat_toNat] using this
theorem kQ (s:Q00):fQ s=isName s:=by
 have ht:mP=tailB:=by funext c;unfold mP tailB;rw [Yc]
 unfold fQ isName;cases s with
 |nil=>rfl
 |cons c l=>simp only [Yc,ht]
theorem jU (h:ident s=true):isName s=true:=by
 unfold ident at h;rw [Ba] at h;obtain⟨_,h⟩:=h;split at h
 ·rename_i t hl;rw [Ba,Eb,Eb] at h;obtain⟨hk,ht⟩:=h;rcases Aag s _ _ [] _ hl t sM with h1|⟨i,j,hi,hn⟩;·cases h1
  ·obtain⟨h3,h24,hx⟩:=Aau hn hk;rw [ht] at hx;have hlen:=congrArg List.length hx;rw [C9,Ei] at hlen;have hi0:i=0:=oM;subst hi0;have hm:=rC s [3,4,5] 0;rw [Iz] at hx hm;rw [<- hx] at hm;cases hs:s with
   |nil=>rw [hs] at hi;simp at hi
   |cons c l =>
    rw [hs] at hm h3 hlen h24;have hc:letterB c=true:=by have:=Aao ⟨c.toNat,Fb c⟩;simp only [UInt8.ofNat_toNat] at this;exact this h3
    have hall:l.all tailB=true:=Df.2 fun x hx=>by have:=Aa7 ⟨x.toNat,Fb x⟩;simp only [UInt8.ofNat_toNat] at this;exact this (hm x (Gm _ hx))
    show (letterB c&&l.all tailB&&ZH ((c::l).length<=24))=true;rw [hc,hall];simp only [a_Bool_true_and,Bq];omega
 ·cases h
theorem Aa1:∀ n:Fin 256,tailB (UInt8.ofNat n.val)=true->[3,4,5].contains (cls (UInt8.ofNat n.val))=true:=by decide +kernel
theorem Aal:∀ n:Fin 256,letterB (UInt8.ofNat n.val)=true->cls (UInt8.ofNat n.val)=3:=by decide +kernel
theorem Ou {p:UInt8->Bool}:∀ {l:Q00},(∀ x∈l,p x=true)->l.takeWhile p=l
 |[],_=>rfl
 |x::l,h=>by rw [List.takeWhile_cons,Au (h x sM),Ou fun y hy=>h y (Gm _ hy)]
theorem Aa2 (h:isName s=true):ident s=true:=by
 cases s with
 |nil=>cases h
 |cons c l =>
 unfold isName at h;simp only [Ba,Bq] at h;obtain⟨⟨h1,h2⟩,h3⟩:=h;have hc:cls c=3:=by have:=Aal ⟨c.toNat,Fb c⟩;simp only [UInt8.ofNat_toNat] at this;exact this h1
 have hall:∀ x∈c::l,[3,4,5].contains (cls x)=true:=fun x hx=>by
  rcases Bl.1 hx with rfl|hx;·rw [hc];rfl
  ·have:=Aa1 ⟨x.toNat,Fb x⟩;simp only [UInt8.ofNat_toNat] at this;exact this (Df.1 h2 x hx)
 generalize hs:c::l=s at *;have hlen:1<=s.length:=by rw [<- hs];simp
 have h0:s[0]?=some c:=by rw [<- hs];rfl
 have k0:dO s 0=3:=by rw [jq s 0 c h0,hc]
 have w0:cu s [3,4,5] 0=s.length:=by unfold cu;rw [Iz,Ou hall,Bf]
 have w1:cu s [1] 0=0:=by unfold cu;rw [<- hs,Iz,List.takeWhile_cons,Ai (by rw [hc];simp)];rfl
 have w2:cu s [1] s.length=s.length:=by unfold cu;rw [List.drop_length];rfl
 have g0:gap s 0=0:=by unfold gap;rw [show s.length+1 - 0=s.length+1 from rfl,kE,w1,k0,Ai dC]
 have g1:gap s s.length=s.length:=by unfold gap;rw [show s.length+1 - s.length=0+1 from by omega,kE,w2,pI s _ nR,Ai dC]
 have n0:next s 0=.ok (⟨1,0,0,s⟩,s.length):=by
  unfold next
  rw [Au k0,w0,Ai oM,Iz,Nat.sub_zero,Dn]
 have hl:lex s=.ok [⟨1,0,0,s⟩]:=by
  unfold lex;rw [g0,lJ,Au oM,n0];show (if 0=5000 then _ else lJ s s.length (gap s s.length) [⟨1,0,0,s⟩])=_;rw [Ai dC,g1];obtain⟨m,hm⟩:∃ m,s.length=m+1:=⟨s.length - 1,oM⟩
  rw [hm,lJ,Ai oM]
 unfold ident;rw [hl,Am oM];simp
theorem ng (s:Q00):ident s=isName s:=by rw [Es];exact⟨jU,Aa2⟩
end
end CH
