/-
  ChainMakes: the proof, part 11 of 34.
-/
import Derived.Test.YtdgmgjeoikcgbaaGreatDoorP08
import Derived.Test.YtdgmgjeoikcgbaaGreatDoorP09
set_option linter.unusedSimpArgs false
set_option linter.unusedVariables false
set_option maxHeartbeats 40000000
set_option maxRecDepth 100000
open Go renaming undef -> ZA, World -> ZB
open Go.Act renaming put -> ZF
open Go.RowKit renaming intOf -> ZG
open Go.Lib renaming itoa -> ZK
namespace Go.Proofs.YtdgmgjeoikcgbaaGreatDoor
section
open Go.Lib Go.Proofs.Tryz Go.RowKit Go.Shelf Go.Sort CH
theorem Blt (vn:Value) (c:CH.Change) (w:ZB) (hG:Gc w) (hv:Ds w w vn c.entry.names) (hS:iQ c) (hp0:-9223372036854775808<=c.pos) (hp1:c.pos<=9223372036854775807) : Calls prog 43 #[.agg (Bb c vn).toArray] w (Ret w (bQ (bJ c))):=by
 obtain⟨r,hr⟩:∃ r,Hid (bQ (bJ c)=r):=⟨_,Aa rfl⟩
 rw [hr.out];have hB0:=fun o=>(Ac _ w).alloc nR o;have hW:=fun o=>Ap w o;have F:=fun (w':ZB) (hb:Below w w w')=>Htw vn c w' (hG.below hb) ((hv.below hb nR).mono hb.size) hS;obtain⟨an,cn,rfl,JU,JR⟩:=hv.form;generalize hN:c.entry.names.length=N at *;dsimp only [Bb] at F ⊢;cases hok:dh c with
 |false =>rw [hok] at F;have F:=Aa F;go_enter func43,ntmps43;go_wp2_with fail;refine (F.out _ (hB0 _)).mono ?_;rintro e w1 ⟨rfl,hb1⟩;clear F;go_wp2;refine Ag (Am rfl _ _ _) rfl ?_;exact⟨by rw [<- hr.out];unfold bJ;rw [hok];rfl,(hB0 _).trans (hb1.mono sM)⟩
 |true =>
  rw [hok] at F;have F:=Aa F;have hk:=Hnl hok;go_enter func43,ntmps43;go_wp2_with fail;refine (F.out _ (hB0 _)).mono ?_;rintro e w1 ⟨rfl,hb1⟩;clear F;have hB1:Below w w w1:=(hB0 _).trans (hb1.mono sM);have hblk:=(hb1.block w sM).trans (hW _);have hlt1:w.heap.size<w1.heap.size:=(aZ hblk)
  clear hb1 hW hB0;have HB:=Aa hblk;obtain⟨kn,hkn,JM,JL⟩:∃ kn:Nat,c.kind=kn/\1<=kn/\kn<=4:=⟨c.kind.toNat,oM,oM,oM⟩
  have k0:w1.cell? ⟨w,0,none⟩=some ↑kn:=by rw [<- hkn];exact Ab hblk 0
  have k1:w1.cell? ⟨w,1,none⟩=some ↑c.id:=Ab hblk 1;clear hblk;go_wp2_with fail;have SS:∀ W',Below w1 w1 W'->W'.cell? ⟨w,0,none⟩=some ↑kn/\W'.cell? ⟨w,1,none⟩=some ↑c.id:=fun W' hb=>⟨(hb.cell (p:=⟨w,0,none⟩) hlt1).trans k0,(hb.cell (p:=⟨w,1,none⟩) hlt1).trans k1⟩
  obtain⟨kw,hkw⟩:∃ kw,Hid (CH.kindWord c.kind=kw):=⟨_,Aa rfl⟩
  have hkc:∀ (W':ZB),(W'.alloc (.cells #[.string ⟨#[]⟩,.string ⟨([97,100,100]:List UInt8).toArray⟩,.string ⟨([114,101,109,111,118,101]:List UInt8).toArray⟩,.string ⟨([99,111,114,114,101,99,116]:List UInt8).toArray⟩,.string ⟨([118,111,105,100]:List UInt8).toArray⟩] 9)).cell? ⟨W',kn,none⟩=some ↑kw:=fun W'=>by rw [Bz,<- hkw.out,hkn];rcases (oM:kn=1\/kn=2\/kn=3\/kn=4) with rfl|rfl|rfl|rfl <;> rfl
  have hBd:Below w1 w1 w1.drew:=(Ac _ w1).drew;have k0d:=fun o=>(SS _ (hBd.alloc nR o))
  have ES:∀ (W':ZB) o,((W'.alloc (.cells #[.string ⟨#[]⟩,.string ⟨([97,100,100]:List UInt8).toArray⟩,.string ⟨([114,101,109,111,118,101]:List UInt8).toArray⟩,.string ⟨([99,111,114,114,101,99,116]:List UInt8).toArray⟩,.string ⟨([118,111,105,100]:List UInt8).toArray⟩] 9)).alloc o).cell? ⟨W',kn,none⟩=some ↑kw:=fun W' o=>by rw [Gx _ _ _ (by rw [hkc];rfl)];exact hkc W'
  have ER:∀ o,((w1.alloc o).alloc (.cells #[.string ⟨#[]⟩,.string ⟨([97,100,100]:List UInt8).toArray⟩,.string ⟨([114,101,109,111,118,101]:List UInt8).toArray⟩,.string ⟨([99,111,114,114,101,99,116]:List UInt8).toArray⟩,.string ⟨([118,111,105,100]:List UInt8).toArray⟩] 9)).cell? ⟨w1+1,kn,none⟩=some ↑kw:=fun o=>by have:=hkc (w1.alloc o);rwa [Dn] at this
  rename_i K hK;have TAIL:∀ (P:Nat) (v13 v16 v20:Value) (X:ZB),Cx w1 P X [kw,c.id]->Below w1 w1 X->K { tmps:=#[.agg #[↑kn,↑c.id,↑c.entry.id,.slice an N cn,↑c.pos],.pointer (some ⟨w,0,none⟩),.string ⟨#[]⟩,.int .i64 0,.pointer (some ⟨P,0,none⟩),ZA,ZA,ZA,ZA,ZA,.agg #[↑kn,↑c.id,↑c.entry.id,.slice an N cn,↑c.pos],.bool true,.bool false,v13,.pointer (some ⟨w,0,none⟩),↑kn,v16,↑kw,.pointer (some ⟨w,1,none⟩),↑c.id,v20,ZA,ZA,ZA,ZA,ZA,ZA,ZA,ZA,ZA,ZA,ZA,ZA,ZA,ZA,ZA,ZA,ZA,ZA,ZA,ZA,ZA,ZA,ZA,ZA,ZA,ZA,ZA,ZA,ZA,ZA,ZA,ZA,ZA,ZA,ZA,ZA,ZA,ZA],defers:=[] } X:=by
   intro P v13 v16 v20 X hA hBX;refine hK _ _ ?_;clear hkc ES ER k0d SS;have m0:X.cell? ⟨w,0,none⟩=some ↑kn:=(hBX.cell (p:=⟨w,0,none⟩) hlt1).trans k0;have m3:X.cell? ⟨w,3,none⟩=some (.slice an N cn):=(hBX.cell (p:=⟨w,3,none⟩) hlt1).trans (Ab HB.out 3);have m4:X.cell? ⟨w,4,none⟩=some ↑c.pos:=(hBX.cell (p:=⟨w,4,none⟩) hlt1).trans (Ab HB.out 4);have xu:=Lib.itoa_length_le c.pos hp0 hp1;have hkl:kw.length<=1000000000100:=by rw [<- hkw.out];exact Af (Qz _) dC
   have uq:Hid (c.id.length<=1000000000100):=Aa (by have:=hS.id;omega);have xu:Hid ((ZK c.pos).length<=1000000000100):=Aa oM;replace hkl:=Aa hkl;rcases (oM:kn=1\/kn=2\/kn=3\/kn=4) with e|e|e|e;·exact FD6
   ·exact FD6
   ·exact FD12
   ·exact FD12
  have z0:(0:Int)<=(kn:Int):=oM;have zk:((kn:Int)).toNat=kn:=oM;have hk5:(kn:Int)<5:=oM;refine Fe (S:=(fun W'=>W'.cell? ⟨w,0,none⟩=some ↑kn/\W'.cell? ⟨w,1,none⟩=some ↑c.id)) kR (SS _ hBd) (fun hHeld=>?_);refine tj 1 rfl rF hHeld ?_;(try simp only [ZF,pA,pB,pC]);refine tj 2 rfl rF hHeld ?_;(try simp only [ZF,pA,pB,pC]);refine tj 5 rfl rF hHeld ?_;(try simp only [ZF,pA,pB,pC]);refine tj 6 rfl rF hHeld ?_;(try simp only [ZF,pA,pB,pC]);refine Eb (rs:=[0,8]) kR sM ?_;refine Bq (o:=_) rfl (fun K hK=>?_) ?_;focus
   go_simp;refine (Zv _).mono ?_;rintro e w2 ⟨rfl,rfl⟩;go_wp2_with fail;refine hK.out _ _ (by refine SS _ ?_;repeat (first|exact hBd|exact Ac _ _|refine G6 ?_|refine Es ?_ (by simp <;> omega) _|refine F7 ?_ (by simp <;> omega) _)) (fun hHeld=>?_);clear hK K;(try simp only [ZF,pA,pB,pC]);refine tj 3 rfl rF hHeld ?_;(try simp only [ZF,pA,pB,pC]);refine Eb (rs:=[4,8]) kR sM ?_;refine Bq (o:=_) rfl (fun K hK=>?_) ?_;focus
    go_simp;refine hK.out _ _ (by refine SS _ ?_;repeat (first|exact hBd|exact Ac _ _|refine G6 ?_|refine Es ?_ (by simp <;> omega) _|refine F7 ?_ (by simp <;> omega) _)) (fun hHeld=>?_);clear hK K;(try simp only [ZF,pA,pB,pC]);refine Eb (rs:=[7,8]) kR sM ?_;refine Bq (o:=_) rfl (fun K hK=>?_) ?_;focus go_simp;refine hK.out _ _ (by refine SS _ ?_;repeat (first|exact hBd|exact Ac _ _|refine G6 ?_|refine Es ?_ (by simp <;> omega) _|refine F7 ?_ (by simp <;> omega) _)) (fun hHeld=>?_);clear hK K;(try simp only [ZF,pA,pB,pC]);refine rk 8 rfl (fun K hK=>?_);go_simp;refine hK.out _ _ (by refine SS _ ?_;repeat (first|exact hBd|exact Ac _ _|refine G6 ?_|refine Es ?_ (by simp <;> omega) _|refine F7 ?_ (by simp <;> omega) _)) (fun hHeld=>?_);clear hK K;(try simp only [ZF,pA,pB,pC]);refine rk 9 rfl (fun K hK=>?_);go_simp;refine hK.out _ _ (by refine SS _ ?_;repeat (first|exact hBd|exact Ac _ _|refine G6 ?_|refine Es ?_ (by simp <;> omega) _|refine F7 ?_ (by simp <;> omega) _)) (fun hHeld=>?_);clear hK K;(try simp only [ZF,pA,pB,pC]);refine D8 kR ?_ _
    rotate_left 1;refine Bq (o:=_) rfl (fun K hK=>?_) Eo;focus go_simp;refine hK.out _ _ (by refine SS _ ?_;repeat (first|exact hBd|exact Ac _ _|refine G6 ?_|refine Es ?_ (by simp <;> omega) _|refine F7 ?_ (by simp <;> omega) _)) (fun hHeld=>?_);clear hK K;(try simp only [ZF,pA,pB,pC]);refine rk 7 rfl (fun K hK=>?_);go_simp;refine hK.out _ _ (by refine SS _ ?_;repeat (first|exact hBd|exact Ac _ _|refine G6 ?_|refine Es ?_ (by simp <;> omega) _|refine F7 ?_ (by simp <;> omega) _)) (fun hHeld=>?_);clear hK K;(try simp only [ZF,pA,pB,pC]);refine rk 9 rfl (fun K hK=>?_);go_simp;refine hK.out _ _ (by refine SS _ ?_;repeat (first|exact hBd|exact Ac _ _|refine G6 ?_|refine Es ?_ (by simp <;> omega) _|refine F7 ?_ (by simp <;> omega) _)) (fun hHeld=>?_);clear hK K;(try simp only [ZF,pA,pB,pC]);refine D8 kR ?_ _
   rotate_left 2;refine Bq (o:=_) rfl (fun K hK=>?_) Eo;focus go_simp;refine hK.out _ _ (by refine SS _ ?_;repeat (first|exact hBd|exact Ac _ _|refine G6 ?_|refine Es ?_ (by simp <;> omega) _|refine F7 ?_ (by simp <;> omega) _)) (fun hHeld=>?_);clear hK K;(try simp only [ZF,pA,pB,pC]);refine rk 4 rfl (fun K hK=>?_);go_simp;refine hK.out _ _ (by refine SS _ ?_;repeat (first|exact hBd|exact Ac _ _|refine G6 ?_|refine Es ?_ (by simp <;> omega) _|refine F7 ?_ (by simp <;> omega) _)) (fun hHeld=>?_);clear hK K;(try simp only [ZF,pA,pB,pC]);refine rk 7 rfl (fun K hK=>?_);go_simp;refine hK.out _ _ (by refine SS _ ?_;repeat (first|exact hBd|exact Ac _ _|refine G6 ?_|refine Es ?_ (by simp <;> omega) _|refine F7 ?_ (by simp <;> omega) _)) (fun hHeld=>?_);clear hK K;(try simp only [ZF,pA,pB,pC]);refine rk 9 rfl (fun K hK=>?_);go_simp;refine hK.out _ _ (by refine SS _ ?_;repeat (first|exact hBd|exact Ac _ _|refine G6 ?_|refine Es ?_ (by simp <;> omega) _|refine F7 ?_ (by simp <;> omega) _)) (fun hHeld=>?_);clear hK K;(try simp only [ZF,pA,pB,pC]);refine D8 kR ?_ _
  rotate_left 3;refine Bq (o:=_) rfl (fun K hK=>?_) Eo;focus go_simp;refine hK.out _ _ (by refine SS _ ?_;repeat (first|exact hBd|exact Ac _ _|refine G6 ?_|refine Es ?_ (by simp <;> omega) _|refine F7 ?_ (by simp <;> omega) _)) (fun hHeld=>?_);clear hK K;(try simp only [ZF,pA,pB,pC]);refine rk 0 rfl (fun K hK=>?_);go_simp;refine (Zv _).mono ?_;rintro e w2 ⟨rfl,rfl⟩;go_wp2_with fail;refine hK.out _ _ (by refine SS _ ?_;repeat (first|exact hBd|exact Ac _ _|refine G6 ?_|refine Es ?_ (by simp <;> omega) _|refine F7 ?_ (by simp <;> omega) _)) (fun hHeld=>?_);clear hK K;(try simp only [ZF,pA,pB,pC]);refine tj 3 rfl rF hHeld ?_;(try simp only [ZF,pA,pB,pC]);refine rk 4 rfl (fun K hK=>?_);go_simp;refine hK.out _ _ (by refine SS _ ?_;repeat (first|exact hBd|exact Ac _ _|refine G6 ?_|refine Es ?_ (by simp <;> omega) _|refine F7 ?_ (by simp <;> omega) _)) (fun hHeld=>?_);clear hK K;(try simp only [ZF,pA,pB,pC]);refine rk 7 rfl (fun K hK=>?_);go_simp;refine hK.out _ _ (by refine SS _ ?_;repeat (first|exact hBd|exact Ac _ _|refine G6 ?_|refine Es ?_ (by simp <;> omega) _|refine F7 ?_ (by simp <;> omega) _)) (fun hHeld=>?_);clear hK K;(try simp only [ZF,pA,pB,pC]);refine rk 9 rfl (fun K hK=>?_);go_simp;refine hK.out _ _ (by refine SS _ ?_;repeat (first|exact hBd|exact Ac _ _|refine G6 ?_|refine Es ?_ (by simp <;> omega) _|refine F7 ?_ (by simp <;> omega) _)) (fun hHeld=>?_);clear hK K;(try simp only [ZF,pA,pB,pC]);refine D8 kR ?_ _
  all_goals first |exact TAIL _ _ _ _ _ (Si w1 (.cells #[.string ⟨#[]⟩,.string ⟨([97,100,100]:List UInt8).toArray⟩,.string ⟨([114,101,109,111,118,101]:List UInt8).toArray⟩,.string ⟨([99,111,114,114,101,99,116]:List UInt8).toArray⟩,.string ⟨([118,111,105,100]:List UInt8).toArray⟩] 9) (.cells #[↑kw,↑c.id] 9) (.cells #[.slice (some ⟨w1+1,0,none⟩) 2 2] 25) 2 1 dC kw c.id rfl rfl).1 (Si w1 (.cells #[.string ⟨#[]⟩,.string ⟨([97,100,100]:List UInt8).toArray⟩,.string ⟨([114,101,109,111,118,101]:List UInt8).toArray⟩,.string ⟨([99,111,114,114,101,99,116]:List UInt8).toArray⟩,.string ⟨([118,111,105,100]:List UInt8).toArray⟩] 9) (.cells #[↑kw,↑c.id] 9) (.cells #[.slice (some ⟨w1+1,0,none⟩) 2 2] 25) 2 1 dC kw c.id rfl rfl).2 |exact TAIL _ _ _ _ _ (Si w1 (.cells #[.string ⟨#[]⟩,.string ⟨([97,100,100]:List UInt8).toArray⟩,.string ⟨([114,101,109,111,118,101]:List UInt8).toArray⟩,.string ⟨([99,111,114,114,101,99,116]:List UInt8).toArray⟩,.string ⟨([118,111,105,100]:List UInt8).toArray⟩] 9) (.cells #[.slice (some ⟨w1+1+1,0,none⟩) 2 2] 25) (.cells #[↑kw,↑c.id] 9) 1 2 dC kw c.id rfl rfl).1 (Si w1 (.cells #[.string ⟨#[]⟩,.string ⟨([97,100,100]:List UInt8).toArray⟩,.string ⟨([114,101,109,111,118,101]:List UInt8).toArray⟩,.string ⟨([99,111,114,114,101,99,116]:List UInt8).toArray⟩,.string ⟨([118,111,105,100]:List UInt8).toArray⟩] 9) (.cells #[.slice (some ⟨w1+1+1,0,none⟩) 2 2] 25) (.cells #[↑kw,↑c.id] 9) 1 2 dC kw c.id rfl rfl).2 |exact TAIL _ _ _ _ _ (Si w1 (.cells #[.slice (some ⟨w1+1+1,0,none⟩) 2 2] 25) (.cells #[.string ⟨#[]⟩,.string ⟨([97,100,100]:List UInt8).toArray⟩,.string ⟨([114,101,109,111,118,101]:List UInt8).toArray⟩,.string ⟨([99,111,114,114,101,99,116]:List UInt8).toArray⟩,.string ⟨([118,111,105,100]:List UInt8).toArray⟩] 9) (.cells #[↑kw,↑c.id] 9) 0 2 dC kw c.id rfl rfl).1 (Si w1 (.cells #[.slice (some ⟨w1+1+1,0,none⟩) 2 2] 25) (.cells #[.string ⟨#[]⟩,.string ⟨([97,100,100]:List UInt8).toArray⟩,.string ⟨([114,101,109,111,118,101]:List UInt8).toArray⟩,.string ⟨([99,111,114,114,101,99,116]:List UInt8).toArray⟩,.string ⟨([118,111,105,100]:List UInt8).toArray⟩] 9) (.cells #[↑kw,↑c.id] 9) 0 2 dC kw c.id rfl rfl).2
theorem Hdx:ou 84 9223372036854775807 (fun l=>!ay l):=by refine⟨enters_of func84 kR rfl,fun l w hG hl=>?_⟩;go_enter func84,ntmps84;exact FD75
theorem S7 (v:Value) (ls:List (List UInt8)) (most:Nat) (w:ZB) (hG:Gl w) (hv:Strs w w v ls) (hl:∀ l∈ls,l.length<=9223372036854775807) : Calls prog 34 #[v,↑most] w (Ret w (.bool (bP ls most))):=by
 have C:=Aa (We _ _ _ Hdx v ls w hG hv hl);obtain⟨r,hr⟩:∃ r,Hid (bP ls most=r):=⟨_,Aa rfl⟩
 rw [hr.out];obtain⟨a,cap,rfl,_,_⟩:=hv.form;clear hv hl;obtain⟨b,hb⟩:∃ b,Hid ((ls.any fun s=>!ay s)=b):=⟨_,Aa rfl⟩
 rw [hb.out] at C;by_cases h:ls.length<=most
 ·have hr1:r=!b:=by rw [<- hr.out,<- hb.out];unfold bP;rw [decide_eq_true h];rfl
  subst hr1;have d:decide ((ls.length:Int)<=(most:Int))=true:=by simp;omega
  generalize ls.length=N at *;go_enter func34,ntmps34;go_wp2_with fail;refine C.out.mono ?_;rintro e w1 ⟨rfl,hb1⟩;clear C;exact FD41
 ·have hr1:r=false:=by rw [<- hr.out];unfold bP;rw [decide_eq_false h];rfl
  subst hr1;have d:decide ((ls.length:Int)<=(most:Int))=false:=by simp;omega
  generalize ls.length=N at *;go_enter func34,ntmps34;exact FD34
end
section
open Go.Lib Go.Proofs.Tryz Go.RowKit Go.Shelf Go.Sort CH
section
open CH
variable {F:Fence} {n:Nat} {P:Program}
theorem Cvh {α:Type} {g:Operand} {ps:Array Tmp} {assign body:Code} {Q:Exit->Act->ZB->Prop} {a:Act} {w:ZB}
  (hro:F.round=none) (h1:1<=n) {gf:Nat} {lb:Array Value} (hg:a.eval g=.func (.func gf) #[] lb) (hFg:F.fn gf) (eg:∀ args w,(callFunc gf args).run P w=.ok (.enter gf args) w)
  {encs:α->Array Value} {S Sp:List α->Prop} {N:Nat} {w0:ZB} (hseq:SeqStopsK F (n - 1) P gf lb encs KeepsWalks S Sp N w0)
  (hb0:Below w0.heap.size w0 w) (hps:∀ x,(encs x).size=ps.size)
  (I:List α->ZB->Prop) (hI:OwnFrom w.heap.size I) (h0:I [] w) (a₁:α->Nat->Act) (asg:α->ZB->ZB) (Bx:α->Nat->ZB->Prop)
  (hassign:∀ (l:Nat) (x:α) (W:ZB) (K:Act->ZB->Prop),K (a₁ x W.heap.size) (asg x W) ->
   assign.wpIn (F.inRound l) (n - 1 - 1) P (Exit.then K (fun _ _ _=>False)) { tmps:=(ps.zip (encs x)).foldl (fun t (p,v)=>t.setIfInBounds p v) a.tmps,defers:=[] } W)
  (FU:∀ x W,Below W.heap.size W (asg x W)) (hBx:∀ x W,Bx x W.heap.size (asg x W))
  (hBp:∀ x b V l (o o':Obj),Bx x b V->V.heap[l]?=some o->o.isCells=false->Bx x b (V.putObj l o'))
  (hbody:∀ (l:Nat) (pre:List α) (x:α) (b:Nat) (W:ZB),I pre W->Bx x b W->pre.length<N->body.wpIn (F.inRound l) (n - 1 - 1) P (ownPostK KeepsWalks I (fun _ _ _=>False) (pre++[x]) W) (a₁ x b) W)
  (hdone:∀ (D:Nat) (xs:List α) (W:ZB),w.heap.size<=D->S xs->I xs W->W.heap[D]?=some (.deferred (some []))->Q .normal { a with defers:={ target:=.collected D,args:=#[] }::a.defers } W) :
  (Code.rangeFunc g ps assign body).wpIn F n P Q a w:=by
 refine wpIn_rangeFunc ?_
 intro fn hfn
 rw [hro]
 obtain⟨rec,hrec⟩:∃ rec:LoopState->Option Code->Loop,rec=fun st pe=>{ state:=st,pending:=pe,fn,tmps:=a.tmps,params:=ps,assign,body,defers:=w.heap.size }:=⟨_,rfl⟩
 obtain⟨V,hV⟩:∃ V,(w.alloc (.deferred (some []))).alloc (.loop (rec .ready none))=V:=⟨_,rfl⟩
 have bV:Below w.heap.size w V:=by rw [<- hV];exact ((Ac _ w).alloc nR _).alloc sM _
 have zV:V.heap.size=w.heap.size+1+1:=by rw [<- hV];simp
 have uf:V.heap[w.heap.size+1]?=some (.loop (rec .ready none)):=by
  exact FD140
 have rJ:V.heap[w.heap.size]?=some (.deferred (some [])):=by
  rw [<- hV];exact (J5 _ _ _ sM).trans (Ap w _)
 have IV:I [] V:=by rw [<- hV];exact hI.alloc _ (hI.alloc _ h0)
 refine⟨w.heap.size+1,[{ target:=.collected w.heap.size,args:=#[] }],V,{ target:=.fn (.func gf) lb,args:=#[.func (.yield (w.heap.size+1)) #[] #[]] },V,gf,
  #[.func (.yield (w.heap.size+1)) #[] #[]]++lb,V,?_,?_,?_,?_,fun _=>h1,?_⟩
 ·rw [<- hV,hrec];exact run_enterLoop_outer _ _ _ _ _
 ·simp only [resolve,hg]
  simp [go_sem]
 ·intro f' hf';simp [Target.leads] at hf';subst hf';exact hFg
 ·simp [invoke,go_sem,eg]
 have far:∀ {A:ZB} {row:Option Nat},(∀ r,row=some r->V.heap.size<=r/\∃ o:Obj,A.heap[r]?=some o/\o.isWalk=true)->∀ r,row=some r->w.heap.size<=r/\∃ o:Obj,A.heap[r]?=some o/\o.isCells=false :=
  fun hr r e=>by obtain⟨h1,o,h2,h3⟩:=hr r e;exact⟨oM,o,h2,Obj.not_cells_of_walk h3⟩
 refine (hseq (w.heap.size+1)
  (fun pre A=>I pre A/\A.heap[w.heap.size+1]?=some (.loop (rec .ready none))/\A.heap[w.heap.size]?=some (.deferred (some [])))
  (fun _ _=>False)
  V (hb0.trans (bV.mono hb0.size))
  (fun s A B row hs hg' hr=>⟨hI s A B row hs.1 hg' (far hr),(grownBy_keeps hg' (fun r e=>(hr r e).2) hs.2.1 rfl).trans hs.2.1,(grownBy_keeps hg' (fun r e=>(hr r e).2) hs.2.2 rfl).trans hs.2.2⟩)
  (fun _ _ _ _ hs _ _=>hs)
  ?_ ⟨IV,uf,rJ⟩).mono ?_
 ·rintro pre x A0 ⟨hi0,hl0,hk0⟩ hlen
  have hlt0:w.heap.size+1<A0.heap.size:=(aZ hl0)
  have hy:=run_yield (P:=P) (args:=encs x) hl0 (by rw [hrec];exact hps x)
  rw [hrec] at hy
  obtain⟨A,hA⟩:∃ A,asg x A0=A:=⟨_,rfl⟩
  have bA:Below A0.heap.size A0 A:=by rw [<- hA];exact FU x A0
  have xA:Bx x A0.heap.size A:=by rw [<- hA];exact hBx x A0
  have hi:I pre A:=hI pre A0 A none hi0 (O5 bA) (fun r e=>by cases e)
  have hl:A.heap[w.heap.size+1]?=some (.loop (rec .ready none)):=(bA.block _ hlt0).trans hl0
  have hk:A.heap[w.heap.size]?=some (.deferred (some [])):=(bA.block _ oM).trans hk0
  have hlt:w.heap.size+1<A.heap.size:=(aZ hl)
  refine⟨fn,_,assign,body,hy,roundIn_of_wpIn hfn (hassign _ x A0 _ ?_)⟩
  rw [hA]
  refine⟨_,run_beginRound hl (by rw [hrec]),?_⟩
  obtain⟨busy,jM⟩:∃ b:Obj,b=.loop { rec .ready none with state:=.busy }:=⟨_,rfl⟩
  rw [<- jM]
  have l2:(A.putObj (w.heap.size+1) busy).heap[w.heap.size+1]?=some busy:=World.putObj_heap_same hlt
  have k2:(A.putObj (w.heap.size+1) busy).heap[w.heap.size]?=some (.deferred (some [])):=(World.putObj_heap_other oM).trans hk
  have b2:KeepsWalks A0 (A.putObj (w.heap.size+1) busy):=(Sd bA).trans (KeepsWalks.putObj _ hl rfl)
  have i2:I pre (A.putObj (w.heap.size+1) busy):=hI.putObj _ hi oM hl rfl
  have x2:Bx x A0.heap.size (A.putObj (w.heap.size+1) busy):=hBp _ _ _ _ _ _ xA hl rfl
  have ends:∀ (C:ZB),KeepsOthers (A.putObj (w.heap.size+1) busy) C ->
    (Instr.endRound (w.heap.size+1) none).run P C=.ok (.bool true) (C.putObj (w.heap.size+1) (.loop (rec .ready none))) /\
    C.heap[w.heap.size+1]?=some busy /\
    (C.putObj (w.heap.size+1) (.loop (rec .ready none))).heap[w.heap.size+1]?=some (.loop (rec .ready none)) /\
    (C.putObj (w.heap.size+1) (.loop (rec .ready none))).heap[w.heap.size]?=some (.deferred (some [])):=fun C hC=>by
   have l3:=hC.same _ _ l2 (by rw [jM];rfl)
   have l3':=l3
   rw [jM] at l3'
   have:=run_endRound (P:=P) none l3'
   rw [hrec] at this ⊢
   exact⟨this,l3,World.putObj_heap_same (aZ l3),(World.putObj_heap_other oM).trans (hC.same _ _ k2 rfl)⟩
  refine wpIn_mono (hbody _ pre x _ _ i2 x2 hlen) ?_
  rintro e a3 C hC
  cases e with
  |normal =>
   obtain⟨hk3,hkp3,hi3⟩:=hC
   obtain⟨hr,hl3,hl4,hk4⟩:=ends C hk3
   exact⟨_,_,hr,.inl ⟨rfl,⟨hI.putObj _ hi3 oM hl3 (by rw [jM];rfl),hl4,hk4⟩,(b2.trans hkp3).trans (KeepsWalks.putObj _ hl3 (by rw [jM];rfl))⟩⟩
  |ret=>exact hC.2.elim
  |exit id=>exact hC.2.elim
  |goto t=>exact hC.2.elim
  |panic ch=>exact hC.elim
  |outgrown=>exact hC.elim
 ·rintro e B ⟨⟨v,rfl⟩,(⟨xs,hS,hi,hl,hk⟩|⟨pre,hSp,hf⟩)⟩
  ·exact FD79
  ·exact hf.elim
end
end
end Go.Proofs.YtdgmgjeoikcgbaaGreatDoor
namespace CH
section
theorem Aac (s:List UInt8):∀ (f i:Nat) (out ts:List Tok),lC s f i out=.ok ts->∀ t∈ts,t∈out\/∃ i j,i<s.length/\next s i=.ok (t,j)
 |0,i,out,ts,h,t,ht=>by
  cases h
  exact .inl ht
 |f+1,i,out,ts,h,t,ht=>by
  unfold lC at h
  split at h
  ·rename_i hi
   split at h
   ·cases h
   ·rename_i u j hu
    split at h
    ·cases h
    ·rcases Aac s f _ _ ts h t ht with h1|h1
     ·rcases Ea.1 h1 with h2|h2
      ·exact .inl h2
      ·rw [Ci] at h2
       subst h2
       exact .inr ⟨i,j,hi,hu⟩
     ·exact .inr h1
  ·cases h
   exact .inl ht
theorem Aan {s:List UInt8} {i j:Nat} {t:Tok} (h:next s i=.ok (t,j)) (hk:t.kind=1):dM s i=3/\bU s [3,4,5] i - i<=24/\t.text=(s.drop i).take (bU s [3,4,5] i - i):=by
 unfold next at h
 split at h
 ·rename_i e;split at h;·cases h
  ·cases h;exact⟨e,oM,rfl⟩
 all_goals
  exfalso;repeat' split at h
  all_goals first |(cases h;done) |(cases h;simp at hk)
theorem Aaz:∀ n:Fin 256,[3,4,5].contains (cls (UInt8.ofNat n.val))=true->tailB (UInt8.ofNat n.val)=true:=by decide +kernel
theorem Aai:∀ n:Fin 256,cls (UInt8.ofNat n.val)=3->letterB (UInt8.ofNat n.val)=true:=by decide +kernel
theorem Aad:∀ n:Fin 256,iG (UInt8.ofNat n.val)=letterB (UInt8.ofNat n.val):=by decide +kernel
theorem Xg (c:UInt8):iG c=letterB c:=by have:=Aad ⟨c.toNat,Fb c⟩;simpa only [UInt8.ofNat_toNat] using this
theorem kF (s:List UInt8):fU s=isName s:=by
 have ht:lQ=tailB:=by funext c;unfold lQ tailB;rw [Xg]
 unfold fU isName;cases s with
 |nil=>rfl
 |cons c l=>simp only [Xg,ht]
theorem jV {s:List UInt8} (h:ident s=true):isName s=true:=by
 unfold ident at h;rw [Aw] at h;obtain⟨_,h⟩:=h;split at h
 ·rename_i t hl;rw [Aw,D7,D7] at h;obtain⟨hk,ht⟩:=h;rcases Aac s _ _ [] _ hl t sM with h1|⟨i,j,hi,hn⟩;·cases h1
  ·obtain⟨h3,h24,hx⟩:=Aan hn hk;rw [ht] at hx;have hlen:=congrArg List.length hx;rw [Dz,Fa] at hlen;have hi0:i=0:=oM;subst hi0;have hm:=qp s [3,4,5] 0;rw [Il] at hx hm;rw [<- hx] at hm;cases hs:s with
   |nil=>rw [hs] at hi;simp at hi
   |cons c l =>
    rw [hs] at hm h3 hlen h24;have hc:letterB c=true:=by have:=Aai ⟨c.toNat,Fb c⟩;simp only [UInt8.ofNat_toNat] at this;exact this h3
    have hall:l.all tailB=true:=Dk.2 fun x hx=>by have:=Aaz ⟨x.toNat,Fb x⟩;simp only [UInt8.ofNat_toNat] at this;exact this (hm x (Gp _ hx))
    show (letterB c&&l.all tailB&&decide ((c::l).length<=24))=true;rw [hc,hall];simp only [a_Bool_true_and,Bl];omega
 ·cases h
theorem Aat:∀ n:Fin 256,tailB (UInt8.ofNat n.val)=true->[3,4,5].contains (cls (UInt8.ofNat n.val))=true:=by decide +kernel
theorem Aaf:∀ n:Fin 256,letterB (UInt8.ofNat n.val)=true->cls (UInt8.ofNat n.val)=3:=by decide +kernel
theorem Oj {p:UInt8->Bool}:∀ {l:List UInt8},(∀ x∈l,p x=true)->l.takeWhile p=l
 |[],_=>rfl
 |x::l,h=>by rw [List.takeWhile_cons,Ar (h x sM),Oj fun y hy=>h y (Gp _ hy)]
theorem Aau {s:List UInt8} (h:isName s=true):ident s=true:=by
 cases s with
 |nil=>cases h
 |cons c l =>
 unfold isName at h;simp only [Aw,Bl] at h;obtain⟨⟨h1,h2⟩,h3⟩:=h;have hc:cls c=3:=by have:=Aaf ⟨c.toNat,Fb c⟩;simp only [UInt8.ofNat_toNat] at this;exact this h1
 have hall:∀ x∈c::l,[3,4,5].contains (cls x)=true:=fun x hx=>by
  rcases A8.1 hx with rfl|hx;·rw [hc];rfl
  ·have:=Aat ⟨x.toNat,Fb x⟩;simp only [UInt8.ofNat_toNat] at this;exact this (Dk.1 h2 x hx)
 generalize hs:c::l=s at *;have hlen:1<=s.length:=by rw [<- hs];simp
 have h0:s[0]?=some c:=by rw [<- hs];rfl
 have k0:dM s 0=3:=by rw [jq s 0 c h0,hc]
 have w0:bU s [3,4,5] 0=s.length:=by unfold bU;rw [Il,Oj hall,Bh]
 have w1:bU s [1] 0=0:=by unfold bU;rw [<- hs,Il,List.takeWhile_cons,Ah (by rw [hc];simp)];rfl
 have w2:bU s [1] s.length=s.length:=by unfold bU;rw [List.drop_length];rfl
 have g0:gap s 0=0:=by unfold gap;rw [show s.length+1 - 0=s.length+1 from rfl,jY,w1,k0,Ah dC]
 have g1:gap s s.length=s.length:=by unfold gap;rw [show s.length+1 - s.length=0+1 from by omega,jY,w2,oh s _ nR,Ah dC]
 have n0:next s 0=.ok (⟨1,0,0,s⟩,s.length):=by
  unfold next
  rw [Ar k0,w0,Ah oM,Il,Nat.sub_zero,Dw]
 have hl:lex s=.ok [⟨1,0,0,s⟩]:=by
  unfold lex;rw [g0,lC,Ar oM,n0];show (if 0=5000 then _ else lC s s.length (gap s s.length) [⟨1,0,0,s⟩])=_;rw [Ah dC,g1];obtain⟨m,hm⟩:∃ m,s.length=m+1:=⟨s.length - 1,oM⟩
  rw [hm,lC,Ah oM]
 unfold ident;rw [hl,Aj oM];simp
theorem lZ (s:List UInt8):ident s=isName s:=by rw [En];exact⟨jV,Aau⟩
end
end CH
