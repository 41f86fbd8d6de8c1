/-
  ChainSeals: the proof, part 12 of 15.
-/
import Derived.Test.YtjepldaciejieaaGreatDoorP10
set_option linter.unusedSimpArgs false
set_option linter.unusedVariables false
set_option maxHeartbeats 40000000
set_option maxRecDepth 100000
namespace Go.Proofs.YtjepldaciejieaaGreatDoor
section
open Go.Lib Go.Proofs.Tryz Go.RowKit Go.Shelf Go.Sort
theorem zeroV_raw (B:Nat) (w:World):VerRaw B w ⟨0,0,0,[],[],⟨0,[],[]⟩⟩ ⟨.slice none 0 0,.slice none 0 0,.slice none 0 0⟩:=⟨⟨none,0,rfl,Nat.le_refl _,by omega,fun h=>absurd rfl h⟩,Dr _ _,Dr _ _⟩
theorem seals_main (au nu po h:Int) (prev secret:List UInt8) (va:Value) (acts:List CH.Act) (w:World) (hG:Gc w) (hau:I64 au) (hnu:I64 nu) (hpo:I64 po) (hraw:D8 w.heap.size w va acts) (hA:Cb w.heap.size w va acts) (hfew:CH.fewActs acts 5=true) (hp:prev.length≤60) (hs:secret.length≤100) (hh:h≤3) :
  Calls prog 3 #[.int .i64 au,.int .i64 nu,.int .i64 po,.string ⟨prev.toArray⟩,va,.string ⟨secret.toArray⟩,.int .i64 h] w (Ret w (.bool true)):=by
 have FW:=hid fun (W:World) (hb:Below w.heap.size w W)=>fewActs_any va acts W ((hraw.below hb nR).mono hb.size)
 rw [hfew] at FW
 obtain⟨V,hV⟩:∃ V:CH.Version,V=⟨au,nu,po,prev,acts,⟨0,[],[]⟩⟩:=⟨_,rfl⟩
 have i0:I64 0:=⟨by decide,by decide⟩
 have sn:Short []:=⟨by simp,fun _ h=>by cases h⟩
 have HV:Hid (∀ (W:World),Below w.heap.size w W→VerAt W.heap.size W V ⟨va,.slice none 0 0,.slice none 0 0⟩):=hid fun W hb=>by
  subst hV
  exact⟨(hA.below hb nR).mono hb.size,Dr _ _,Dr _ _,⟨hau,hnu,hpo,by show prev.length≤10000;omega,i0,sn,sn⟩⟩
 have e1:V.authority=au:=by rw [hV]
 have e2:V.number=nu:=by rw [hV]
 have e3:V.pos=po:=by rw [hV]
 have e4:V.prev=prev:=by rw [hV]
 have e5:V.sel=⟨0,[],[]⟩:=by rw [hV]
 have e6:V.acts=acts:=by rw [hV]
 have MK:Hid (∀ (W:World),Below w.heap.size w W→Calls prog 6 #[.int .i64 au,.int .i64 nu,.int .i64 po,.string ⟨prev.toArray⟩,va,.string ⟨secret.toArray⟩,.int .i64 h] W (MakeRet W V secret h)):=hid fun W hb=>by
  have:=makeAll_any V h secret va W (hG.below hb) (HV.out W hb) e5 (by omega) (by omega)
  rwa [e1,e2,e3,e4] at this
 have GB:=hid fun (W:World) (hb:Below w.heap.size w W)=>hG.below hb
 have q60:decide ((60:Int)<(prev.length:Int))=false:=decide_eq_false (by omega)
 have q100:decide ((100:Int)<(secret.length:Int))=false:=decide_eq_false (by omega)
 have q3:decide ((3:Int)<h)=false:=decide_eq_false (by omega)
 obtain⟨aa,ca,rfl,hca,hca2⟩:=hA.form
 have hsl:=hid hs
 clear hraw hA hfew hp hs hau hpo i0 sn
 obtain⟨N,hN⟩:∃ N,Hid (acts.length=N):=⟨_,hid rfl⟩
 rw [hN.out] at FW HV MK hca ⊢
 go_enter func3,ntmps3
 go_wp2_with fail
 refine (lawHead_any w hG).mono ?_
 rintro e w1 ⟨rfl,hb1⟩
 go_wp2_with fail
 refine (FW.out w1 hb1).mono ?_
 rintro e w2 ⟨rfl,hb2⟩
 have hB2:=hb1.trans (hb2.mono hb1.size)
 clear FW hb1 hb2 hG
 go_wp2_with fail
 refine (MK.out w2 hB2).mono ?_
 rintro e w3 ⟨hb3,⟨er,her,rfl⟩|⟨i,k,m,t,s,hi,rfl,hik,hm,ht,rfl,hat⟩⟩
 ·have hB3:=hB2.trans (hb3.mono hB2.size)
  have q1:(er==0)=false:=by simpa using her
  have q2:(er != 0)=true:=by simpa using her
  have SV:Hid (∀ (W:World),Calls prog 7 #[.agg A7.toArray,.agg #[.int .i64 0,.int .i64 0,.int .i64 0,.string ⟨#[]⟩,.slice none 0 0,.int .i64 0,.slice none 0 0,.slice none 0 0]] W (Ret W (.bool true))):=hid fun W=>sameVer_any ⟨0,0,0,[],[],⟨0,[],[]⟩⟩ ⟨.slice none 0 0,.slice none 0 0,.slice none 0 0⟩ ⟨.slice none 0 0,.slice none 0 0,.slice none 0 0⟩ W (zeroV_raw _ W) (zeroV_raw _ W)
  have hlZ:A7.length=8:=rfl
  have h1Z:∀ u∈A7,u.oneCell'=true:=by
   intro u hu
   simp only [A7,List.mem_cons,List.not_mem_nil,or_false] at hu
   rcases hu with rfl|rfl|rfl|rfl|rfl|rfl|rfl|rfl <;> rfl
  have hiZ:(prog.info? 29).map (·.size)=some A7.length:=by kernel_rfl
  clear MK GB
  generalize A7=Z at *
  have h1Z:=hid h1Z
  have hrZ:=hid (Bl w3 Z 29)
  have hB4:=hid (hB3.alloc hB3.size (.cells Z.toArray 29))
  go_wp2_with (first|refine Av rfl 29 _ _ rfl Z rfl rfl (by rw [hlZ];rfl) hiZ h1Z.out ?_|refine Ak rfl 29 _ rfl w3.heap.size 0 rfl Z _ hrZ.out underlying29 rfl hiZ ?_)
  refine (SV.out _).mono ?_
  rintro e w4 ⟨rfl,hb4⟩
  have hB5:=hid (hB4.out.trans (hb4.mono hB4.out.size))
  go_wp2
  go_ret
  exact⟨rfl,hB5.out⟩
 ·have hB3:=hB2.trans (hb3.mono hB2.size)
  have hn2:=message_nums hm
  rw [e2] at hn2
  have C1:=chk_seal (by omega) hik hi hm ht
  have C2:chkV { sealV V secret k i m with number:=(sealV V secret k i m).number+1 } (CH.pub secret k)=false:=chk_other (by show (i:Int)=V.number - 1;omega)
  have PB:=hid fun (W:World) (hb:Below w.heap.size w W)=>public_any secret k W (GB.out W hb).gl (by have:=hsl.out;omega) (by omega)
  have M1:=hid fun (W:World) (hb:Below w.heap.size w W)=>Cj V _ W (GB.out W hb) (HV.out W hb)
  have hat3:=hid fun (W:World) (hb:Below w3.heap.size w3 W)=>(hat.below hb nR).mono hb.size
  have hsm:=hat.small
  have M2:=hid fun (W:World) (hb:Below w.heap.size w W) (hb':Below w3.heap.size w3 W)=>Cj (sealV V secret k i m) _ W (GB.out W hb) (hat3.out W hb')
  have K1:=hid fun (W:World) (hb:Below w.heap.size w W) (hb':Below w3.heap.size w3 W)=>check_any (sealV V secret k i m) _ (CH.pub secret k) W (GB.out W hb) (hat3.out W hb')
  obtain⟨sa,s1,s2⟩:=s
  have K2:=hid fun (W:World) (hb:Below w.heap.size w W) (hb':Below w3.heap.size w3 W)=>check_any { sealV V secret k i m with number:=(sealV V secret k i m).number+1 } ⟨sa,s1,s2⟩ (CH.pub secret k) W (GB.out W hb) ⟨(hat3.out W hb').acts,(hat3.out W hb').sig,(hat3.out W hb').path,⟨hsm.authority,⟨by show (-9223372036854775808:Int)≤V.number+1;omega,by show V.number+1≤9223372036854775807;omega⟩,hsm.pos,hsm.prev,hsm.index,hsm.sig,hsm.path⟩⟩
  have SV:=hid fun (W:World) (hb:Below w.heap.size w W) (hb':Below w3.heap.size w3 W)=>sameVer_any V ⟨sa,.slice none 0 0,.slice none 0 0⟩ ⟨.slice aa N ca,.slice none 0 0,.slice none 0 0⟩ W ⟨(hat3.out W hb').acts.raw,by rw [e5];exact Dr _ _,by rw [e5];exact Dr _ _⟩ (HV.out W hb).raw
  rw [C1] at K1
  rw [C2] at K2
  rw [hm] at M1
  have hm2:CH.message (sealV V secret k i m)=.ok m:=(msg_seal V _).trans hm
  rw [hm2] at M2
  dsimp only [resV] at M1 M2
  obtain⟨C,hC⟩:∃ C,Ac (sealV V secret k i m) ⟨sa,s1,s2⟩=C:=⟨_,rfl⟩
  obtain⟨D,hD⟩:∃ D,Ac { sealV V secret k i m with number:=(sealV V secret k i m).number+1 } ⟨sa,s1,s2⟩=D:=⟨_,rfl⟩
  obtain⟨E,hE⟩:∃ E,Ac V ⟨.slice aa N ca,.slice none 0 0,.slice none 0 0⟩=E:=⟨_,rfl⟩
  obtain⟨G,hG⟩:∃ G,Ac V ⟨sa,.slice none 0 0,.slice none 0 0⟩=G:=⟨_,rfl⟩
  rw [hC] at K1 M2 ⊢
  rw [hD] at K2
  rw [hE] at M1 SV
  rw [hG] at SV
  have one:∀ (x:CH.Version) (s:VerV),(Ac x s).length=8:=fun _ _=>rfl
  have hlC:C.length=8:=by rw [← hC];rfl
  have hlD:D.length=8:=by rw [← hD];rfl
  have hlE:E.length=8:=by rw [← hE];rfl
  have hlG:G.length=8:=by rw [← hG];rfl
  have hi8:(prog.info? 29).map (·.size)=some 8:=by kernel_rfl
  have hi3:(prog.info? 27).map (·.size)=some 3:=by kernel_rfl
  have hiC:(prog.info? 29).map (·.size)=some C.length:=by rw [hlC];exact hi8
  have hiD:(prog.info? 29).map (·.size)=some D.length:=by rw [hlD];exact hi8
  have hiE:(prog.info? 29).map (·.size)=some E.length:=by rw [hlE];exact hi8
  have hiG:(prog.info? 29).map (·.size)=some G.length:=by rw [hlG];exact hi8
  have h1C:=hid (show ∀ u∈C,u.oneCell'=true by rw [← hC];exact Dp hat)
  have h1E:=hid (show ∀ u∈E,u.oneCell'=true by rw [← hE];exact Dp (HV.out w (Below.refl _ _)))
  have hE':Hid (E=[.int .i64 au,.int .i64 nu,.int .i64 po,.string ⟨prev.toArray⟩,.slice aa N ca,.int .i64 0,.slice none 0 0,.slice none 0 0]):=hid (by rw [← hE,hV];rfl)
  have c1:C[1]?=some (.int .i64 nu):=by rw [← hC,← e2];rfl
  have hDC:Hid (C.set 1 (.int .i64 (nu+1))=D):=hid (by rw [← hC,← hD,← e2];rfl)
  have hGC:Hid (G=C.take 5++[.int .i64 0,.slice none 0 0,.slice none 0 0]):=hid (by
   have e5i:V.sel.index=0:=by rw [e5]
   rw [← hG,← hC]
   show [intV V.authority,intV V.number,intV V.pos,strV V.prev,sa,intV V.sel.index,.slice none 0 0,.slice none 0 0]=[intV V.authority,intV V.number,intV V.pos,strV V.prev,sa,.int .i64 0,.slice none 0 0,.slice none 0 0]
   rw [e5i])
  have hl5:(C.take 5).length=5:=by rw [List.length_take,hlC];rfl
  have qw:IntKind.i64.wrap (nu+1)=nu+1:=by rw [IntKind.wrap_i64];omega
  have eb:((⟨m.toArray⟩:ByteArray)==⟨m.toArray⟩)=true:=by rw [Cm];simp
  have hall:Hid ((#[.int .i64 0,.slice none 0 0,.slice none 0 0]:Array Value).all (·.oneCell')=true):=hid (all_oneCell_toArray (cs:=[.int .i64 0,.slice none 0 0,.slice none 0 0]) (by
   intro u hu
   simp only [List.mem_cons,List.not_mem_nil,or_false] at hu
   rcases hu with rfl|rfl|rfl <;> rfl))
  replace hlC:=hid hlC
  replace hlE:=hid hlE
  replace hl5:=hid hl5
  clear hlD hlG hC hD hE hG hat hat3 hsm hn2 C1 C2 hm hm2 ht hi hik hV HV GB MK e1 e2 e3 e4 e5 e6 one
  generalize CH.pub secret k=key at *
  have hl3:Hid (w.heap.size≤w3.heap.size):=hid hB3.size
  go_wp2_with (first|refine Av rfl 29 _ _ rfl C rfl rfl (by rw [hlC.out];rfl) hiC h1C.out ?_)
  have hB4:Below w.heap.size w (w3.alloc (.cells C.toArray 29)):=hB3.alloc hB3.size _
  have hb4:Below w3.heap.size w3 (w3.alloc (.cells C.toArray 29)):=(Below.refl _ w3).alloc nR _
  have g4:=heap_alloc_last w3 (.cells C.toArray 29)
  have hlt4:w3.heap.size<(w3.alloc (.cells C.toArray 29)).heap.size:=by simp
  generalize w3.alloc (.cells C.toArray 29)=W4 at *
  refine (PB.out W4 hB4).mono ?_
  rintro e w5 ⟨rfl,hb5⟩
  have hB5:=hB4.trans (hb5.mono hB4.size)
  have hb35:=hb4.trans (hb5.mono hb4.size)
  have g5:=(hb5.block w3.heap.size hlt4).trans g4
  have hlt5:w3.heap.size<w5.heap.size:=nL hlt4 hb5.size
  have hrE:=hid (Bl w5 E 29)
  clear PB hB4 hb4 g4 hb5 hlt4
  go_wp2_with (first|refine wpList_load_mid rfl 29 _ rfl w5.heap.size 0 rfl E _ hrE.out underlying29 rfl hiE ?_|refine Av rfl 29 _ _ rfl E rfl (by rw [hE'.out];rfl) (by rw [hlE.out];rfl) hiE h1E.out ?_)
  have hb6:Below w5.heap.size w5 (w5.alloc (.cells E.toArray 29)):=(Below.refl _ w5).alloc nR _
  have g6E:=heap_alloc_last w5 (.cells E.toArray 29)
  have hlt6:w5.heap.size<(w5.alloc (.cells E.toArray 29)).heap.size:=by simp
  clear hrE
  generalize w5.alloc (.cells E.toArray 29)=W6 at *
  have hB6:=hB5.trans (hb6.mono hB5.size)
  have hb36:=hb35.trans (hb6.mono hb35.size)
  have g6:=(hb6.block w3.heap.size hlt5).trans g5
  refine (M1.out W6 hB6).mono ?_
  rintro e w6 ⟨rfl,hb7⟩
  have hB7:=hB6.trans (hb7.mono hB6.size)
  have hb37:=hb36.trans (hb7.mono hb36.size)
  have g7:=(hb7.block w3.heap.size (by omega)).trans g6
  have g7E:=(hb7.block w5.heap.size hlt6).trans g6E
  have hlt7:w5.heap.size<w6.heap.size:=nL hlt6 hb7.size
  have hr7:=hid (show w6.rangeAt w3.heap.size 0 C from fun j u hj=>by rw [Nat.zero_add,cell_of g7 j];simpa using hj)
  clear M1 hB5 hb35 g5 hb6 hB6 hb36 g6 hb7 g6E hlt6
  go_wp2_with (first|refine wpList_load_mid rfl 29 _ rfl w3.heap.size 0 rfl C _ hr7.out underlying29 rfl hiC ?_)
  refine (M2.out w6 hB7 hb37).mono ?_
  rintro e w7 ⟨rfl,hb8⟩
  have hB8:=hB7.trans (hb8.mono hB7.size)
  have hb38:=hb37.trans (hb8.mono hb37.size)
  have g8:=(hb8.block w3.heap.size (by omega)).trans g7
  have g8E:=(hb8.block w5.heap.size hlt7).trans g7E
  have hlt8:w5.heap.size<w7.heap.size:=nL hlt7 hb8.size
  have hr8:=hid (show w7.rangeAt w3.heap.size 0 C from fun j u hj=>by rw [Nat.zero_add,cell_of g8 j];simpa using hj)
  have hc1:(w7.alloc (.cells C.toArray 29)).cell? ⟨w7.heap.size,1,none⟩=some (.int .i64 nu):=by rw [cell_of (heap_alloc_last w7 _) 1];simpa using c1
  have hf1:(w7.alloc (.cells C.toArray 29)).frozen? ⟨w7.heap.size,1,none⟩=false:=Aj (heap_alloc_last w7 _) 1
  have gX:=heap_alloc_last w7 (.cells (C.set 1 (.int .i64 (nu+1))).toArray 29)
  have hbX:Below w7.heap.size w7 (w7.alloc (.cells (C.set 1 (.int .i64 (nu+1))).toArray 29)):=(Below.refl _ w7).alloc nR _
  have gX3:=(hbX.block w3.heap.size (by omega)).trans g8
  have hrX:=hid (show (w7.alloc (.cells (C.set 1 (.int .i64 (nu+1))).toArray 29)).rangeAt w3.heap.size 0 C from fun j u hj=>by rw [Nat.zero_add,cell_of gX3 j];simpa using hj)
  have gX:=hid gX
  have gX3:=hid gX3
  have hbX:=hid hbX
  clear M2 hB7 hb37 g7 g7E hlt7 hr7 hb8
  go_wp2_with (first|refine wpList_load_mid rfl 29 _ rfl w3.heap.size 0 rfl C _ hr8.out underlying29 rfl hiC ?_|refine Av rfl 29 _ _ rfl C rfl rfl (by rw [hlC.out];rfl) hiC h1C.out ?_|refine Ak rfl 29 _ rfl w3.heap.size 0 rfl C _ hrX.out underlying29 rfl hiC ?_)
  have hltX:w7.heap.size<(w7.alloc (.cells (C.set 1 (.int .i64 (nu+1))).toArray 29)).heap.size:=by simp
  clear hc1 hf1 hrX
  generalize w7.alloc (.cells (C.set 1 (.int .i64 (nu+1))).toArray 29)=X at *
  replace gX:=hid (show X.heap[w7.heap.size]?=some (.cells D.toArray 29 (0,0)) by have:=gX.out;rwa [hDC.out] at this)
  have hBX:=hB8.trans (hbX.out.mono hB8.size)
  have hb3X:=hb38.trans (hbX.out.mono hb38.size)
  have gXE:=(hbX.out.block w5.heap.size hlt8).trans g8E
  refine (K1.out X hBX hb3X).mono ?_
  rintro e w8 ⟨rfl,hb9⟩
  have hB9:=hBX.trans (hb9.mono hBX.size)
  have hb39:=hb3X.trans (hb9.mono hb3X.size)
  have g9D:=(hb9.block w7.heap.size hltX).trans gX.out
  have g9:=(hb9.block w3.heap.size (by omega)).trans gX3.out
  have g9E:=(hb9.block w5.heap.size (by omega)).trans gXE
  have hlt9:w7.heap.size<w8.heap.size:=nL hltX hb9.size
  have hr9D:=hid (show w8.rangeAt w7.heap.size 0 D from fun j u hj=>by rw [Nat.zero_add,cell_of g9D j];simpa using hj)
  clear K1 hB8 hb38 g8 g8E hr8 gX gX3 hbX gXE hBX hb3X hb9 hltX
  go_wp2_with (first|refine Ak rfl 29 _ rfl w7.heap.size 0 rfl D _ hr9D.out underlying29 rfl hiD ?_)
  refine (K2.out w8 hB9 hb39).mono ?_
  rintro e w9 ⟨rfl,hb10⟩
  have hB10:=hB9.trans (hb10.mono hB9.size)
  have hb310:=hb39.trans (hb10.mono hb39.size)
  have g10:=(hb10.block w3.heap.size (by omega)).trans g9
  have g10E:=(hb10.block w5.heap.size (by omega)).trans g9E
  have hth:w9.there w3.heap.size 5 3:=fun j hj=>⟨by rw [cell_of g10 (5+j),List.getElem?_toArray,lZ (by rw [hlC.out];omega)];rfl,Aj g10 _⟩
  have hr10:w9.rangeAt w3.heap.size 0 (C.take 5):=fun j u hj=>by
   rw [Nat.zero_add,cell_of g10 j,List.getElem?_toArray]
   rw [List.getElem?_take] at hj
   split at hj
   ·exact hj
   ·cases hj
  have hr10E:w9.rangeAt w5.heap.size 0 E:=fun j u hj=>by rw [Nat.zero_add,cell_of g10E j];simpa using hj
  have hrG:=hid (show (w9.setCells w3.heap.size 5 [.int .i64 0,.slice none 0 0,.slice none 0 0]).rangeAt w3.heap.size 0 G from fun j u hj=>by
   rw [hGC.out] at hj
   rcases Nat.lt_or_ge j 5 with h5|h5
   ·rw [List.getElem?_append_left (by rw [hl5.out];exact h5)] at hj
    exact World.rangeAt_setCells_apart hr10 _ _ _ (.inr (.inl (by rw [hl5.out];omega))) j u hj
   ·rw [List.getElem?_append_right (by rw [hl5.out];exact h5),hl5.out] at hj
    have:=World.rangeAt_setCells_same w9 w3.heap.size 5 [.int .i64 0,.slice none 0 0,.slice none 0 0] hth (j - 5) u hj
    rwa [show 5+(j - 5)=0+j from by omega] at this)
  have hrE:=hid (World.rangeAt_setCells_apart hr10E w3.heap.size 5 [.int .i64 0,.slice none 0 0,.slice none 0 0] (.inl (by omega)))
  have hBY:=hid (Au hB10 hl3.out [.int .i64 0,.slice none 0 0,.slice none 0 0] 5)
  have hb3Y:=hid (Au hb310 nR [.int .i64 0,.slice none 0 0,.slice none 0 0] 5)
  have hth:=hid hth
  clear K2 hB9 hb39 g9D g9 g9E hr9D hb10 hB10 hb310 g10 g10E hr10 hr10E
  go_wp2_with (first|refine wpList_store_mid rfl 27 _ _ rfl w3.heap.size 5 #[.int .i64 0,.slice none 0 0,.slice none 0 0] rfl rfl hth.out hi3 hall.out ?_|refine Ak rfl 29 _ rfl w3.heap.size 0 rfl G _ hrG.out underlying29 rfl hiG ?_|refine Ak rfl 29 _ rfl w5.heap.size 0 rfl E _ hrE.out underlying29 rfl hiE ?_)
  refine (SV.out _ hBY.out hb3Y.out).mono ?_
  rintro e w10 ⟨rfl,hb11⟩
  have hBZ:=hid (hBY.out.trans (hb11.mono hBY.out.size))
  go_wp2
  go_ret
  exact⟨rfl,hBZ.out⟩
end
end Go.Proofs.YtjepldaciejieaaGreatDoor
