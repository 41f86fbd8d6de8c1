/-
  ChainSeals: the proof, part 8 of 15.
-/
import Derived.Test.YtjepldaciejieaaGreatDoorP06
set_option linter.unusedSimpArgs false
set_option linter.unusedVariables false
set_option maxHeartbeats 40000000
set_option maxRecDepth 100000
namespace Go.Proofs.YtjepldaciejieaaGreatDoor
section
open Go.Lib Go.Proofs.Tryz Go.RowKit Go.Shelf Go.Sort
def okSeq (ops:Array Oper):Array Bool→List Nat→Bool
 | _,[]=>true
 | l,i::r=>Region.free .any ops l i&&(Region.ready .any ops l).contains i&&okSeq ops (l.setIfInBounds i true) r
def Bt (l:Array Bool) (r:List Nat):Array Bool:=r.foldl (fun a i=>a.setIfInBounds i true) l
theorem tu {d:UnD} {p:UnP} {X:World} {Q:Exit→Act→World→Prop} {fuel:Nat} {listed:Array Bool} {a:Act} {r:List Nat} (i:Nat) (v:Value) (hsel:Region.noSelect unOps=true) (hQ:∀ c (a:Act) w d v,Q (.panic c) (a.put d v) w→Q (.panic c) a w) (hHeld:UnS d p X)
  (hok:okSeq unOps listed (i::r)=true) (hy:YieldsIf prog unOps (UnS d p) (unOp i) v a)
  (h:okSeq unOps (listed.setIfInBounds i true) r=true→wpAnyH prog .any unOps Q (UnS d p) fuel (listed.setIfInBounds i true) (a.put (unOp i).dst v) X) (hi:unOps[i]?=some (unOp i):=by kernel_rfl):wpAnyH prog .any unOps Q (UnS d p) (fuel+1) listed a X:=by
 simp only [okSeq,Bool.and_eq_true] at hok
 exact wpAnyH_take hi hsel hok.1.1 hok.1.2 (fun _ _ _ h=>hQ _ _ _ _ _ h) hy hHeld (h hok.2)
theorem Dm {ops:Array Oper}:∀ {l:Array Bool} (a b:List Nat),okSeq ops l (a++b)=true→okSeq ops l a=true∧okSeq ops (Bt l a) b=true
 | _,[],_,h=>⟨rfl,h⟩
 | l,i::a,b,h=>by
  simp only [List.cons_append,okSeq,Bool.and_eq_true] at h
  have h1:=Dm a b h.2
  refine⟨?_,h1.2⟩
  simp only [okSeq,Bool.and_eq_true]
  exact⟨h.1,h1.1⟩
theorem Dg (l:Array Bool) (a b:List Nat):Bt (Bt l a) b=Bt l (a++b):=(List.foldl_append ..).symm
theorem Eb {ops:Array Oper}:∀ {l:Array Bool} (a b:List Nat),okSeq ops l a=true→okSeq ops (Bt l a) b=true→okSeq ops l (a++b)=true
 | _,[],_,_,h=>h
 | l,i::a,b,h,h2=>by
  simp only [okSeq,Bool.and_eq_true] at h
  simp only [List.cons_append,okSeq,Bool.and_eq_true]
  exact⟨h.1,Eb a b h.2 h2⟩
theorem getD_false_of {l:Array Bool} {i:Nat} (h:l.getD i false=true):l.getD i true=true∧i<l.size:=by
 by_cases hi:i<l.size
 ·simp [hi] at h ⊢;exact h
 ·simp [hi] at h
theorem free_mono {ops:Array Oper} {l l':Array Bool} {i:Nat} (hm:∀ j,l.getD j true=true→l'.getD j true=true) (h:Region.free .any ops l i=true):Region.free .any ops l' i=true:=by
 unfold Region.free at h ⊢
 cases ho:ops[i]? with
 | none=>rw [ho] at h;exact h
 | some oi =>
  rw [ho] at h
  simp only [List.all_eq_true,Bool.or_eq_true] at h ⊢
  intro j hj
  rcases h j hj with (h1|h1)|h1
  ·exact .inl (.inl h1)
  ·exact .inl (.inr (hm j h1))
  ·exact .inr h1
theorem ready_up {ops:Array Oper} {l l':Array Bool} {i:Nat} (hs:l.size=l'.size) (hm:∀ j,l.getD j true=true→l'.getD j true=true) (hi:l'.getD i true=false) (h:(Region.ready .any ops l).contains i=true):(Region.ready .any ops l').contains i=true:=by
 have h1:i∈Region.ready .any ops l:=by simpa using h
 obtain⟨_,o,ho,ha⟩:=mem_ready.1 h1
 have h2:i∈Region.ready .any ops l':=mem_ready.2 ⟨hi,o,ho,fun e he hb=>by
  have h3:=getD_false_of (ha e he hb)
  have h4:=hm _ h3.1
  have h5:e.on<l'.size:=hs ▸ h3.2
  simp [h5] at h4 ⊢
  exact h4⟩
 simpa using h2
theorem Fd {ops:Array Oper}:∀ {l l':Array Bool} (s:List Nat),l.size=l'.size→(∀ j,l.getD j true=true→l'.getD j true=true)→(∀ j∈s,l'.getD j true=false)→s.Nodup→okSeq ops l s=true→okSeq ops l' s=true
 | _,_,[],_,_,_,_,_=>rfl
 | l,l',i::s,hs,hm,hf,hn,h=>by
  simp only [okSeq,Bool.and_eq_true] at h ⊢
  refine⟨⟨free_mono hm h.1.1,ready_up hs hm (hf i (by simp)) h.1.2⟩,Fd s (by simp [hs]) (fun j hj=>?_) (fun j hj=>?_) (List.nodup_cons.1 hn).2 h.2⟩
  ·by_cases e:i=j
   ·subst e
    simp only [Array.getD_eq_getD_getElem?,Array.getElem?_setIfInBounds_self]
    split <;> rfl
   ·simp only [Array.getD_eq_getD_getElem?,Array.getElem?_setIfInBounds_ne e] at hj ⊢
    simpa [Array.getD_eq_getD_getElem?] using hm j (by simpa [Array.getD_eq_getD_getElem?] using hj)
  ·have e:i≠j:=fun e=>(List.nodup_cons.1 hn).1 (e ▸ hj)
   simp only [Array.getD_eq_getD_getElem?,Array.getElem?_setIfInBounds_ne e]
   simpa [Array.getD_eq_getD_getElem?] using hf j (by simp [hj])
theorem un_B_0 (d:UnD) (p:UnP) (z:Bool) (v28:Value) (X:World) (Q:Exit→Act→World→Prop) (hsel:Region.noSelect unOps=true) (hQ:∀ c (a:Act) w d v,Q (.panic c) (a.put d v) w→Q (.panic c) a w) (hHeld:UnS d p X) (f:Nat) (l:Array Bool) (hok:okSeq unOps l [31,36,37,38,39,40,41,42,43,44,45,46,47,48]=true)
  (H:wpAnyH prog .any unOps Q (UnS d p) f (Bt l [31,36,37,38,39,40,41,42,43,44,45,46,47,48]) (unG1 d p z v28) X):wpAnyH prog .any unOps Q (UnS d p) (f+14) l (unG0 d p z v28) X:=by
 refine tu 31 (.bool (!z)) hsel hQ hHeld hok (Aa (by kernel_rfl) fun W hS=>(by kernel_rfl)) fun hok=>?_
 refine tu 36 (.bool (d.xl1)) hsel hQ hHeld hok (Aa (by kernel_rfl) fun W hS=>Bp (x:=.tmp 61) (by kernel_rfl) (by kernel_rfl)) fun hok=>?_
 refine tu 37 ((if (d.xl1)=true then undef else .pointer (some ⟨p.p5,1,none⟩))) hsel hQ hHeld hok (Ad (y:=(d.xl1)) (by kernel_rfl) fun e W hS=>Ay (T:=61) (x:=.tmp 5) (f:=1) (by kernel_rfl) (by kernel_rfl:_=.pointer (some ⟨p.p5,0,none⟩)) (by kernel_rfl)) fun hok=>?_
 refine tu 38 ((if (d.xl1)=true then undef else .slice d.am d.nm d.cm)) hsel hQ hHeld hok (Ad (y:=(d.xl1)) (by kernel_rfl) fun e W hS=>Ba (T:=25) (x:=.tmp 63) (by kernel_rfl) (hx:=(by kernel_rfl:_=(if (d.xl1)=true then undef else .pointer (some ⟨p.p5,1,none⟩))).trans (by rw [e];first|done|rfl)) (load_strs (hS.l 1))) fun hok=>?_
 refine tu 39 ((if (d.xl1)=true then undef else .int .i64 d.nm)) hsel hQ hHeld hok (Ad (y:=(d.xl1)) (by kernel_rfl) fun e W hS=>ex_len (x:=.tmp 64) (T:=25) underlying25 (by kernel_rfl) (hx:=(by kernel_rfl:_=(if (d.xl1)=true then undef else .slice d.am d.nm d.cm)).trans (by rw [e];first|done|rfl))) fun hok=>?_
 refine tu 40 ((if (d.xl1)=true then undef else .bool (d.xl2))) hsel hQ hHeld hok (Ad (y:=(d.xl1)) (by kernel_rfl) fun e W hS=>B6 (op:=.gtr) (T:=3) (T':=3) (x:=.tmp 65) (y:=.const (.int .i64 0)) (by kernel_rfl) (hx:=(by kernel_rfl:_=(if (d.xl1)=true then undef else .int .i64 d.nm)).trans (by rw [e];first|done|rfl)) rfl (by kernel_rfl) (gtr_int0 d.nm W)) fun hok=>?_
 refine tu 41 (.bool (d.yl2)) hsel hQ hHeld hok (Aa (by kernel_rfl) fun W hS=>(Bz (c:=.tmp 62) (x:=.const (.bool true)) (y:=.tmp 66) (b:=(d.xl1)) (by kernel_rfl) (by kernel_rfl) (by kernel_rfl:_=.bool true) (by kernel_rfl:_=(if (d.xl1)=true then undef else .bool (d.xl2)))).trans (by unfold UnD.yl2;cases (d.xl1) <;> rfl)) fun hok=>?_
 refine tu 42 (.bool (d.yl2)) hsel hQ hHeld hok (Aa (by kernel_rfl) fun W hS=>Bp (x:=.tmp 67) (by kernel_rfl) (by kernel_rfl)) fun hok=>?_
 refine tu 43 ((if (d.yl2)=true then undef else .pointer (some ⟨p.p5,2,none⟩))) hsel hQ hHeld hok (Ad (y:=(d.yl2)) (by kernel_rfl) fun e W hS=>Ay (T:=61) (x:=.tmp 5) (f:=2) (by kernel_rfl) (by kernel_rfl:_=.pointer (some ⟨p.p5,0,none⟩)) (by kernel_rfl)) fun hok=>?_
 refine tu 44 ((if (d.yl2)=true then undef else .slice d.ap d.np d.cq)) hsel hQ hHeld hok (Ad (y:=(d.yl2)) (by kernel_rfl) fun e W hS=>Ba (T:=25) (x:=.tmp 69) (by kernel_rfl) (hx:=(by kernel_rfl:_=(if (d.yl2)=true then undef else .pointer (some ⟨p.p5,2,none⟩))).trans (by rw [e];first|done|rfl)) (load_strs (hS.l 2))) fun hok=>?_
 refine tu 45 ((if (d.yl2)=true then undef else .int .i64 d.np)) hsel hQ hHeld hok (Ad (y:=(d.yl2)) (by kernel_rfl) fun e W hS=>ex_len (x:=.tmp 70) (T:=25) underlying25 (by kernel_rfl) (hx:=(by kernel_rfl:_=(if (d.yl2)=true then undef else .slice d.ap d.np d.cq)).trans (by rw [e];first|done|rfl))) fun hok=>?_
 refine tu 46 ((if (d.yl2)=true then undef else .bool (d.xl3))) hsel hQ hHeld hok (Ad (y:=(d.yl2)) (by kernel_rfl) fun e W hS=>B6 (op:=.gtr) (T:=3) (T':=3) (x:=.tmp 71) (y:=.const (.int .i64 0)) (by kernel_rfl) (hx:=(by kernel_rfl:_=(if (d.yl2)=true then undef else .int .i64 d.np)).trans (by rw [e];first|done|rfl)) rfl (by kernel_rfl) (gtr_int0 d.np W)) fun hok=>?_
 refine tu 47 (.bool (d.yl3)) hsel hQ hHeld hok (Aa (by kernel_rfl) fun W hS=>(Bz (c:=.tmp 68) (x:=.const (.bool true)) (y:=.tmp 72) (b:=(d.yl2)) (by kernel_rfl) (by kernel_rfl) (by kernel_rfl:_=.bool true) (by kernel_rfl:_=(if (d.yl2)=true then undef else .bool (d.xl3)))).trans (by unfold UnD.yl3;cases (d.yl2) <;> rfl)) fun hok=>?_
 refine tu 48 (.bool (d.yl3)) hsel hQ hHeld hok (Aa (by kernel_rfl) fun W hS=>Bp (x:=.tmp 73) (by kernel_rfl) (by kernel_rfl)) fun hok=>?_
 exact Aw (by kernel_rfl) (by kernel_rfl) H
theorem un_B_1 (d:UnD) (p:UnP) (z:Bool) (v28:Value) (X:World) (Q:Exit→Act→World→Prop) (hsel:Region.noSelect unOps=true) (hQ:∀ c (a:Act) w d v,Q (.panic c) (a.put d v) w→Q (.panic c) a w) (hHeld:UnS d p X) (f:Nat) (l:Array Bool) (hok:okSeq unOps l [49,50,51,52,53,54,55,56,57,58,59,60,61,62]=true)
  (H:wpAnyH prog .any unOps Q (UnS d p) f (Bt l [49,50,51,52,53,54,55,56,57,58,59,60,61,62]) (unG2 d p z v28) X):wpAnyH prog .any unOps Q (UnS d p) (f+14) l (unG1 d p z v28) X:=by
 refine tu 49 ((if (d.yl3)=true then undef else .pointer (some ⟨p.p5,3,none⟩))) hsel hQ hHeld hok (Ad (y:=(d.yl3)) (by kernel_rfl) fun e W hS=>Ay (T:=61) (x:=.tmp 5) (f:=3) (by kernel_rfl) (by kernel_rfl:_=.pointer (some ⟨p.p5,0,none⟩)) (by kernel_rfl)) fun hok=>?_
 refine tu 50 ((if (d.yl3)=true then undef else .int .i64 d.lq)) hsel hQ hHeld hok (Ad (y:=(d.yl3)) (by kernel_rfl) fun e W hS=>Ba (T:=3) (x:=.tmp 75) (by kernel_rfl) (hx:=(by kernel_rfl:_=(if (d.yl3)=true then undef else .pointer (some ⟨p.p5,3,none⟩))).trans (by rw [e];first|done|rfl)) (Cw (hS.l 3))) fun hok=>?_
 refine tu 51 ((if (d.yl3)=true then undef else .bool (d.xl4))) hsel hQ hHeld hok (Ad (y:=(d.yl3)) (by kernel_rfl) fun e W hS=>B6 (op:=.neq) (T:=3) (T':=3) (x:=.tmp 76) (y:=.const (.int .i64 0)) (by kernel_rfl) (hx:=(by kernel_rfl:_=(if (d.yl3)=true then undef else .int .i64 d.lq)).trans (by rw [e];first|done|rfl)) rfl (by kernel_rfl) (Cv d.lq W)) fun hok=>?_
 refine tu 52 (.bool (d.yl4)) hsel hQ hHeld hok (Aa (by kernel_rfl) fun W hS=>(Bz (c:=.tmp 74) (x:=.const (.bool true)) (y:=.tmp 77) (b:=(d.yl3)) (by kernel_rfl) (by kernel_rfl) (by kernel_rfl:_=.bool true) (by kernel_rfl:_=(if (d.yl3)=true then undef else .bool (d.xl4)))).trans (by unfold UnD.yl4;cases (d.yl3) <;> rfl)) fun hok=>?_
 refine tu 53 (.bool (d.yl4)) hsel hQ hHeld hok (Aa (by kernel_rfl) fun W hS=>Bp (x:=.tmp 78) (by kernel_rfl) (by kernel_rfl)) fun hok=>?_
 refine tu 54 ((if (d.yl4)=true then undef else .pointer (some ⟨p.p5,4,none⟩))) hsel hQ hHeld hok (Ad (y:=(d.yl4)) (by kernel_rfl) fun e W hS=>Ay (T:=61) (x:=.tmp 5) (f:=4) (by kernel_rfl) (by kernel_rfl:_=.pointer (some ⟨p.p5,0,none⟩)) (by kernel_rfl)) fun hok=>?_
 refine tu 55 ((if (d.yl4)=true then undef else .int .i64 d.lu)) hsel hQ hHeld hok (Ad (y:=(d.yl4)) (by kernel_rfl) fun e W hS=>Ba (T:=3) (x:=.tmp 80) (by kernel_rfl) (hx:=(by kernel_rfl:_=(if (d.yl4)=true then undef else .pointer (some ⟨p.p5,4,none⟩))).trans (by rw [e];first|done|rfl)) (Cw (hS.l 4))) fun hok=>?_
 refine tu 56 ((if (d.yl4)=true then undef else .bool (d.xl5))) hsel hQ hHeld hok (Ad (y:=(d.yl4)) (by kernel_rfl) fun e W hS=>B6 (op:=.neq) (T:=3) (T':=3) (x:=.tmp 81) (y:=.const (.int .i64 0)) (by kernel_rfl) (hx:=(by kernel_rfl:_=(if (d.yl4)=true then undef else .int .i64 d.lu)).trans (by rw [e];first|done|rfl)) rfl (by kernel_rfl) (Cv d.lu W)) fun hok=>?_
 refine tu 57 (.bool (d.yl5)) hsel hQ hHeld hok (Aa (by kernel_rfl) fun W hS=>(Bz (c:=.tmp 79) (x:=.const (.bool true)) (y:=.tmp 82) (b:=(d.yl4)) (by kernel_rfl) (by kernel_rfl) (by kernel_rfl:_=.bool true) (by kernel_rfl:_=(if (d.yl4)=true then undef else .bool (d.xl5)))).trans (by unfold UnD.yl5;cases (d.yl4) <;> rfl)) fun hok=>?_
 refine tu 58 (.bool (d.yl5)) hsel hQ hHeld hok (Aa (by kernel_rfl) fun W hS=>Bp (x:=.tmp 83) (by kernel_rfl) (by kernel_rfl)) fun hok=>?_
 refine tu 59 ((if (d.yl5)=true then undef else .pointer (some ⟨p.p5,5,none⟩))) hsel hQ hHeld hok (Ad (y:=(d.yl5)) (by kernel_rfl) fun e W hS=>Ay (T:=61) (x:=.tmp 5) (f:=5) (by kernel_rfl) (by kernel_rfl:_=.pointer (some ⟨p.p5,0,none⟩)) (by kernel_rfl)) fun hok=>?_
 refine tu 60 ((if (d.yl5)=true then undef else .int .i64 d.lf)) hsel hQ hHeld hok (Ad (y:=(d.yl5)) (by kernel_rfl) fun e W hS=>Ba (T:=3) (x:=.tmp 85) (by kernel_rfl) (hx:=(by kernel_rfl:_=(if (d.yl5)=true then undef else .pointer (some ⟨p.p5,5,none⟩))).trans (by rw [e];first|done|rfl)) (Cw (hS.l 5))) fun hok=>?_
 refine tu 61 ((if (d.yl5)=true then undef else .bool (d.xl6))) hsel hQ hHeld hok (Ad (y:=(d.yl5)) (by kernel_rfl) fun e W hS=>B6 (op:=.neq) (T:=3) (T':=3) (x:=.tmp 86) (y:=.const (.int .i64 0)) (by kernel_rfl) (hx:=(by kernel_rfl:_=(if (d.yl5)=true then undef else .int .i64 d.lf)).trans (by rw [e];first|done|rfl)) rfl (by kernel_rfl) (Cv d.lf W)) fun hok=>?_
 refine tu 62 (.bool (d.yl6)) hsel hQ hHeld hok (Aa (by kernel_rfl) fun W hS=>(Bz (c:=.tmp 84) (x:=.const (.bool true)) (y:=.tmp 87) (b:=(d.yl5)) (by kernel_rfl) (by kernel_rfl) (by kernel_rfl:_=.bool true) (by kernel_rfl:_=(if (d.yl5)=true then undef else .bool (d.xl6)))).trans (by unfold UnD.yl6;cases (d.yl5) <;> rfl)) fun hok=>?_
 exact Aw (by kernel_rfl) (by kernel_rfl) H
theorem un_B_2 (d:UnD) (p:UnP) (z:Bool) (v28:Value) (X:World) (Q:Exit→Act→World→Prop) (hsel:Region.noSelect unOps=true) (hQ:∀ c (a:Act) w d v,Q (.panic c) (a.put d v) w→Q (.panic c) a w) (hHeld:UnS d p X) (f:Nat) (l:Array Bool) (hok:okSeq unOps l [63,64,65,66,67,72,73,74,75,76,77,78,79,80]=true)
  (H:wpAnyH prog .any unOps Q (UnS d p) f (Bt l [63,64,65,66,67,72,73,74,75,76,77,78,79,80]) (unG3 d p z v28) X):wpAnyH prog .any unOps Q (UnS d p) (f+14) l (unG2 d p z v28) X:=by
 refine tu 63 (.bool (d.yl6)) hsel hQ hHeld hok (Aa (by kernel_rfl) fun W hS=>Bp (x:=.tmp 88) (by kernel_rfl) (by kernel_rfl)) fun hok=>?_
 refine tu 64 ((if (d.yl6)=true then undef else .pointer (some ⟨p.p5,6,none⟩))) hsel hQ hHeld hok (Ad (y:=(d.yl6)) (by kernel_rfl) fun e W hS=>Ay (T:=61) (x:=.tmp 5) (f:=6) (by kernel_rfl) (by kernel_rfl:_=.pointer (some ⟨p.p5,0,none⟩)) (by kernel_rfl)) fun hok=>?_
 refine tu 65 ((if (d.yl6)=true then undef else .int .i64 d.lt)) hsel hQ hHeld hok (Ad (y:=(d.yl6)) (by kernel_rfl) fun e W hS=>Ba (T:=3) (x:=.tmp 90) (by kernel_rfl) (hx:=(by kernel_rfl:_=(if (d.yl6)=true then undef else .pointer (some ⟨p.p5,6,none⟩))).trans (by rw [e];first|done|rfl)) (Cw (hS.l 6))) fun hok=>?_
 refine tu 66 ((if (d.yl6)=true then undef else .bool (d.xl7))) hsel hQ hHeld hok (Ad (y:=(d.yl6)) (by kernel_rfl) fun e W hS=>B6 (op:=.neq) (T:=3) (T':=3) (x:=.tmp 91) (y:=.const (.int .i64 0)) (by kernel_rfl) (hx:=(by kernel_rfl:_=(if (d.yl6)=true then undef else .int .i64 d.lt)).trans (by rw [e];first|done|rfl)) rfl (by kernel_rfl) (Cv d.lt W)) fun hok=>?_
 refine tu 67 (.bool (d.yl7)) hsel hQ hHeld hok (Aa (by kernel_rfl) fun W hS=>(Bz (c:=.tmp 89) (x:=.const (.bool true)) (y:=.tmp 92) (b:=(d.yl6)) (by kernel_rfl) (by kernel_rfl) (by kernel_rfl:_=.bool true) (by kernel_rfl:_=(if (d.yl6)=true then undef else .bool (d.xl7)))).trans (by unfold UnD.yl7;cases (d.yl6) <;> rfl)) fun hok=>?_
 refine tu 72 (.bool (d.xh1)) hsel hQ hHeld hok (Aa (by kernel_rfl) fun W hS=>Bp (x:=.tmp 96) (by kernel_rfl) (by kernel_rfl)) fun hok=>?_
 refine tu 73 ((if (d.xh1)=true then undef else .pointer (some ⟨p.p6,1,none⟩))) hsel hQ hHeld hok (Ad (y:=(d.xh1)) (by kernel_rfl) fun e W hS=>Ay (T:=49) (x:=.tmp 6) (f:=1) (by kernel_rfl) (by kernel_rfl:_=.pointer (some ⟨p.p6,0,none⟩)) (by kernel_rfl)) fun hok=>?_
 refine tu 74 ((if (d.xh1)=true then undef else .string ⟨d.h1.toArray⟩)) hsel hQ hHeld hok (Ad (y:=(d.xh1)) (by kernel_rfl) fun e W hS=>Ba (T:=9) (x:=.tmp 98) (by kernel_rfl) (hx:=(by kernel_rfl:_=(if (d.xh1)=true then undef else .pointer (some ⟨p.p6,1,none⟩))).trans (by rw [e];first|done|rfl)) (D3 (hS.h 1))) fun hok=>?_
 refine tu 75 ((if (d.xh1)=true then undef else .bool (d.xh2))) hsel hQ hHeld hok (Ad (y:=(d.xh1)) (by kernel_rfl) fun e W hS=>B6 (op:=.neq) (T:=9) (T':=9) (x:=.tmp 99) (y:=.const (.string ⟨#[]⟩)) (by kernel_rfl) (hx:=(by kernel_rfl:_=(if (d.xh1)=true then undef else .string ⟨d.h1.toArray⟩)).trans (by rw [e];first|done|rfl)) rfl (by kernel_rfl) (Dy d.h1 W)) fun hok=>?_
 refine tu 76 (.bool (d.yh2)) hsel hQ hHeld hok (Aa (by kernel_rfl) fun W hS=>(Bz (c:=.tmp 97) (x:=.const (.bool true)) (y:=.tmp 100) (b:=(d.xh1)) (by kernel_rfl) (by kernel_rfl) (by kernel_rfl:_=.bool true) (by kernel_rfl:_=(if (d.xh1)=true then undef else .bool (d.xh2)))).trans (by unfold UnD.yh2;cases (d.xh1) <;> rfl)) fun hok=>?_
 refine tu 77 (.bool (d.yh2)) hsel hQ hHeld hok (Aa (by kernel_rfl) fun W hS=>Bp (x:=.tmp 101) (by kernel_rfl) (by kernel_rfl)) fun hok=>?_
 refine tu 78 ((if (d.yh2)=true then undef else .pointer (some ⟨p.p6,2,none⟩))) hsel hQ hHeld hok (Ad (y:=(d.yh2)) (by kernel_rfl) fun e W hS=>Ay (T:=49) (x:=.tmp 6) (f:=2) (by kernel_rfl) (by kernel_rfl:_=.pointer (some ⟨p.p6,0,none⟩)) (by kernel_rfl)) fun hok=>?_
 refine tu 79 ((if (d.yh2)=true then undef else .string ⟨d.h2.toArray⟩)) hsel hQ hHeld hok (Ad (y:=(d.yh2)) (by kernel_rfl) fun e W hS=>Ba (T:=9) (x:=.tmp 103) (by kernel_rfl) (hx:=(by kernel_rfl:_=(if (d.yh2)=true then undef else .pointer (some ⟨p.p6,2,none⟩))).trans (by rw [e];first|done|rfl)) (D3 (hS.h 2))) fun hok=>?_
 refine tu 80 ((if (d.yh2)=true then undef else .bool (d.xh3))) hsel hQ hHeld hok (Ad (y:=(d.yh2)) (by kernel_rfl) fun e W hS=>B6 (op:=.neq) (T:=9) (T':=9) (x:=.tmp 104) (y:=.const (.string ⟨#[]⟩)) (by kernel_rfl) (hx:=(by kernel_rfl:_=(if (d.yh2)=true then undef else .string ⟨d.h2.toArray⟩)).trans (by rw [e];first|done|rfl)) rfl (by kernel_rfl) (Dy d.h2 W)) fun hok=>?_
 exact Aw (by kernel_rfl) (by kernel_rfl) H
theorem un_B_3 (d:UnD) (p:UnP) (z:Bool) (v28:Value) (X:World) (Q:Exit→Act→World→Prop) (hsel:Region.noSelect unOps=true) (hQ:∀ c (a:Act) w d v,Q (.panic c) (a.put d v) w→Q (.panic c) a w) (hHeld:UnS d p X) (f:Nat) (l:Array Bool) (hok:okSeq unOps l [81,82,83,84,85,86,87,88,89,90,91,92,93,94]=true)
  (H:wpAnyH prog .any unOps Q (UnS d p) f (Bt l [81,82,83,84,85,86,87,88,89,90,91,92,93,94]) (unG4 d p z v28) X):wpAnyH prog .any unOps Q (UnS d p) (f+14) l (unG3 d p z v28) X:=by
 refine tu 81 (.bool (d.yh3)) hsel hQ hHeld hok (Aa (by kernel_rfl) fun W hS=>(Bz (c:=.tmp 102) (x:=.const (.bool true)) (y:=.tmp 105) (b:=(d.yh2)) (by kernel_rfl) (by kernel_rfl) (by kernel_rfl:_=.bool true) (by kernel_rfl:_=(if (d.yh2)=true then undef else .bool (d.xh3)))).trans (by unfold UnD.yh3;cases (d.yh2) <;> rfl)) fun hok=>?_
 refine tu 82 (.bool (d.yh3)) hsel hQ hHeld hok (Aa (by kernel_rfl) fun W hS=>Bp (x:=.tmp 106) (by kernel_rfl) (by kernel_rfl)) fun hok=>?_
 refine tu 83 ((if (d.yh3)=true then undef else .pointer (some ⟨p.p6,3,none⟩))) hsel hQ hHeld hok (Ad (y:=(d.yh3)) (by kernel_rfl) fun e W hS=>Ay (T:=49) (x:=.tmp 6) (f:=3) (by kernel_rfl) (by kernel_rfl:_=.pointer (some ⟨p.p6,0,none⟩)) (by kernel_rfl)) fun hok=>?_
 refine tu 84 ((if (d.yh3)=true then undef else .string ⟨d.h3.toArray⟩)) hsel hQ hHeld hok (Ad (y:=(d.yh3)) (by kernel_rfl) fun e W hS=>Ba (T:=9) (x:=.tmp 108) (by kernel_rfl) (hx:=(by kernel_rfl:_=(if (d.yh3)=true then undef else .pointer (some ⟨p.p6,3,none⟩))).trans (by rw [e];first|done|rfl)) (D3 (hS.h 3))) fun hok=>?_
 refine tu 85 ((if (d.yh3)=true then undef else .bool (d.xh4))) hsel hQ hHeld hok (Ad (y:=(d.yh3)) (by kernel_rfl) fun e W hS=>B6 (op:=.neq) (T:=9) (T':=9) (x:=.tmp 109) (y:=.const (.string ⟨#[]⟩)) (by kernel_rfl) (hx:=(by kernel_rfl:_=(if (d.yh3)=true then undef else .string ⟨d.h3.toArray⟩)).trans (by rw [e];first|done|rfl)) rfl (by kernel_rfl) (Dy d.h3 W)) fun hok=>?_
 refine tu 86 (.bool (d.yh4)) hsel hQ hHeld hok (Aa (by kernel_rfl) fun W hS=>(Bz (c:=.tmp 107) (x:=.const (.bool true)) (y:=.tmp 110) (b:=(d.yh3)) (by kernel_rfl) (by kernel_rfl) (by kernel_rfl:_=.bool true) (by kernel_rfl:_=(if (d.yh3)=true then undef else .bool (d.xh4)))).trans (by unfold UnD.yh4;cases (d.yh3) <;> rfl)) fun hok=>?_
 refine tu 87 (.bool (d.yh4)) hsel hQ hHeld hok (Aa (by kernel_rfl) fun W hS=>Bp (x:=.tmp 111) (by kernel_rfl) (by kernel_rfl)) fun hok=>?_
 refine tu 88 ((if (d.yh4)=true then undef else .pointer (some ⟨p.p6,4,none⟩))) hsel hQ hHeld hok (Ad (y:=(d.yh4)) (by kernel_rfl) fun e W hS=>Ay (T:=49) (x:=.tmp 6) (f:=4) (by kernel_rfl) (by kernel_rfl:_=.pointer (some ⟨p.p6,0,none⟩)) (by kernel_rfl)) fun hok=>?_
 refine tu 89 ((if (d.yh4)=true then undef else .string ⟨d.h4.toArray⟩)) hsel hQ hHeld hok (Ad (y:=(d.yh4)) (by kernel_rfl) fun e W hS=>Ba (T:=9) (x:=.tmp 113) (by kernel_rfl) (hx:=(by kernel_rfl:_=(if (d.yh4)=true then undef else .pointer (some ⟨p.p6,4,none⟩))).trans (by rw [e];first|done|rfl)) (D3 (hS.h 4))) fun hok=>?_
 refine tu 90 ((if (d.yh4)=true then undef else .bool (d.xh5))) hsel hQ hHeld hok (Ad (y:=(d.yh4)) (by kernel_rfl) fun e W hS=>B6 (op:=.neq) (T:=9) (T':=9) (x:=.tmp 114) (y:=.const (.string ⟨#[]⟩)) (by kernel_rfl) (hx:=(by kernel_rfl:_=(if (d.yh4)=true then undef else .string ⟨d.h4.toArray⟩)).trans (by rw [e];first|done|rfl)) rfl (by kernel_rfl) (Dy d.h4 W)) fun hok=>?_
 refine tu 91 (.bool (d.yh5)) hsel hQ hHeld hok (Aa (by kernel_rfl) fun W hS=>(Bz (c:=.tmp 112) (x:=.const (.bool true)) (y:=.tmp 115) (b:=(d.yh4)) (by kernel_rfl) (by kernel_rfl) (by kernel_rfl:_=.bool true) (by kernel_rfl:_=(if (d.yh4)=true then undef else .bool (d.xh5)))).trans (by unfold UnD.yh5;cases (d.yh4) <;> rfl)) fun hok=>?_
 refine tu 92 (.bool (d.yh5)) hsel hQ hHeld hok (Aa (by kernel_rfl) fun W hS=>Bp (x:=.tmp 116) (by kernel_rfl) (by kernel_rfl)) fun hok=>?_
 refine tu 93 ((if (d.yh5)=true then undef else .pointer (some ⟨p.p6,5,none⟩))) hsel hQ hHeld hok (Ad (y:=(d.yh5)) (by kernel_rfl) fun e W hS=>Ay (T:=49) (x:=.tmp 6) (f:=5) (by kernel_rfl) (by kernel_rfl:_=.pointer (some ⟨p.p6,0,none⟩)) (by kernel_rfl)) fun hok=>?_
 refine tu 94 ((if (d.yh5)=true then undef else .slice d.aj d.nj d.cj)) hsel hQ hHeld hok (Ad (y:=(d.yh5)) (by kernel_rfl) fun e W hS=>Ba (T:=25) (x:=.tmp 118) (by kernel_rfl) (hx:=(by kernel_rfl:_=(if (d.yh5)=true then undef else .pointer (some ⟨p.p6,5,none⟩))).trans (by rw [e];first|done|rfl)) (load_strs (hS.h 5))) fun hok=>?_
 exact Aw (by kernel_rfl) (by kernel_rfl) H
theorem un_B_4 (d:UnD) (p:UnP) (z:Bool) (v28:Value) (X:World) (Q:Exit→Act→World→Prop) (hsel:Region.noSelect unOps=true) (hQ:∀ c (a:Act) w d v,Q (.panic c) (a.put d v) w→Q (.panic c) a w) (hHeld:UnS d p X) (f:Nat) (l:Array Bool) (hok:okSeq unOps l [95,96,97,98,99,100,101,102,103,104,105,106,107,108]=true)
  (H:wpAnyH prog .any unOps Q (UnS d p) f (Bt l [95,96,97,98,99,100,101,102,103,104,105,106,107,108]) (unG5 d p z v28) X):wpAnyH prog .any unOps Q (UnS d p) (f+14) l (unG4 d p z v28) X:=by
 refine tu 95 ((if (d.yh5)=true then undef else .int .i64 d.nj)) hsel hQ hHeld hok (Ad (y:=(d.yh5)) (by kernel_rfl) fun e W hS=>ex_len (x:=.tmp 119) (T:=25) underlying25 (by kernel_rfl) (hx:=(by kernel_rfl:_=(if (d.yh5)=true then undef else .slice d.aj d.nj d.cj)).trans (by rw [e];first|done|rfl))) fun hok=>?_
 refine tu 96 ((if (d.yh5)=true then undef else .bool (d.xh6))) hsel hQ hHeld hok (Ad (y:=(d.yh5)) (by kernel_rfl) fun e W hS=>B6 (op:=.gtr) (T:=3) (T':=3) (x:=.tmp 120) (y:=.const (.int .i64 0)) (by kernel_rfl) (hx:=(by kernel_rfl:_=(if (d.yh5)=true then undef else .int .i64 d.nj)).trans (by rw [e];first|done|rfl)) rfl (by kernel_rfl) (gtr_int0 d.nj W)) fun hok=>?_
 refine tu 97 (.bool (d.yh6)) hsel hQ hHeld hok (Aa (by kernel_rfl) fun W hS=>(Bz (c:=.tmp 117) (x:=.const (.bool true)) (y:=.tmp 121) (b:=(d.yh5)) (by kernel_rfl) (by kernel_rfl) (by kernel_rfl:_=.bool true) (by kernel_rfl:_=(if (d.yh5)=true then undef else .bool (d.xh6)))).trans (by unfold UnD.yh6;cases (d.yh5) <;> rfl)) fun hok=>?_
 refine tu 98 (.bool (d.yh6)) hsel hQ hHeld hok (Aa (by kernel_rfl) fun W hS=>Bp (x:=.tmp 122) (by kernel_rfl) (by kernel_rfl)) fun hok=>?_
 refine tu 99 ((if (d.yh6)=true then undef else .pointer (some ⟨p.p6,6,none⟩))) hsel hQ hHeld hok (Ad (y:=(d.yh6)) (by kernel_rfl) fun e W hS=>Ay (T:=49) (x:=.tmp 6) (f:=6) (by kernel_rfl) (by kernel_rfl:_=.pointer (some ⟨p.p6,0,none⟩)) (by kernel_rfl)) fun hok=>?_
 refine tu 100 ((if (d.yh6)=true then undef else .int .i64 d.h6)) hsel hQ hHeld hok (Ad (y:=(d.yh6)) (by kernel_rfl) fun e W hS=>Ba (T:=3) (x:=.tmp 124) (by kernel_rfl) (hx:=(by kernel_rfl:_=(if (d.yh6)=true then undef else .pointer (some ⟨p.p6,6,none⟩))).trans (by rw [e];first|done|rfl)) (Cw (hS.h 6))) fun hok=>?_
 refine tu 101 ((if (d.yh6)=true then undef else .bool (d.xh7))) hsel hQ hHeld hok (Ad (y:=(d.yh6)) (by kernel_rfl) fun e W hS=>B6 (op:=.neq) (T:=3) (T':=3) (x:=.tmp 125) (y:=.const (.int .i64 0)) (by kernel_rfl) (hx:=(by kernel_rfl:_=(if (d.yh6)=true then undef else .int .i64 d.h6)).trans (by rw [e];first|done|rfl)) rfl (by kernel_rfl) (Cv d.h6 W)) fun hok=>?_
 refine tu 102 (.bool (d.yh7)) hsel hQ hHeld hok (Aa (by kernel_rfl) fun W hS=>(Bz (c:=.tmp 123) (x:=.const (.bool true)) (y:=.tmp 126) (b:=(d.yh6)) (by kernel_rfl) (by kernel_rfl) (by kernel_rfl:_=.bool true) (by kernel_rfl:_=(if (d.yh6)=true then undef else .bool (d.xh7)))).trans (by unfold UnD.yh7;cases (d.yh6) <;> rfl)) fun hok=>?_
 refine tu 103 (.bool (d.yh7)) hsel hQ hHeld hok (Aa (by kernel_rfl) fun W hS=>Bp (x:=.tmp 127) (by kernel_rfl) (by kernel_rfl)) fun hok=>?_
 refine tu 104 ((if (d.yh7)=true then undef else .pointer (some ⟨p.p6,7,none⟩))) hsel hQ hHeld hok (Ad (y:=(d.yh7)) (by kernel_rfl) fun e W hS=>Ay (T:=49) (x:=.tmp 6) (f:=7) (by kernel_rfl) (by kernel_rfl:_=.pointer (some ⟨p.p6,0,none⟩)) (by kernel_rfl)) fun hok=>?_
 refine tu 105 ((if (d.yh7)=true then undef else .int .i64 d.h7)) hsel hQ hHeld hok (Ad (y:=(d.yh7)) (by kernel_rfl) fun e W hS=>Ba (T:=3) (x:=.tmp 129) (by kernel_rfl) (hx:=(by kernel_rfl:_=(if (d.yh7)=true then undef else .pointer (some ⟨p.p6,7,none⟩))).trans (by rw [e];first|done|rfl)) (Cw (hS.h 7))) fun hok=>?_
 refine tu 106 ((if (d.yh7)=true then undef else .bool (d.xh8))) hsel hQ hHeld hok (Ad (y:=(d.yh7)) (by kernel_rfl) fun e W hS=>B6 (op:=.neq) (T:=3) (T':=3) (x:=.tmp 130) (y:=.const (.int .i64 0)) (by kernel_rfl) (hx:=(by kernel_rfl:_=(if (d.yh7)=true then undef else .int .i64 d.h7)).trans (by rw [e];first|done|rfl)) rfl (by kernel_rfl) (Cv d.h7 W)) fun hok=>?_
 refine tu 107 (.bool (d.yh8)) hsel hQ hHeld hok (Aa (by kernel_rfl) fun W hS=>(Bz (c:=.tmp 128) (x:=.const (.bool true)) (y:=.tmp 131) (b:=(d.yh7)) (by kernel_rfl) (by kernel_rfl) (by kernel_rfl:_=.bool true) (by kernel_rfl:_=(if (d.yh7)=true then undef else .bool (d.xh8)))).trans (by unfold UnD.yh8;cases (d.yh7) <;> rfl)) fun hok=>?_
 refine tu 108 (.bool (d.yh8)) hsel hQ hHeld hok (Aa (by kernel_rfl) fun W hS=>Bp (x:=.tmp 132) (by kernel_rfl) (by kernel_rfl)) fun hok=>?_
 exact Aw (by kernel_rfl) (by kernel_rfl) H
theorem un_B_5 (d:UnD) (p:UnP) (z:Bool) (v28:Value) (X:World) (Q:Exit→Act→World→Prop) (hsel:Region.noSelect unOps=true) (hQ:∀ c (a:Act) w d v,Q (.panic c) (a.put d v) w→Q (.panic c) a w) (hHeld:UnS d p X) (f:Nat) (l:Array Bool) (hok:okSeq unOps l [109,110,111,112,113,114,115,116,117]=true)
  (H:wpAnyH prog .any unOps Q (UnS d p) f (Bt l [109,110,111,112,113,114,115,116,117]) (unG6 d p z v28) X):wpAnyH prog .any unOps Q (UnS d p) (f+9) l (unG5 d p z v28) X:=by
 refine tu 109 ((if (d.yh8)=true then undef else .pointer (some ⟨p.p6,8,none⟩))) hsel hQ hHeld hok (Ad (y:=(d.yh8)) (by kernel_rfl) fun e W hS=>Ay (T:=49) (x:=.tmp 6) (f:=8) (by kernel_rfl) (by kernel_rfl:_=.pointer (some ⟨p.p6,0,none⟩)) (by kernel_rfl)) fun hok=>?_
 refine tu 110 ((if (d.yh8)=true then undef else .int .i64 d.h8)) hsel hQ hHeld hok (Ad (y:=(d.yh8)) (by kernel_rfl) fun e W hS=>Ba (T:=3) (x:=.tmp 134) (by kernel_rfl) (hx:=(by kernel_rfl:_=(if (d.yh8)=true then undef else .pointer (some ⟨p.p6,8,none⟩))).trans (by rw [e];first|done|rfl)) (Cw (hS.h 8))) fun hok=>?_
 refine tu 111 ((if (d.yh8)=true then undef else .bool (d.xh9))) hsel hQ hHeld hok (Ad (y:=(d.yh8)) (by kernel_rfl) fun e W hS=>B6 (op:=.neq) (T:=3) (T':=3) (x:=.tmp 135) (y:=.const (.int .i64 0)) (by kernel_rfl) (hx:=(by kernel_rfl:_=(if (d.yh8)=true then undef else .int .i64 d.h8)).trans (by rw [e];first|done|rfl)) rfl (by kernel_rfl) (Cv d.h8 W)) fun hok=>?_
 refine tu 112 (.bool (d.yh9)) hsel hQ hHeld hok (Aa (by kernel_rfl) fun W hS=>(Bz (c:=.tmp 133) (x:=.const (.bool true)) (y:=.tmp 136) (b:=(d.yh8)) (by kernel_rfl) (by kernel_rfl) (by kernel_rfl:_=.bool true) (by kernel_rfl:_=(if (d.yh8)=true then undef else .bool (d.xh9)))).trans (by unfold UnD.yh9;cases (d.yh8) <;> rfl)) fun hok=>?_
 refine tu 113 (.bool (d.yh9)) hsel hQ hHeld hok (Aa (by kernel_rfl) fun W hS=>Bp (x:=.tmp 137) (by kernel_rfl) (by kernel_rfl)) fun hok=>?_
 refine tu 114 ((if (d.yh9)=true then undef else .pointer (some ⟨p.p6,9,none⟩))) hsel hQ hHeld hok (Ad (y:=(d.yh9)) (by kernel_rfl) fun e W hS=>Ay (T:=49) (x:=.tmp 6) (f:=9) (by kernel_rfl) (by kernel_rfl:_=.pointer (some ⟨p.p6,0,none⟩)) (by kernel_rfl)) fun hok=>?_
 refine tu 115 ((if (d.yh9)=true then undef else .int .i64 d.h9)) hsel hQ hHeld hok (Ad (y:=(d.yh9)) (by kernel_rfl) fun e W hS=>Ba (T:=3) (x:=.tmp 139) (by kernel_rfl) (hx:=(by kernel_rfl:_=(if (d.yh9)=true then undef else .pointer (some ⟨p.p6,9,none⟩))).trans (by rw [e];first|done|rfl)) (Cw (hS.h 9))) fun hok=>?_
 refine tu 116 ((if (d.yh9)=true then undef else .bool (d.xh10))) hsel hQ hHeld hok (Ad (y:=(d.yh9)) (by kernel_rfl) fun e W hS=>B6 (op:=.neq) (T:=3) (T':=3) (x:=.tmp 140) (y:=.const (.int .i64 0)) (by kernel_rfl) (hx:=(by kernel_rfl:_=(if (d.yh9)=true then undef else .int .i64 d.h9)).trans (by rw [e];first|done|rfl)) rfl (by kernel_rfl) (Cv d.h9 W)) fun hok=>?_
 refine tu 117 (.bool (d.yh10)) hsel hQ hHeld hok (Aa (by kernel_rfl) fun W hS=>(Bz (c:=.tmp 138) (x:=.const (.bool true)) (y:=.tmp 141) (b:=(d.yh9)) (by kernel_rfl) (by kernel_rfl) (by kernel_rfl:_=.bool true) (by kernel_rfl:_=(if (d.yh9)=true then undef else .bool (d.xh10)))).trans (by unfold UnD.yh10;cases (d.yh9) <;> rfl)) fun hok=>?_
 exact Aw (by kernel_rfl) (by kernel_rfl) H
def unBt:List Nat:=[31,36,37,38,39,40,41,42,43,44,45,46,47,48]++([49,50,51,52,53,54,55,56,57,58,59,60,61,62]++([63,64,65,66,67,72,73,74,75,76,77,78,79,80]++([81,82,83,84,85,86,87,88,89,90,91,92,93,94]++([95,96,97,98,99,100,101,102,103,104,105,106,107,108]++([109,110,111,112,113,114,115,116,117])))))
theorem un_B (d:UnD) (p:UnP) (z:Bool) (v28:Value) (X:World) (Q:Exit→Act→World→Prop) (hsel:Region.noSelect unOps=true) (hQ:∀ c (a:Act) w d v,Q (.panic c) (a.put d v) w→Q (.panic c) a w) (hHeld:UnS d p X) (l:Array Bool) (f:Nat) (hok:okSeq unOps l unBt=true)
  (H:wpAnyH prog .any unOps Q (UnS d p) f (Bt l unBt) (unG6 d p z v28) X):wpAnyH prog .any unOps Q (UnS d p) (f+79) l (unG0 d p z v28) X:=by
 obtain⟨h0,hok⟩:=Dm _ _ hok
 obtain⟨h1,hok⟩:=Dm _ _ hok
 obtain⟨h2,hok⟩:=Dm _ _ hok
 obtain⟨h3,hok⟩:=Dm _ _ hok
 obtain⟨h4,hok⟩:=Dm _ _ hok
 have H:=un_B_5 d p z v28 X Q hsel hQ hHeld f _ hok (Aw rfl (by rw [Dg,Dg,Dg,Dg,Dg];rfl) H)
 have H:=un_B_4 d p z v28 X Q hsel hQ hHeld (f+9) _ h4 H
 have H:=un_B_3 d p z v28 X Q hsel hQ hHeld (f+23) _ h3 H
 have H:=un_B_2 d p z v28 X Q hsel hQ hHeld (f+37) _ h2 H
 have H:=un_B_1 d p z v28 X Q hsel hQ hHeld (f+51) _ h1 H
 have H:=un_B_0 d p z v28 X Q hsel hQ hHeld (f+65) _ h0 H
 exact H
theorem un_ok0:okSeq unOps ((An [1,2,3,4,5,6,7,8,9,10,11,12,13,14,15,16,17,18,19,20,21,22,23,24,25,26,28,29,33,34,35,69,70,71,119,30])) [31,36,37,38,39,40,41,42,43,44,45,46,47,48]=true:=by kernel_rfl
theorem un_ok1:okSeq unOps (Bt ((An [1,2,3,4,5,6,7,8,9,10,11,12,13,14,15,16,17,18,19,20,21,22,23,24,25,26,28,29,33,34,35,69,70,71,119,30])) [31,36,37,38,39,40,41,42,43,44,45,46,47,48]) [49,50,51,52,53,54,55,56,57,58,59,60,61,62]=true:=by kernel_rfl
theorem un_ok2:okSeq unOps (Bt (Bt ((An [1,2,3,4,5,6,7,8,9,10,11,12,13,14,15,16,17,18,19,20,21,22,23,24,25,26,28,29,33,34,35,69,70,71,119,30])) [31,36,37,38,39,40,41,42,43,44,45,46,47,48]) [49,50,51,52,53,54,55,56,57,58,59,60,61,62]) [63,64,65,66,67,72,73,74,75,76,77,78,79,80]=true:=by kernel_rfl
theorem un_ok3:okSeq unOps (Bt (Bt (Bt ((An [1,2,3,4,5,6,7,8,9,10,11,12,13,14,15,16,17,18,19,20,21,22,23,24,25,26,28,29,33,34,35,69,70,71,119,30])) [31,36,37,38,39,40,41,42,43,44,45,46,47,48]) [49,50,51,52,53,54,55,56,57,58,59,60,61,62]) [63,64,65,66,67,72,73,74,75,76,77,78,79,80]) [81,82,83,84,85,86,87,88,89,90,91,92,93,94]=true:=by kernel_rfl
theorem un_ok4:okSeq unOps (Bt (Bt (Bt (Bt ((An [1,2,3,4,5,6,7,8,9,10,11,12,13,14,15,16,17,18,19,20,21,22,23,24,25,26,28,29,33,34,35,69,70,71,119,30])) [31,36,37,38,39,40,41,42,43,44,45,46,47,48]) [49,50,51,52,53,54,55,56,57,58,59,60,61,62]) [63,64,65,66,67,72,73,74,75,76,77,78,79,80]) [81,82,83,84,85,86,87,88,89,90,91,92,93,94]) [95,96,97,98,99,100,101,102,103,104,105,106,107,108]=true:=by kernel_rfl
theorem un_ok5:okSeq unOps (Bt (Bt (Bt (Bt (Bt ((An [1,2,3,4,5,6,7,8,9,10,11,12,13,14,15,16,17,18,19,20,21,22,23,24,25,26,28,29,33,34,35,69,70,71,119,30])) [31,36,37,38,39,40,41,42,43,44,45,46,47,48]) [49,50,51,52,53,54,55,56,57,58,59,60,61,62]) [63,64,65,66,67,72,73,74,75,76,77,78,79,80]) [81,82,83,84,85,86,87,88,89,90,91,92,93,94]) [95,96,97,98,99,100,101,102,103,104,105,106,107,108]) [109,110,111,112,113,114,115,116,117]=true:=by kernel_rfl
theorem un_ok:okSeq unOps (An [1,2,3,4,5,6,7,8,9,10,11,12,13,14,15,16,17,18,19,20,21,22,23,24,25,26,28,29,33,34,35,69,70,71,119,30]) unBt=true:=(Eb _ _ un_ok0 (Eb _ _ un_ok1 (Eb _ _ un_ok2 (Eb _ _ un_ok3 (Eb _ _ un_ok4 un_ok5)))))
theorem un_B0 (d:UnD) (p:UnP) (z:Bool) (v28:Value) (X:World) (Q:Exit→Act→World→Prop) (hsel:Region.noSelect unOps=true) (hQ:∀ c (a:Act) w d v,Q (.panic c) (a.put d v) w→Q (.panic c) a w) (hHeld:UnS d p X)
  (H:wpAnyH prog .any unOps Q (UnS d p) 8 (An [1,2,3,4,5,6,7,8,9,10,11,12,13,14,15,16,17,18,19,20,21,22,23,24,25,26,28,29,33,34,35,69,70,71,119,30,31,36,37,38,39,40,41,42,43,44,45,46,47,48,49,50,51,52,53,54,55,56,57,58,59,60,61,62,63,64,65,66,67,72,73,74,75,76,77,78,79,80,81,82,83,84,85,86,87,88,89,90,91,92,93,94,95,96,97,98,99,100,101,102,103,104,105,106,107,108,109,110,111,112,113,114,115,116,117]) (unG6 d p z v28) X):wpAnyH prog .any unOps Q (UnS d p) 87 (An [1,2,3,4,5,6,7,8,9,10,11,12,13,14,15,16,17,18,19,20,21,22,23,24,25,26,28,29,33,34,35,69,70,71,119,30]) (unG0 d p z v28) X :=
 un_B d p z v28 X Q hsel hQ hHeld (An [1,2,3,4,5,6,7,8,9,10,11,12,13,14,15,16,17,18,19,20,21,22,23,24,25,26,28,29,33,34,35,69,70,71,119,30]) 8 un_ok (Aw rfl (by decide +kernel) H)
theorem un_B1 (d:UnD) (p:UnP) (z:Bool) (v28:Value) (X:World) (Q:Exit→Act→World→Prop) (hsel:Region.noSelect unOps=true) (hQ:∀ c (a:Act) w d v,Q (.panic c) (a.put d v) w→Q (.panic c) a w) (hHeld:UnS d p X)
  (H:wpAnyH prog .any unOps Q (UnS d p) 7 (An [1,2,3,4,5,6,7,8,9,10,11,12,13,14,15,16,17,18,19,20,21,22,23,24,25,26,28,29,33,34,35,69,70,71,119,0,30,31,36,37,38,39,40,41,42,43,44,45,46,47,48,49,50,51,52,53,54,55,56,57,58,59,60,61,62,63,64,65,66,67,72,73,74,75,76,77,78,79,80,81,82,83,84,85,86,87,88,89,90,91,92,93,94,95,96,97,98,99,100,101,102,103,104,105,106,107,108,109,110,111,112,113,114,115,116,117]) (unG6 d p z v28) X):wpAnyH prog .any unOps Q (UnS d p) 86 (An [1,2,3,4,5,6,7,8,9,10,11,12,13,14,15,16,17,18,19,20,21,22,23,24,25,26,28,29,33,34,35,69,70,71,119,0,30]) (unG0 d p z v28) X :=
 un_B d p z v28 X Q hsel hQ hHeld (An [1,2,3,4,5,6,7,8,9,10,11,12,13,14,15,16,17,18,19,20,21,22,23,24,25,26,28,29,33,34,35,69,70,71,119,0,30]) 7 (Fd _ (l:=(An [1,2,3,4,5,6,7,8,9,10,11,12,13,14,15,16,17,18,19,20,21,22,23,24,25,26,28,29,33,34,35,69,70,71,119,30])) (by kernel_rfl) (fun j hj=>by
  by_cases h:j<123
  ·exact (show ∀ j,j<123→(An [1,2,3,4,5,6,7,8,9,10,11,12,13,14,15,16,17,18,19,20,21,22,23,24,25,26,28,29,33,34,35,69,70,71,119,30]).getD j true=true→(An [1,2,3,4,5,6,7,8,9,10,11,12,13,14,15,16,17,18,19,20,21,22,23,24,25,26,28,29,33,34,35,69,70,71,119,0,30]).getD j true=true by decide +kernel) j h hj
  ·simp only [Array.getD_eq_getD_getElem?];rw [Array.getElem?_eq_none (by show 123≤j;omega)];rfl) (by decide +kernel) (by decide +kernel) un_ok) (Aw rfl (by decide +kernel) H)
theorem un_B2 (d:UnD) (p:UnP) (z:Bool) (v28:Value) (X:World) (Q:Exit→Act→World→Prop) (hsel:Region.noSelect unOps=true) (hQ:∀ c (a:Act) w d v,Q (.panic c) (a.put d v) w→Q (.panic c) a w) (hHeld:UnS d p X)
  (H:wpAnyH prog .any unOps Q (UnS d p) 6 (An [1,2,3,4,5,6,7,8,9,10,11,12,13,14,15,16,17,18,19,20,21,22,23,24,25,26,28,29,33,34,35,69,70,71,119,0,27,30,31,36,37,38,39,40,41,42,43,44,45,46,47,48,49,50,51,52,53,54,55,56,57,58,59,60,61,62,63,64,65,66,67,72,73,74,75,76,77,78,79,80,81,82,83,84,85,86,87,88,89,90,91,92,93,94,95,96,97,98,99,100,101,102,103,104,105,106,107,108,109,110,111,112,113,114,115,116,117]) (unG6 d p z v28) X):wpAnyH prog .any unOps Q (UnS d p) 85 (An [1,2,3,4,5,6,7,8,9,10,11,12,13,14,15,16,17,18,19,20,21,22,23,24,25,26,28,29,33,34,35,69,70,71,119,0,27,30]) (unG0 d p z v28) X :=
 un_B d p z v28 X Q hsel hQ hHeld (An [1,2,3,4,5,6,7,8,9,10,11,12,13,14,15,16,17,18,19,20,21,22,23,24,25,26,28,29,33,34,35,69,70,71,119,0,27,30]) 6 (Fd _ (l:=(An [1,2,3,4,5,6,7,8,9,10,11,12,13,14,15,16,17,18,19,20,21,22,23,24,25,26,28,29,33,34,35,69,70,71,119,30])) (by kernel_rfl) (fun j hj=>by
  by_cases h:j<123
  ·exact (show ∀ j,j<123→(An [1,2,3,4,5,6,7,8,9,10,11,12,13,14,15,16,17,18,19,20,21,22,23,24,25,26,28,29,33,34,35,69,70,71,119,30]).getD j true=true→(An [1,2,3,4,5,6,7,8,9,10,11,12,13,14,15,16,17,18,19,20,21,22,23,24,25,26,28,29,33,34,35,69,70,71,119,0,27,30]).getD j true=true by decide +kernel) j h hj
  ·simp only [Array.getD_eq_getD_getElem?];rw [Array.getElem?_eq_none (by show 123≤j;omega)];rfl) (by decide +kernel) (by decide +kernel) un_ok) (Aw rfl (by decide +kernel) H)
theorem un_B3 (d:UnD) (p:UnP) (z:Bool) (v28:Value) (X:World) (Q:Exit→Act→World→Prop) (hsel:Region.noSelect unOps=true) (hQ:∀ c (a:Act) w d v,Q (.panic c) (a.put d v) w→Q (.panic c) a w) (hHeld:UnS d p X)
  (H:wpAnyH prog .any unOps Q (UnS d p) 6 (An [1,2,3,4,5,6,7,8,9,10,11,12,13,14,15,16,17,18,19,20,21,22,23,24,25,26,28,29,33,34,35,69,70,71,119,0,120,30,31,36,37,38,39,40,41,42,43,44,45,46,47,48,49,50,51,52,53,54,55,56,57,58,59,60,61,62,63,64,65,66,67,72,73,74,75,76,77,78,79,80,81,82,83,84,85,86,87,88,89,90,91,92,93,94,95,96,97,98,99,100,101,102,103,104,105,106,107,108,109,110,111,112,113,114,115,116,117]) (unG6 d p z v28) X):wpAnyH prog .any unOps Q (UnS d p) 85 (An [1,2,3,4,5,6,7,8,9,10,11,12,13,14,15,16,17,18,19,20,21,22,23,24,25,26,28,29,33,34,35,69,70,71,119,0,120,30]) (unG0 d p z v28) X :=
 un_B d p z v28 X Q hsel hQ hHeld (An [1,2,3,4,5,6,7,8,9,10,11,12,13,14,15,16,17,18,19,20,21,22,23,24,25,26,28,29,33,34,35,69,70,71,119,0,120,30]) 6 (Fd _ (l:=(An [1,2,3,4,5,6,7,8,9,10,11,12,13,14,15,16,17,18,19,20,21,22,23,24,25,26,28,29,33,34,35,69,70,71,119,30])) (by kernel_rfl) (fun j hj=>by
  by_cases h:j<123
  ·exact (show ∀ j,j<123→(An [1,2,3,4,5,6,7,8,9,10,11,12,13,14,15,16,17,18,19,20,21,22,23,24,25,26,28,29,33,34,35,69,70,71,119,30]).getD j true=true→(An [1,2,3,4,5,6,7,8,9,10,11,12,13,14,15,16,17,18,19,20,21,22,23,24,25,26,28,29,33,34,35,69,70,71,119,0,120,30]).getD j true=true by decide +kernel) j h hj
  ·simp only [Array.getD_eq_getD_getElem?];rw [Array.getElem?_eq_none (by show 123≤j;omega)];rfl) (by decide +kernel) (by decide +kernel) un_ok) (Aw rfl (by decide +kernel) H)
theorem un_B4 (d:UnD) (p:UnP) (z:Bool) (v28:Value) (X:World) (Q:Exit→Act→World→Prop) (hsel:Region.noSelect unOps=true) (hQ:∀ c (a:Act) w d v,Q (.panic c) (a.put d v) w→Q (.panic c) a w) (hHeld:UnS d p X)
  (H:wpAnyH prog .any unOps Q (UnS d p) 5 (An [1,2,3,4,5,6,7,8,9,10,11,12,13,14,15,16,17,18,19,20,21,22,23,24,25,26,28,29,33,34,35,69,70,71,119,0,27,120,30,31,36,37,38,39,40,41,42,43,44,45,46,47,48,49,50,51,52,53,54,55,56,57,58,59,60,61,62,63,64,65,66,67,72,73,74,75,76,77,78,79,80,81,82,83,84,85,86,87,88,89,90,91,92,93,94,95,96,97,98,99,100,101,102,103,104,105,106,107,108,109,110,111,112,113,114,115,116,117]) (unG6 d p z v28) X):wpAnyH prog .any unOps Q (UnS d p) 84 (An [1,2,3,4,5,6,7,8,9,10,11,12,13,14,15,16,17,18,19,20,21,22,23,24,25,26,28,29,33,34,35,69,70,71,119,0,27,120,30]) (unG0 d p z v28) X :=
 un_B d p z v28 X Q hsel hQ hHeld (An [1,2,3,4,5,6,7,8,9,10,11,12,13,14,15,16,17,18,19,20,21,22,23,24,25,26,28,29,33,34,35,69,70,71,119,0,27,120,30]) 5 (Fd _ (l:=(An [1,2,3,4,5,6,7,8,9,10,11,12,13,14,15,16,17,18,19,20,21,22,23,24,25,26,28,29,33,34,35,69,70,71,119,30])) (by kernel_rfl) (fun j hj=>by
  by_cases h:j<123
  ·exact (show ∀ j,j<123→(An [1,2,3,4,5,6,7,8,9,10,11,12,13,14,15,16,17,18,19,20,21,22,23,24,25,26,28,29,33,34,35,69,70,71,119,30]).getD j true=true→(An [1,2,3,4,5,6,7,8,9,10,11,12,13,14,15,16,17,18,19,20,21,22,23,24,25,26,28,29,33,34,35,69,70,71,119,0,27,120,30]).getD j true=true by decide +kernel) j h hj
  ·simp only [Array.getD_eq_getD_getElem?];rw [Array.getElem?_eq_none (by show 123≤j;omega)];rfl) (by decide +kernel) (by decide +kernel) un_ok) (Aw rfl (by decide +kernel) H)
end
end Go.Proofs.YtjepldaciejieaaGreatDoor
