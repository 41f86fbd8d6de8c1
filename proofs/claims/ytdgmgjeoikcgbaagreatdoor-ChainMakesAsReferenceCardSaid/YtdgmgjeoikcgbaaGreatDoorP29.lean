/-
  ChainMakes: the proof, part 30 of 34.
-/
import Derived.Test.YtdgmgjeoikcgbaaGreatDoorP28
set_option linter.unusedSimpArgs false
set_option linter.unusedVariables false
set_option maxHeartbeats 40000000
set_option maxRecDepth 100000
open Go renaming World -> ZB
namespace Go.Proofs.YtdgmgjeoikcgbaaGreatDoor
section
open Go.Lib Go.Proofs.Tryz Go.RowKit Go.Shelf Go.Sort CH
theorem I43 (v:CH.Version) (h er:Int) (secret:List UInt8) (va:Value) (w:ZB) (hG:Gc w) (hA:aN w w v ⟨va,.slice none 0 0,.slice none 0 0⟩) (hv:v.sel=⟨0,[],[]⟩) (hm:CH.message v=.error er) (her:er≠0) : Calls prog 6 #[↑v.authority,↑v.number,↑v.pos,↑v.prev,va,↑secret,↑h] w (Ret w (.tuple #[.agg B7.toArray,↑er])):=by
 have kG:=fun o o'=>((Ac _ w).alloc nR o).alloc sM o';have M:=fun (W:ZB) (hb:Below w w W)=>Lt v _ W (hG.below hb) ((hA.below hb nR).mono hb.size);rw [hm] at M;obtain⟨aa,ca,e,_,_⟩:=hA.acts.form;change va=_ at e;subst e;clear hA;generalize v.acts.length=N at *;dsimp only [Al,It] at M;rw [hv] at M;dsimp only at M;replace M:=Aa M;have q1:(er==0)=false:=by simpa using her
 have q2:(er != 0)=true:=by simpa using her
 have hi8:(prog.info? 29).map (·.size)=some 8:=kR;go_enter func6,ntmps6;exact FD25
theorem I42 (v:CH.Version) (h:Int) (i:Nat) (secret m:List UInt8) (va:Value) (w:ZB) (hG:Gc w) (hA:aN w w v ⟨va,.slice none 0 0,.slice none 0 0⟩) (hv:v.sel=⟨0,[],[]⟩) (hn:v.number=(i:Int)+1) (hi:i<=1000) (hm:CH.message v=.ok m) (hbad:h<0\/8<h\/∃ k:Nat,h=k/\k<=8/\2 ^ k<=i) : Calls prog 6 #[↑v.authority,↑v.number,↑v.pos,↑v.prev,va,↑secret,↑h] w (Ret w (.tuple #[.agg B7.toArray,.int .i64 1])):=by have kG:=fun o o'=>((Ac _ w).alloc nR o).alloc sM o';have M:=fun (W:ZB) (hb:Below w w W)=>Lt v _ W (hG.below hb) ((hA.below hb nR).mono hb.size);rw [hm] at M;have S:=Aa fun (W:ZB)=>Ch4 secret m h i W hbad;obtain⟨aa,ca,e,_,_⟩:=hA.acts.form;change va=_ at e;subst e;clear hA hbad;generalize v.acts.length=N at *;have hsub:(v.number - 1:Int)=(i:Int):=oM;dsimp only [Al,It] at M;rw [hv] at M;dsimp only at M;replace M:=Aa M;have hng:1<=v.number/\v.number<=1001:=oM;clear hn;have hi8:(prog.info? 29).map (·.size)=some 8:=kR;have hi3:(prog.info? 27).map (·.size)=some 3:=kR;go_enter func6,ntmps6;exact FD9
theorem Asc (v:CH.Version) (h er:Int) (secret:List UInt8) (va:Value) (w:ZB) (hA:aN w w v ⟨va,.slice none 0 0,.slice none 0 0⟩) (hv:v.sel=⟨0,[],[]⟩) (hm:CH.message v=.error er) (her:er≠0) : Calls prog 7 #[↑v.authority,↑v.number,↑v.pos,↑v.prev,va,↑secret,↑h] w (Ret w (.tuple #[.agg B7.toArray,↑er])):=by
 have kG:=fun o o'=>((Ac _ w).alloc nR o).alloc sM o';have M:=fun (W:ZB) (hb:Below w w W)=>Ma v _ W ((hA.below hb nR).mono hb.size);rw [hm] at M;obtain⟨aa,ca,e,_,_⟩:=hA.acts.form;change va=_ at e;subst e;clear hA;generalize v.acts.length=N at *;dsimp only [Al,It] at M;rw [hv] at M;dsimp only at M;replace M:=Aa M;have q1:(er==0)=false:=by simpa using her
 have q2:(er != 0)=true:=by simpa using her
 have hi8:(prog.info? 29).map (·.size)=some 8:=kR;go_enter func7,ntmps7;exact FD25
theorem Arg (v:CH.Version) (h:Int) (i:Nat) (secret m:List UInt8) (va:Value) (w:ZB) (hA:aN w w v ⟨va,.slice none 0 0,.slice none 0 0⟩) (hv:v.sel=⟨0,[],[]⟩) (hn:v.number=(i:Int)+1) (hi:i<=1000) (hm:CH.message v=.ok m) (hbad:h<0\/8<h\/∃ k:Nat,h=k/\k<=8/\2 ^ k<=i) : Calls prog 7 #[↑v.authority,↑v.number,↑v.pos,↑v.prev,va,↑secret,↑h] w (Ret w (.tuple #[.agg B7.toArray,.int .i64 1])):=by have kG:=fun o o'=>((Ac _ w).alloc nR o).alloc sM o';have M:=fun (W:ZB) (hb:Below w w W)=>Ma v _ W ((hA.below hb nR).mono hb.size);rw [hm] at M;have S:=Aa fun (W:ZB)=>V8 secret m h i W hbad;obtain⟨aa,ca,e,_,_⟩:=hA.acts.form;change va=_ at e;subst e;clear hA hbad;generalize v.acts.length=N at *;have hsub:(v.number - 1:Int)=(i:Int):=oM;dsimp only [Al,It] at M;rw [hv] at M;dsimp only at M;replace M:=Aa M;have hng:1<=v.number/\v.number<=1001:=oM;clear hn;have hi8:(prog.info? 29).map (·.size)=some 8:=kR;have hi3:(prog.info? 27).map (·.size)=some 3:=kR;go_enter func7,ntmps7;exact FD9
end
end Go.Proofs.YtdgmgjeoikcgbaaGreatDoor
