/-
  ChainKeeps: the proof, part 23 of 25.
-/
import Derived.Test.YthapckjpmkkkpaaGreatDoorP21
set_option maxHeartbeats 40000000
set_option maxRecDepth 100000
namespace Go.Proofs.YthapckjpmkkkpaaGreatDoor
open Go.Lib Go.Proofs.Tryz Go.RowKit Go.Shelf Go.Sort CH
theorem Inf (vk vl:Value) (keys:List (List UInt8)) (l:List CH.Version) (w:World) (hG:Gc w) (hk:Strs w w vk keys) (hraw:Mf w w vl l) (hn:∀ a∈l,kN a) (hkl:∀ x∈keys,x.length<=9223372036854775807) : Calls prog 3 #[vk,vl] w (Ret w (.bool true)):=by
 have FW:=Aa fun (W:World) (hb:Below w w W)=>Hd1 vl l W ((hraw.below hb nR).mono hb.size);by_cases hfew:CH.few l 8=true
 ·by_cases hlen:keys.length<=8;·refine Ggh vk vl keys l w hG hk hraw (Duo hraw hn fun a ha=>?_) hfew hlen hkl;unfold CH.few at hfew;rw [Am] at hfew;exact Dt.1 hfew.1 a ha
  ·rw [hfew] at FW;obtain⟨ak,ck,rfl,_,_⟩:=hk.form;obtain⟨al,cl,rfl,_,_,_⟩:=hraw;have q8:decide ((8:Int)<(keys.length:Int))=true:=Az oM;clear hk hfew hlen;generalize keys.length=NK at *;generalize l.length=NL at *;go_enter func3,ntmps3;go_wp2_with fail;refine (So w hG).mono ?_;rintro e w1 ⟨rfl,hb1⟩;go_wp2_with fail;refine (FW.out w1 hb1).mono ?_;rintro e w2 ⟨rfl,hb2⟩;have hB2:=Aa (hb1.trans (hb2.mono hb1.size));go_wp2;go_ret;exact⟨rfl,hB2.out⟩
 ·have hff:CH.few l 8=false:=by simpa using hfew
  rw [hff] at FW;obtain⟨ak,ck,rfl,_,_⟩:=hk.form;obtain⟨al,cl,rfl,_,_,_⟩:=hraw;clear hk hfew hff;generalize keys.length=NK at *;generalize l.length=NL at *;go_enter func3,ntmps3;go_wp2_with fail;refine (So w hG).mono ?_;rintro e w1 ⟨rfl,hb1⟩;go_wp2_with fail;refine (FW.out w1 hb1).mono ?_;rintro e w2 ⟨rfl,hb2⟩;have hB2:=Aa (hb1.trans (hb2.mono hb1.size));go_wp2;go_ret;exact⟨rfl,hB2.out⟩
end Go.Proofs.YthapckjpmkkkpaaGreatDoor
