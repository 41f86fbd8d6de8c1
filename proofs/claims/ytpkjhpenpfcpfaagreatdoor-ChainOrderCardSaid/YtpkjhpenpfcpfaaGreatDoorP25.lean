/-
  ChainOrder: the proof, part 26 of 28.
-/
import Derived.Test.YtpkjhpenpfcpfaaGreatDoorP24
set_option linter.unusedSimpArgs false
set_option linter.unusedVariables false
set_option maxHeartbeats 40000000
set_option maxRecDepth 100000
namespace Go.Proofs.YtpkjhpenpfcpfaaGreatDoor
section
open Go.Lib Go.Proofs.Tryz Go.RowKit Go.Shelf Go.Sort CH
theorem I31 (vk vl:Value) (keys:List (List UInt8)) (l:List CH.Version) (w:World) (hG:Gc w) (hk:Strs w w vk keys) (hraw:Mk w w vl l) (hn:∀ a∈l,kN a) (hkl:∀ x∈keys,x.length<=9223372036854775807) : Calls prog 3 #[vk,vl] w (Ret w (.bool true)):=by
 have FW:=Aa fun (W:World) (hb:Below w w W)=>Isd vl l W ((hraw.below hb nR).mono hb.size);by_cases hfew:CH.few l 8=true
 ·by_cases hlen:keys.length<=8;·refine Hdy vk vl keys l w hG hk hraw (Gen hraw hn fun a ha=>?_) hfew hlen hkl;unfold CH.few at hfew;rw [Ar] at hfew;exact Dh.1 hfew.1 a ha
  ·rw [hfew] at FW;obtain⟨ak,ck,rfl,_,_⟩:=hk.form;obtain⟨al,cl,rfl,_,_,_⟩:=hraw;have q8:decide ((8:Int)<(keys.length:Int))=true:=Ak oM;clear hk hfew hlen;exact FD39
 ·have hff:CH.few l 8=false:=by simpa using hfew
  rw [hff] at FW;obtain⟨ak,ck,rfl,_,_⟩:=hk.form;obtain⟨al,cl,rfl,_,_,_⟩:=hraw;clear hk hfew hff;exact FD39
end
end Go.Proofs.YtpkjhpenpfcpfaaGreatDoor
