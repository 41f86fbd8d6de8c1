/-
  ChainKeeps: the proof, part 21 of 25.
-/
import Derived.Test.YthapckjpmkkkpaaGreatDoorP18
import Derived.Test.YthapckjpmkkkpaaGreatDoorP19
set_option linter.unusedSimpArgs false
set_option linter.unusedVariables false
set_option maxHeartbeats 40000000
set_option maxRecDepth 100000
namespace Go.Proofs.YthapckjpmkkkpaaGreatDoor
section
open Go.Lib Go.Proofs.Tryz Go.RowKit Go.Shelf Go.Sort CH
theorem Yx {v:CH.Version} {k:List UInt8} (h:dO v k=true):∃ t,CH.bare v=some t:=by
 cases hb:CH.bare v with
 |some t=>exact⟨t,rfl⟩
 |none =>
  have e:dw v=.error 1:=by unfold dw;rw [hb]
  unfold dO at h;rw [e] at h;cases h
abbrev dK (keys:List (List UInt8)) (l:List CH.Version):=iE dO keys l [] []
theorem I49 (keys:List (List UInt8)) (l:List CH.Version):∀ p v,(p,v)∈(dK keys l).1->p.2<=200:=fun p v hpv=>by have good:=gX (chk:=dO) (keys:=keys) l [] [] (jG dO keys);have h1:=good.key _ _ hpv;have h2:=good.number _ _ hpv;rw [h1];exact h2.2
theorem Hdr (keys:List (List UInt8)) (l:List CH.Version) (hl:l.length<=8):(aX CH.msg (dK keys l).1 keys.length).length<20:=by have good:=gX (chk:=dO) (keys:=keys) l [] [] (jG dO keys);have hkn:=kW (chk:=dO) (keys:=keys) l [] [];have:=oJ (msg:=CH.msg) good keys.length;have h0:([]:CH.Known).length=0:=rfl;rw [h0] at hkn;show (aX CH.msg (iE dO keys l [] []).1 keys.length).length<20;omega
def vsC (keys:List (List UInt8)) (m:List CH.Version):List CH.Version:=CH.versions CH.msg (dK keys m).1 keys.length
theorem Nn (keys:List (List UInt8)) (m:List CH.Version):((dK keys m).2.map (·.1)).Nodup/\(dK keys m).2.length<=m.length/\∀ p a b,(p,(a,b))∈(dK keys m).2->oq dO keys p a b:=by have h:=l7 dO keys m [] [] (jG dO keys) List.nodup_nil (fun _ _ _ h=>by cases h);refine⟨h.1,?_,h.2.2⟩;have:=h.2.1;rw [Bo,Bl] at this;exact this
theorem Hmy (keys:List (List UInt8)) (m:List CH.Version) (hk:keys.length<=8) (hm:m.length<=8) (c r1 r2:Nat) (W:World) (hG:Gc W) (hC:ChainAt W c r1 r2 keys (dK keys m).1 (dK keys m).2) : Calls prog 7 #[.pointer (some ⟨c,0,none⟩)] W (Hex W (vsC keys m)) := Y5 c r1 r2 keys _ _ W hG hC (I49 keys m) oM (Hdr keys m hm)
theorem Ggs (keys:List (List UInt8)) (m:List CH.Version) (hm:m.length<=8) (c r1 r2:Nat) (W:World) (hC:ChainAt W c r1 r2 keys (dK keys m).1 (dK keys m).2) : Calls prog 8 #[.pointer (some ⟨c,0,none⟩)] W (Qj W (dK keys m).2) := Yq c r1 r2 keys _ _ W hC (Nn keys m).1 (by have:=(Nn keys m).2.1;omega)
theorem Gge (keys:List (List UInt8)) (m:List CH.Version) (x:CH.Version) : dK keys (m++[x])=(nD keys (dK keys m).1 (dK keys m).2 x).2 /\ ((nD keys (dK keys m).1 (dK keys m).2 x).1≠0->vsC keys (m++[x])=vsC keys m) /\ ((nD keys (dK keys m).1 (dK keys m).2 x).1≠17->(dK keys (m++[x])).2=(dK keys m).2) /\ (vsC keys m).Sublist (vsC keys (m++[x])):=by
 have e:dK keys (m++[x])=(nD keys (dK keys m).1 (dK keys m).2 x).2:=ni dO keys m x [] [];refine⟨e,fun h=>?_,fun h=>?_,?_⟩;·unfold vsC;rw [e,show (nD keys (dK keys m).1 (dK keys m).2 x).2.1=(dK keys m).1 from rM h]
 ·rw [e];exact rO h
 ·unfold vsC;refine nM (gX m [] [] (jG dO keys)) (gX (m++[x]) [] [] (jG dO keys)) (fun a n u hu=>?_) keys.length;rw [show (iE dO keys (m++[x]) [] []).1=(nD keys (dK keys m).1 (dK keys m).2 x).2.1 from congrArg Prod.fst e];exact uX hu
theorem Hlv (keys:List (List UInt8)) (m:List CH.Version) {x y:CH.Version} (hx:x∈vsC keys m) (hy:y∈vsC keys m) (h:x≠y):x.authority≠y.authority\/x.number≠y.number := nK (gX m [] [] (jG dO keys)) keys.length hx hy h
theorem Has (keys:List (List UInt8)) (m:List CH.Version) (hm:m.length<=8):(vsC keys m).length<=20:=by have h1:=dS (lt:=iP) (I:=fun L=>L.length=(aX CH.msg (dK keys m).1 keys.length).length) (fun l m x y _ h=>by simpa using h) (aX CH.msg (dK keys m).1 keys.length) rfl;have h2:(vsC keys m).length=(aX CH.msg (dK keys m).1 keys.length).length:=h1;have:=Hdr keys m hm;omega
theorem At2 {c r1 r2:Nat} {keys:List (List UInt8)} {known:CH.Known} {forks:CH.Forks} {x:Int × CH.Known × CH.Forks} {w w':World} {e:Ending} (hC:ChainAt w c r1 r2 keys known forks) (hR:Nt w c r1 r2 keys x e w'):Cells w w':=by
 obtain⟨_,_,hH⟩:=hR;refine hH.cells fun r hr=>?_;simp only [A8,Ba,Dh] at hr;rcases hr with rfl|rfl;·obtain⟨kvs,⟨es,ck,e,_⟩,_⟩:=hC.known;exact⟨es,ck,e⟩
 ·obtain⟨kvs,⟨es,ck,e,_⟩,_⟩:=hC.forks;exact⟨es,ck,e⟩
theorem O2:∀ (xs:List ((CH.Version × CH.Version) × (bZ × bZ))) (j i:Nat) (y:(CH.Version × CH.Version) × (bZ × bZ)),xs[j]?=some y->i<16->(xs.flatMap Kn)[j*16+i]?=(Kn y)[i]?
 |[],j,i,y,h,_=>by simp at h
 |x::xs,0,i,y,h,hi=>by
  simp only [Fp,Eu] at h
  subst h
  rw [Ep,Fv (by show 0*16+i<16;omega),Nat.zero_mul,Bl]
 |x::xs,j+1,i,y,h,hi=>by
  simp only [Fq] at h
  have:=O2 xs j i y h hi
  have e16:(Kn x).length=16:=rfl
  rw [Ep,Et (by rw [e16];omega),e16,<- this]
  congr 1
  omega
theorem Kg.inn {B:Nat} {w:World} {a:Option Addr} {n cap:Nat} {ls:List CH.Version} (h:Kg B w (.slice a n cap) ls) {k:Nat} {x:CH.Version} (hx:ls[k]?=some x) : ∃ b off s,a=some ⟨b,off,none⟩/\b<B/\w.rangeAt b (off+k*8) (An x s)/\aO B w x s:=by obtain⟨a',cap',e,_,_,h4⟩:=h;injection e with e1 e2 e3;subst e1;obtain⟨b,off,rfl,h5,h6⟩:=h4 (by intro e;subst e;simp at hx);obtain⟨s,h7,h8⟩:=h6 k x hx;exact⟨b,off,s,rfl,h5,h7,h8⟩
theorem Hxa {w:World} {b:Nat} {l:List Value} {T:TypeId} {r:Nat × Nat} (h:w.heap[b]?=some (.cells l.toArray T r)):w.rangeAt b 0 l:=fun j v hj=>by rw [Bl,Ab h j];simpa using hj
theorem Hh.at {base B:Nat} {w:World} {v:Value} {forks:CH.Forks} {n:Nat} (h:Hh base B w v forks n):∃ a cap,v=.slice a n cap/\n<=cap /\ ∀ k,k<n->∃ b off p x y s s',a=some ⟨b,off,none⟩/\b<w.heap.size/\(p,(x,y))∈forks/\w.rangeAt b (off+k*16) (An x s)/\w.rangeAt b (off+k*16+8) (An y s')/\aO w w x s/\aO w w y s':=by
 obtain⟨xs,h1,h2,h3,h4,h5⟩:=h;have h2':=h2;obtain⟨hlen,⟨rfl,h0⟩|⟨g,cap,cur,rfl,hb,hg,hn,hc,hsz,htk⟩⟩:=h2;·exact⟨none,0,by rw [h0],oM,fun k hk=>by omega⟩
 ·have mO:=(aZ hg)
  refine⟨_,cap,rfl,hn,fun k hk=>?_⟩;obtain⟨⟨⟨x,y⟩,⟨s,s'⟩⟩,hy⟩:∃ y,xs[k]?=some y:=⟨_,Ad oM⟩
  obtain⟨v1,v2,p,hp⟩:=h3 _ (Ap hy);have e8:(An x s).length=8:=rfl;refine⟨g,0,p,x,y,s,s',rfl,mO,hp,fun i u hi=>?_,fun i u hi=>?_,v1.mono (Ag h4 h5),v2.mono (Ag h4 h5)⟩
  ·have hi8:i<8:=(lS hi)
   rw [Bl,Gy h2' (k*16+i) oM,O2 xs k i _ hy oM];unfold Kn;rw [Fv (by rw [e8];exact hi8)];exact hi
  ·have hi8:i<8:=(lS hi)
   rw [Bl,Ll,Gy h2' (k*16+(8+i)) oM,O2 xs k (8+i) _ hy oM];unfold Kn;rw [Et (by rw [e8];omega),e8,He];exact hi
end
end Go.Proofs.YthapckjpmkkkpaaGreatDoor
