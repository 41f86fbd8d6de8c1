/-
  ChainSeals: the proof, part 1 of 15.
-/
import Derived.Test.YtjepldaciejieaaGreatDoorChecked
import Derived.OrdersHeld
import Derived.Deep.RegionHeld
set_option linter.unusedSimpArgs false
set_option linter.unusedVariables false
set_option maxHeartbeats 40000000
set_option maxRecDepth 100000
namespace Go.Proofs.YtjepldaciejieaaGreatDoor
section
theorem tk {P:Program} {md:Region.Mode} {ops:Array Oper} {S:World→Prop} {Q:Exit→Act→World→Prop} {fuel:Nat} {listed:Array Bool} {a:Act} {w:World} {oi:Oper} {v:Value} (i:Nat)
  (hi:ops[i]?=some oi) (hw:Region.wanted oi (yielded ops a.tmps)=true) (hS:S w) (hy:∀ w,S w→(execOp a.eval oi).run P w=.ok (.value v) w)
  (h:wpAnyH P md ops Q S fuel (listed.setIfInBounds i true) (a.put oi.dst v) w) (hs:Region.noSelect ops=true:=by kernel_rfl) (hf:Region.free md ops listed i=true:=by kernel_rfl)
  (hr:(Region.ready md ops listed).contains i=true:=by kernel_rfl) (hQ:∀ c a w,Q (.panic c) (a.put oi.dst v) w→Q (.panic c) a w:=by exact fun _ _ _ h=>h):wpAnyH P md ops Q S (fuel+1) listed a w :=
 wpAnyH_take hi hs hf hr hQ (Or.inl ⟨hw,hy⟩) hS h
theorem rk {P:Program} {md:Region.Mode} {ops:Array Oper} {S:World→Prop} {Q:Exit→Act→World→Prop} {fuel:Nat} {listed:Array Bool} {a:Act} {w:World} {o:Oper} (i:Nat) (ho:ops[i]?=some o)
  (h:∀ K':Act→World→Prop,Shut (∀ a w,S w→(S w→wpAnyH P md ops Q S fuel (listed.setIfInBounds i true) a w)→K' a w)→if Region.wanted o (yielded ops a.tmps)=true then Oper.wp P o a w K' Q else K' (a.put o.dst undef) w)
  (hr:Region.ready md ops listed=[i]:=by kernel_rfl):wpAnyH P md ops Q S (fuel+1) listed a w :=
 wpAnyH_ready hr (List.cons_ne_nil _ _) (AllReadyH.cons ho h AllReadyH.nil)
theorem nR {n:Nat}:n≤n:=Nat.le_refl n
theorem nL {a b c:Nat} (h:a<b) (g:b≤c):a<c:=Nat.lt_of_lt_of_le h g
theorem nT {a b c:Nat} (h:a≤b) (g:b≤c):a≤c:=Nat.le_trans h g
theorem aZ {α:Type} {xs:Array α} {i:Nat} {b:α} (h:xs[i]?=some b):i<xs.size:=(Array.getElem?_eq_some_iff.1 h).1
theorem lS {α:Type} {xs:List α} {i:Nat} {b:α} (h:xs[i]?=some b):i<xs.length:=(List.getElem?_eq_some_iff.1 h).1
theorem lZ {α:Type} {l:List α} {i:Nat} (h:i<l.length):l[i]?=some l[i]:=List.getElem?_eq_getElem h
theorem pA {α:Type} (l:List α) (i:Nat) (a:α):l.toArray.setIfInBounds i a=(l.set i a).toArray:=List.setIfInBounds_toArray _ _ _
theorem pB {α:Type} (a b:α) (l:List α):(a::l).set 0 b=b::l:=rfl
theorem pC {α:Type} (a b:α) (l:List α) (n:Nat):(a::l).set (n+1) b=a::l.set n b:=rfl
end
end Go.Proofs.YtjepldaciejieaaGreatDoor
namespace CH
section
def mix1 (s n:Nat):Nat:=((s ^^^ n)*2862933555777941757) % 18446744073709551616
def mix2 (x:Nat):Nat:=((x ^^^ x / 4294967296)*3935559000370003845) % 18446744073709551616
def mix3 (y:Nat):Nat:=y ^^^ y / 536870912
def mix (s n:Nat):Nat:=mix3 (mix2 (mix1 s n))
def be8 (l:List UInt8):Nat :=
 ((((((((l.getD 0 0).toNat*256+(l.getD 1 0).toNat)*256+(l.getD 2 0).toNat)*256+(l.getD 3 0).toNat)*256+(l.getD 4 0).toNat)*256+(l.getD 5 0).toNat)*256+(l.getD 6 0).toNat)*256+(l.getD 7 0).toNat)
def absorb:Nat→Nat→List UInt8→Nat
 | 0,s,_=>s
 | k+1,s,l=>absorb k (mix s (be8 l)) (l.drop 8)
def sumN (l:List UInt8):Nat:=absorb (l.length / 8+1) (2611923443488327891 ^^^ l.length) l
def hexDigit (n:Nat):UInt8:=if n<10 then UInt8.ofNat (48+n) else UInt8.ofNat (87+n)
def hexK:Nat→Nat→List UInt8
 | 0,_=>[]
 | k+1,n=>hexK k (n / 16)++[hexDigit (n % 16)]
def sum (l:List UInt8):List UInt8:=hexK 16 (sumN l)
theorem xor_lt64 {a b:Nat} (ha:a<18446744073709551616) (hb:b<18446744073709551616):a ^^^ b<18446744073709551616:=by
 have:=@Nat.xor_lt_two_pow a b 64 (by simpa using ha) (by simpa using hb)
 simpa using this
theorem mix1_lt (s n:Nat):mix1 s n<18446744073709551616:=Nat.mod_lt _ (by decide)
theorem mix2_lt (x:Nat):mix2 x<18446744073709551616:=Nat.mod_lt _ (by decide)
theorem mix_lt (s n:Nat):mix s n<18446744073709551616:=by
 unfold mix mix3
 exact xor_lt64 (mix2_lt _) (Nat.lt_of_le_of_lt (Nat.div_le_self _ _) (mix2_lt _))
theorem absorb_succ' (k s:Nat) (l:List UInt8):absorb (k+1) s l=mix (absorb k s l) (be8 (l.drop (8*k))):=by
 induction k generalizing s l with
 | zero=>simp [absorb]
 | succ k ih =>
  rw [absorb,ih,absorb,List.drop_drop]
  congr 3
  omega
theorem absorb_lt (k s:Nat) (l:List UInt8) (hs:s<18446744073709551616):absorb k s l<18446744073709551616:=by
 cases k with
 | zero=>exact hs
 | succ k=>rw [absorb_succ'];exact mix_lt _ _
theorem u8_lt (c:UInt8):c.toNat<256:=c.toNat_lt
theorem be8_lt (l:List UInt8):be8 l<18446744073709551616:=by
 unfold be8
 have h0:=u8_lt (l.getD 0 0);have h1:=u8_lt (l.getD 1 0);have h2:=u8_lt (l.getD 2 0);have h3:=u8_lt (l.getD 3 0)
 have h4:=u8_lt (l.getD 4 0);have h5:=u8_lt (l.getD 5 0);have h6:=u8_lt (l.getD 6 0);have h7:=u8_lt (l.getD 7 0)
 omega
theorem length_hexK (k n:Nat):(hexK k n).length=k:=by
 induction k generalizing n with
 | zero=>rfl
 | succ k ih=>simp [hexK,ih]
theorem hexK_succ (k n:Nat):hexK (k+1) n=hexDigit (n / 16 ^ k % 16)::hexK k n:=by
 induction k generalizing n with
 | zero=>simp [hexK]
 | succ k ih =>
  rw [hexK,ih,hexK,Nat.div_div_eq_div_mul,← Nat.pow_succ']
  rfl
theorem hexK_add (j d n:Nat) (h:n<16 ^ d):hexK (j+d) n=List.replicate j 48++hexK d n:=by
 induction j with
 | zero=>simp
 | succ j ih =>
  rw [show j+1+d=(j+d)+1 from by omega,hexK_succ,ih]
  have:n / 16 ^ (j+d)=0:=Nat.div_eq_of_lt (Nat.lt_of_lt_of_le h (Nat.pow_le_pow_right (by decide) (by omega)))
  rw [this]
  simp [hexDigit,List.replicate_succ]
theorem length_sum (l:List UInt8):(sum l).length=16:=length_hexK _ _
def pack (f:Int→List UInt8):List (List UInt8)→List UInt8
 | []=>[]
 | l::r=>f l.length++[58]++l++pack f r
theorem pack_snoc (f:Int→List UInt8) (ls:List (List UInt8)) (l:List UInt8):pack f (ls++[l])=pack f ls++(f l.length++[58]++l):=by
 induction ls with
 | nil=>simp [pack]
 | cons x r ih=>simp [pack,ih]
theorem pack_take_le (f:Int→List UInt8) (ls:List (List UInt8)) (k:Nat):(pack f (ls.take k)).length≤(pack f ls).length:=by
 induction ls generalizing k with
 | nil=>simp [pack]
 | cons x r ih =>
  cases k with
  | zero=>simp [pack]
  | succ k=>simp only [List.take_succ_cons,pack,List.length_append];have:=ih k;omega
theorem take_snoc_at {α:Type} (ls:List α) (k:Nat) (l:α) (h:ls[k]?=some l):ls.take (k+1)=ls.take k++[l]:=by
 rw [List.take_add_one,h];rfl
def chain:Nat→List UInt8→List UInt8
 | 0,l=>l
 | n+1,l=>chain n (sum l)
theorem chain_succ' (n:Nat) (l:List UInt8):chain (n+1) l=sum (chain n l):=by
 induction n generalizing l with
 | zero=>rfl
 | succ n ih=>rw [chain,ih];rfl
def isHex (c:UInt8):Bool:=(48≤c&&c≤57)||(97≤c&&c≤102)
def isDigest (l:List UInt8):Bool:=l.length==16&&l.all isHex
end
end CH
