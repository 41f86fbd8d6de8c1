/-
  ChainOthers: the proof, part 12 of 16.
-/
import Derived.Test.YtjaeapaeaiiieaaGreatDoorP10
import Derived.Deep.OwnRows
import Derived.Deep.Slices
import Derived.DataShut
import Derived.Deep.Strs
set_option linter.unusedSimpArgs false
set_option linter.unusedVariables false
set_option maxHeartbeats 40000000
set_option maxRecDepth 100000
namespace Go.Proofs.YtjaeapaeaiiieaaGreatDoor
section
open Go.Lib Go.Proofs.Tryz Go.RowKit Go.Shelf Go.Sort
theorem stable_any (g cap:Nat) (d:Array VP) (w:World) (hH:HoldsK gJ 8 w g 0 d) (hblk:g<w.heap.size) (hn:d.size<20) :
  Calls prog 49 #[.slice (some ⟨g,0,none⟩) d.size cap,.int .i64 (d.size:Nat),.func (.func 23) #[] #[]] w fun e w' =>
   e=.returned (.tuple #[])∧∃ n os,w'=sortWorldK gJ 8 w g 0 n (Sort.insertionSort (ltOf cmpV) d 0 d.size) os:=by
 have I:=hid (insV_any g cap d w hH hblk hn)
 obtain⟨Q,hQ⟩:∃ Q:World→Prop,(fun w'=>∃ n os,w'=sortWorldK gJ 8 w g 0 n (Sort.insertionSort (ltOf cmpV) d 0 d.size) os)=Q:=⟨_,rfl⟩
 have I:Hid (Calls prog 96 #[.slice (some ⟨g,0,none⟩) d.size cap,.int .i64 0,.int .i64 (d.size:Nat),.func (.func 23) #[] #[]] w fun e w'=>e=.returned (.tuple #[])∧Q w'):=hid (by rw [← hQ];exact I.out)
 have hG:Calls prog 49 #[.slice (some ⟨g,0,none⟩) d.size cap,.int .i64 (d.size:Nat),.func (.func 23) #[] #[]] w fun e w'=>e=.returned (.tuple #[])∧Q w':=by
  clear hQ hH hblk
  generalize d.size=N at *
  have q20:decide ((20:Int)≤(N:Int))=false:=by simp;omega
  have q20':decide ((20:Int)<(N:Int))=false:=by simp;omega
  go_enter func49,ntmps49
  go_wp2_with fail
  go_loopw [7,8] (fun a b wr=>a=.int .i64 0∧b=.int .i64 20∧w=wr) (fun _ _ _=>0)
  case atStart=>exact⟨rfl,rfl,rfl⟩
  case round =>
   obtain⟨rfl,rfl,rfl⟩:=hrel
   go_wp2_with fail
   refine I.out.mono ?_
   rintro e w1 ⟨rfl,hq⟩
   clear I
   go_wp2_with fail
   go_loopw [6] (fun a wr=>a=.int .i64 20∧w1=wr) (fun _ _=>0)
   case atStart=>exact⟨rfl,rfl⟩
   case round =>
    obtain⟨rfl,rfl⟩:=hrel
    go_wp2
    go_end0
    exact⟨rfl,hq⟩
 rw [← hQ] at hG
 exact hG
theorem M0 (g cap:Nat) (d:Array VP) (w:World) (hH:HoldsK gJ 8 w g 0 d) (hblk:g<w.heap.size) (hn:d.size<20) :
  Calls prog 22 #[.slice (some ⟨g,0,none⟩) d.size cap,.func (.func 23) #[] #[]] w fun e w' =>
   e=.returned (.tuple #[])∧∃ n os,w'=sortWorldK gJ 8 w g 0 n (Sort.insertionSort (ltOf cmpV) d 0 d.size) os:=by
 have I:=hid (stable_any g cap d w hH hblk hn)
 obtain⟨Q,hQ⟩:∃ Q:World→Prop,(fun w'=>∃ n os,w'=sortWorldK gJ 8 w g 0 n (Sort.insertionSort (ltOf cmpV) d 0 d.size) os)=Q:=⟨_,rfl⟩
 have I:Hid (Calls prog 49 #[.slice (some ⟨g,0,none⟩) d.size cap,.int .i64 (d.size:Nat),.func (.func 23) #[] #[]] w fun e w'=>e=.returned (.tuple #[])∧Q w'):=hid (by rw [← hQ];exact I.out)
 have hG:Calls prog 22 #[.slice (some ⟨g,0,none⟩) d.size cap,.func (.func 23) #[] #[]] w fun e w'=>e=.returned (.tuple #[])∧Q w':=by
  clear hQ hH hblk
  generalize d.size=N at *
  go_enter func22,ntmps22
  go_wp2_with fail
  refine I.out.mono ?_
  rintro e w1 ⟨rfl,hq⟩
  go_wp2
  go_end0
  exact⟨rfl,hq⟩
 rw [← hQ] at hG
 exact hG
theorem insNil_any (w:World):Calls prog 96 #[.slice none 0 0,.int .i64 0,.int .i64 0,.func (.func 23) #[] #[]] w fun e w'=>e=.returned (.tuple #[])∧w=w':=by
 go_enter func96,ntmps96
 go_wp2_with fail
 go_loopw [8] (fun a wr=>a=.int .i64 1∧w=wr) (fun _ _=>0)
 case atStart=>exact⟨rfl,rfl⟩
 case round =>
  obtain⟨rfl,rfl⟩:=hrel
  go_wp2
  go_end0
  exact⟨rfl,rfl⟩
theorem stableNil_any (w:World):Calls prog 49 #[.slice none 0 0,.int .i64 0,.func (.func 23) #[] #[]] w fun e w'=>e=.returned (.tuple #[])∧w=w':=by
 go_enter func49,ntmps49
 go_wp2_with fail
 go_loopw [7,8] (fun a b wr=>a=.int .i64 0∧b=.int .i64 20∧w=wr) (fun _ _ _=>0)
 case atStart=>exact⟨rfl,rfl,rfl⟩
 case round =>
  obtain⟨rfl,rfl,rfl⟩:=hrel
  go_wp2_with fail
  refine (insNil_any w).mono ?_
  rintro e w1 ⟨rfl,rfl⟩
  go_wp2_with fail
  go_loopw [6] (fun a wr=>a=.int .i64 20∧w=wr) (fun _ _=>0)
  case atStart=>exact⟨rfl,rfl⟩
  case round =>
   obtain⟨rfl,rfl⟩:=hrel
   go_wp2
   go_end0
   exact⟨rfl,rfl⟩
theorem J7 (w:World):Calls prog 22 #[.slice none 0 0,.func (.func 23) #[] #[]] w fun e w'=>e=.returned (.tuple #[])∧w=w':=by
 go_enter func22,ntmps22
 go_wp2_with fail
 refine (stableNil_any w).mono ?_
 rintro e w1 ⟨rfl,rfl⟩
 go_wp2
 go_end0
 exact⟨rfl,rfl⟩
section
variable {α β:Type} [Inhabited α] [Inhabited β] (f:α→β) (lt:β→β→Bool) (hd:f default=default)
theorem Mp (d:Array α) (i:Nat) (hd:f default=default):(d.map f)[i]! =f d[i]!:=by
 by_cases h:i<d.size
 ·simp [h]
 ·simp [h,hd]
theorem swp_map (d:Array α) (i j:Nat) (hd:f default=default):swp (d.map f) i j=(swp d i j).map f:=by
 unfold swp
 rw [Mp f d _ hd,Mp f d _ hd]
 simp [Array.map_setIfInBounds]
theorem Kn (a:Nat) (hd:f default=default):∀ (j:Nat) (d:Array α),insInner lt a j (d.map f)=(insInner (fun x y=>lt (f x) (f y)) a j d).map f
 | 0,_=>rfl
 | j+1,d=>by
  rw [insInner,insInner,Mp f d _ hd,Mp f d _ hd,swp_map f d _ _ hd]
  split
  ·exact Kn a hd j _
  ·rfl
theorem Kl (a b:Nat) (hd:f default=default):∀ (n i:Nat) (d:Array α),b - i≤n→insOuter lt a b i (d.map f)=(insOuter (fun x y=>lt (f x) (f y)) a b i d).map f
 | 0,i,d,h=>by
  have h1:=insOuter.eq_1 lt a b i (d.map f)
  have h2:=insOuter.eq_1 (fun x y=>lt (f x) (f y)) a b i d
  rw [if_neg (by omega)] at h1 h2
  rw [h1,h2]
 | n+1,i,d,h=>by
  have h1:=insOuter.eq_1 lt a b i (d.map f)
  have h2:=insOuter.eq_1 (fun x y=>lt (f x) (f y)) a b i d
  by_cases hi:i<b
  ·rw [if_pos hi] at h1 h2
   rw [h1,h2,Kn f lt a hd,Kl a b hd n (i+1) _ (by omega)]
  ·rw [if_neg hi] at h1 h2
   rw [h1,h2]
theorem Kk (d:Array α) (a b:Nat) (hd:f default=default):insertionSort lt (d.map f) a b=(insertionSort (fun x y=>lt (f x) (f y)) d a b).map f :=
 Kl f lt a b hd b (a+1) d (by omega)
end
theorem ltOf_cmpV (x y:VP):ltOf cmpV x y=CH.ltPos x.v y.v:=by
 unfold ltOf cmpV CH.cmpI CH.ltPos
 rcases (by omega:x.v.pos<y.v.pos∨(¬ x.v.pos<y.v.pos∧y.v.pos<x.v.pos)∨(¬ x.v.pos<y.v.pos∧¬ y.v.pos<x.v.pos)) with h|⟨h,h'⟩|⟨h,h'⟩
 ·rw [if_pos h,decide_eq_true h];rfl
 ·rw [if_neg h,if_pos h',decide_eq_false h];rfl
 ·rw [if_neg h,if_neg h',decide_eq_false h];rfl
theorem Jt (d:Array VP) (a b:Nat):((insertionSort (ltOf cmpV) d a b).map (·.v))=insertionSort CH.ltPos (d.map (·.v)) a b:=by
 rw [Kk (·.v) CH.ltPos d a b rfl]
 have:(ltOf cmpV)=fun x y=>CH.ltPos x.v y.v:=by
  funext x y
  exact ltOf_cmpV x y
 rw [this]
end
section
open Go.Lib Go.Proofs.Tryz Go.RowKit Go.Shelf Go.Sort
def cmpP (a b:Int × Int):Int:=if CH.cmpI a.1 b.1 != 0 then CH.cmpI a.1 b.1 else CH.cmpI a.2 b.2
theorem orInt_any (a b:Int) (g:Nat) (w:World) (h0:w.cell? ⟨g,0,none⟩=some (.int .i64 a)) (h1:w.cell? ⟨g,1,none⟩=some (.int .i64 b)) :
  Calls prog 74 #[.slice (some ⟨g,0,none⟩) 2 2] w (fun e w'=>e=.returned (.int .i64 (if a != 0 then a else b))∧w=w'):=by
 obtain⟨R,hR⟩:∃ R,Hid ((if a != 0 then a else b)=R):=⟨_,hid rfl⟩
 rw [hR.out]
 go_enter func74,ntmps74
 go_wp2_with fail
 go_loopw [8] (fun i wr=>∃ k:Nat,k≤2∧i=.int .i64 k∧w=wr∧Hid (1≤k→a=0)∧Hid (2≤k→b=0)) (fun i _=>2 - (RowKit.intOf i).toNat)
 case atStart=>exact⟨0,by omega,rfl,rfl,hid (fun h=>by omega),hid (fun h=>by omega)⟩
 case round =>
  obtain⟨k,hk,rfl,rfl,ha,hb⟩:=hrel
  rcases (by omega:k=0∨k=1∨k=2) with rfl|rfl|rfl
  ·by_cases h:a=0
   ·have q:(a != 0)=false:=by simp [h]
    have h:=hid h
    go_wp2
    go_roundw
    case rel=>exact⟨1,by omega,by go_num,by trivial,hid (fun _=>h.out),hid (fun h=>by omega)⟩
    case measure=>simp [RowKit.intOf]
   ·have q:(a != 0)=true:=by simp [h]
    have hRa:R=a:=by rw [← hR.out,q];rfl
    subst hRa
    go_wp2
    go_ret
    exact⟨rfl,rfl⟩
  ·have ha0:a=0:=ha.out (by omega)
   have hRb:R=b:=by rw [← hR.out,ha0];rfl
   subst hRb
   by_cases h:R=0
   ·have q:(R != 0)=false:=by simp [h]
    have h:=hid h
    go_wp2
    go_roundw
    case rel=>exact⟨2,by omega,by go_num,by trivial,hid (fun _=>ha0),hid (fun _=>h.out)⟩
    case measure=>simp [RowKit.intOf]
   ·have q:(R != 0)=true:=by simp [h]
    go_wp2
    go_ret
    exact⟨rfl,rfl⟩
  ·have ha0:a=0:=ha.out (by omega)
   have hb0:b=0:=hb.out (by omega)
   have hR0:R=0:=by rw [← hR.out,ha0,hb0];rfl
   subst hR0
   go_wp2
   go_ret
   exact⟨rfl,rfl⟩
theorem alloc2_sndP (w:World) (o1 o2:Obj):((w.alloc o1).alloc o2).heap[w.heap.size+1]?=some o2:=by
 have:=heap_alloc_last (w.alloc o1) o2
 rwa [World.size_alloc] at this
theorem alloc2_fstP (w:World) (o1 o2:Obj):((w.alloc o1).alloc o2).heap[w.heap.size]?=some o1 :=
 (((Below.refl _ (w.alloc o1)).alloc nR o2).block w.heap.size (by simp)).trans (heap_alloc_last w o1)
theorem alloc3_grow (w:World) (o1 o2 o3:Obj):∃ q os',(((w.alloc o1).alloc o2).alloc o3).drew=grow (w.drewN q) os':=by
 refine⟨1,#[o1,o2,o3],?_⟩
 simp only [World.alloc,grow,World.drewN,World.drew]
 congr 1
theorem cmpP_any (x y:Int × Int) (w:World):Calls prog 73 #[.agg (fJ x).toArray,.agg (fJ y).toArray] w (fun e w'=>e=.returned (.int .i64 (cmpP x y))∧∃ q os',w'=grow (w.drewN q) os'):=by
 obtain⟨x1,x2⟩:=x
 obtain⟨y1,y2⟩:=y
 obtain⟨r,hr⟩:∃ r,cmpP (x1,x2) (y1,y2)=r:=⟨_,rfl⟩
 unfold cmpP at hr
 dsimp only at hr
 have hC1:=fun W=>Ie x1 y1 W
 have hC2:=fun W=>Ie x2 y2 W
 rw [show cmpP (x1,x2) (y1,y2)=r from hr]
 generalize CH.cmpI x1 y1=c1 at *
 generalize CH.cmpI x2 y2=c2 at *
 have hO:=fun (g:Nat) (W:World) h0 h1=>orInt_any c1 c2 g W h0 h1
 rw [hr] at hO
 have hC1:=hid hC1
 have hC2:=hid hC2
 have hO:=hid hO
 have hG:=hid (alloc3_grow w)
 clear hr
 simp only [fJ]
 go_enter func73,ntmps73
 go_wp2_with fail
 obtain⟨W0,hW0⟩:∃ W0,(w.alloc (.cells #[.int .i64 x1,.int .i64 x2] 94)).alloc (.cells #[.int .i64 y1,.int .i64 y2] 94)=W0:=⟨_,rfl⟩
 have hp:=alloc2_fstP w (.cells #[.int .i64 x1,.int .i64 x2] 94) (.cells #[.int .i64 y1,.int .i64 y2] 94)
 have hq:=alloc2_sndP w (.cells #[.int .i64 x1,.int .i64 x2] 94) (.cells #[.int .i64 y1,.int .i64 y2] 94)
 have hGW:∀ o,∃ q os',(W0.alloc o).drew=grow (w.drewN q) os':=fun o=>by rw [← hW0];exact hG.out _ _ o
 rw [hW0] at hp hq ⊢
 have hGW:=hid hGW
 clear hG hW0
 have hpl:=(aZ hp)
 have hql:=(aZ hq)
 have SS:∀ W',Below W0.heap.size W0 W'→W'.cell? ⟨w.heap.size,0,none⟩=some (.int .i64 x1)∧W'.cell? ⟨w.heap.size,1,none⟩=some (.int .i64 x2)∧W'.cell? ⟨w.heap.size+1,0,none⟩=some (.int .i64 y1)∧W'.cell? ⟨w.heap.size+1,1,none⟩=some (.int .i64 y2):=fun W' hb =>
  ⟨Aa ((hb.block _ hpl).trans hp) 0,Aa ((hb.block _ hpl).trans hp) 1,Aa ((hb.block _ hql).trans hq) 0,Aa ((hb.block _ hql).trans hq) 1⟩
 have hBd:Below W0.heap.size W0 W0.drew:=(Below.refl _ W0).drew
 have SS:=hid SS
 clear hp hq hpl hql
 go_region_held3 (fun W'=>W'.cell? ⟨w.heap.size,0,none⟩=some (.int .i64 x1)∧W'.cell? ⟨w.heap.size,1,none⟩=some (.int .i64 x2)∧W'.cell? ⟨w.heap.size+1,0,none⟩=some (.int .i64 y1)∧W'.cell? ⟨w.heap.size+1,1,none⟩=some (.int .i64 y2)) (first|exact SS.out _ hBd|exact SS.out _ (hBd.alloc hBd.size _)) (first
  |(go_at_call 24;with_reducible refine (hC1.out _).mono ?_;rintro e w' ⟨rfl,rfl⟩)
  |(go_at_call 24;with_reducible refine (hC2.out _).mono ?_;rintro e w' ⟨rfl,rfl⟩)
  |(go_at_call 74;refine (hO.out _ _ (Aa (heap_alloc_last _ _) 0) (Aa (heap_alloc_last _ _) 1)).mono ?_;rintro e w' ⟨rfl,rfl⟩))
 go_wp2
 go_ret
 exact⟨rfl,hGW.out _⟩
def insP_ren:Ren:=⟨fun|20=>213|n=>n,fun|22=>145|24=>94|25=>151|n=>n,fun n=>n⟩
theorem insP_lays:SlLaysF0.n20 prog insP_ren:={
 mixed:=by kernel_rfl
 f20:=⟨Tryz.f213.name,by decide,func213.trans (congrArg some (by kernel_rfl))⟩
 t0:=underlying0
 a0:=isAgg0
 z0:=sizeOf0
 v0:=zeroValue0
 t3:=underlying3
 a3:=isAgg3
 z3:=sizeOf3
 v3:=zeroValue3
 t4:=underlying4
 a4:=isAgg4
 z4:=sizeOf4
 v4:=zeroValue4
 t22:=underlying145
 a22:=isAgg145
 z22:=sizeOf145
 v22:=zeroValue145
 t25:=underlying151
 a25:=isAgg151
 z25:=sizeOf151
 v25:=zeroValue151 }
theorem insP_any (g cap:Nat) (d:Array (Int × Int)) (w:World) (hH:HoldsK fJ 2 w g 0 d) (hblk:g<w.heap.size) (hn:d.size≤12) :
  Calls prog 213 #[.slice (some ⟨g,0,none⟩) d.size cap,.int .i64 0,.int .i64 (d.size:Nat),.func (.func 73) #[] #[]] w fun e w' =>
   e=.returned (.tuple #[])∧∃ n os,w'=sortWorldK fJ 2 w g 0 n (Sort.insertionSort (ltOf cmpP) d 0 d.size) os :=
 AnyQ.insertionSortCmpFunc (α:=Int × Int) insP_lays 2 isAgg94 sizeOf94 fJ (fun _=>rfl) encP_one cmpP 73 #[] g 0 cap 0 d.size d w (fun args W=>by kernel_rfl) (fun m os dk _ x y=>cmpP_any x y _) hH hblk (Nat.zero_le _) nR (by omega)
theorem pdqP_any (g cap:Nat) (d:Array (Int × Int)) (lim:Int) (w:World) (hH:HoldsK fJ 2 w g 0 d) (hblk:g<w.heap.size) (hn:d.size≤12) :
  Calls prog 177 #[.slice (some ⟨g,0,none⟩) d.size cap,.int .i64 0,.int .i64 (d.size:Nat),.int .i64 lim,.func (.func 73) #[] #[]] w fun e w' =>
   e=.returned (.tuple #[])∧∃ n os,w'=sortWorldK fJ 2 w g 0 n (Sort.insertionSort (ltOf cmpP) d 0 d.size) os:=by
 have I:=hid (insP_any g cap d w hH hblk hn)
 obtain⟨Q,hQ⟩:∃ Q:World→Prop,(fun w'=>∃ n os,w'=sortWorldK fJ 2 w g 0 n (Sort.insertionSort (ltOf cmpP) d 0 d.size) os)=Q:=⟨_,rfl⟩
 have I:Hid (Calls prog 213 #[.slice (some ⟨g,0,none⟩) d.size cap,.int .i64 0,.int .i64 (d.size:Nat),.func (.func 73) #[] #[]] w fun e w'=>e=.returned (.tuple #[])∧Q w'):=hid (by rw [← hQ];exact I.out)
 have hG:Calls prog 177 #[.slice (some ⟨g,0,none⟩) d.size cap,.int .i64 0,.int .i64 (d.size:Nat),.int .i64 lim,.func (.func 73) #[] #[]] w fun e w'=>e=.returned (.tuple #[])∧Q w':=by
  clear hQ hH hblk
  generalize d.size=N at *
  have q:decide ((N:Int)≤12)=true:=by simp;omega
  go_enter func177,ntmps177
  go_wp2_with fail
  go_loopw [1,2] (fun a b wr=>a=.int .i64 0∧b=.int .i64 N∧w=wr) (fun _ _ _=>0)
  case atStart=>exact⟨rfl,rfl,rfl⟩
  case round =>
   obtain⟨rfl,rfl,rfl⟩:=hrel
   go_wp2_with fail
   refine I.out.mono ?_
   rintro e w1 ⟨rfl,hq⟩
   clear I
   go_wp2
   refine bodyPost_ret (results_none rfl _ _ _) rfl ?_
   exact⟨rfl,hq⟩
 rw [← hQ] at hG
 exact hG
theorem sortP_any (g cap:Nat) (d:Array (Int × Int)) (w:World) (hH:HoldsK fJ 2 w g 0 d) (hblk:g<w.heap.size) (hn:d.size≤12) :
  Calls prog 120 #[.slice (some ⟨g,0,none⟩) d.size cap,.func (.func 73) #[] #[]] w fun e w' =>
   e=.returned (.tuple #[])∧∃ n os,w'=sortWorldK fJ 2 w g 0 n (Sort.insertionSort (ltOf cmpP) d 0 d.size) os:=by
 have I:=fun lim=>pdqP_any g cap d lim w hH hblk hn
 obtain⟨Q,hQ⟩:∃ Q:World→Prop,(fun w'=>∃ n os,w'=sortWorldK fJ 2 w g 0 n (Sort.insertionSort (ltOf cmpP) d 0 d.size) os)=Q:=⟨_,rfl⟩
 have I:Hid (∀ lim,Calls prog 177 #[.slice (some ⟨g,0,none⟩) d.size cap,.int .i64 0,.int .i64 (d.size:Nat),.int .i64 lim,.func (.func 73) #[] #[]] w fun e w'=>e=.returned (.tuple #[])∧Q w'):=hid (by rw [← hQ];exact I)
 have hG:Calls prog 120 #[.slice (some ⟨g,0,none⟩) d.size cap,.func (.func 73) #[] #[]] w fun e w'=>e=.returned (.tuple #[])∧Q w':=by
  clear hQ hH hblk
  generalize d.size=N at *
  have hu:IntKind.u64.wrap (N:Int)=(N:Int):=by
   rw [IntKind.wrap_u64]
   omega
  go_enter func120,ntmps120
  go_wp2_with fail
  refine (Tryz.bits_Len (N:Int) _ (by omega) (by omega)).mono ?_
  rintro e w1 ⟨rfl,rfl⟩
  go_wp2_with fail
  refine (I.out _).mono ?_
  rintro e w2 ⟨rfl,hq⟩
  clear I
  go_wp2
  go_end0
  exact⟨rfl,hq⟩
 rw [← hQ] at hG
 exact hG
theorem insPNil_any (w:World):Calls prog 213 #[.slice none 0 0,.int .i64 0,.int .i64 0,.func (.func 73) #[] #[]] w fun e w'=>e=.returned (.tuple #[])∧w=w':=by
 go_enter func213,ntmps213
 go_wp2_with fail
 go_loopw [8] (fun a wr=>a=.int .i64 1∧w=wr) (fun _ _=>0)
 case atStart=>exact⟨rfl,rfl⟩
 case round =>
  obtain⟨rfl,rfl⟩:=hrel
  go_wp2
  go_end0
  exact⟨rfl,rfl⟩
theorem pdqPNil_any (lim:Int) (w:World):Calls prog 177 #[.slice none 0 0,.int .i64 0,.int .i64 0,.int .i64 lim,.func (.func 73) #[] #[]] w fun e w'=>e=.returned (.tuple #[])∧w=w':=by
 go_enter func177,ntmps177
 go_wp2_with fail
 go_loopw [1,2] (fun a b wr=>a=.int .i64 0∧b=.int .i64 0∧w=wr) (fun _ _ _=>0)
 case atStart=>exact⟨rfl,rfl,rfl⟩
 case round =>
  obtain⟨rfl,rfl,rfl⟩:=hrel
  go_wp2_with fail
  refine (insPNil_any w).mono ?_
  rintro e w1 ⟨rfl,rfl⟩
  go_wp2
  refine bodyPost_ret (results_none rfl _ _ _) rfl ?_
  exact⟨rfl,rfl⟩
theorem sortPNil_any (w:World):Calls prog 120 #[.slice none 0 0,.func (.func 73) #[] #[]] w fun e w'=>e=.returned (.tuple #[])∧w=w':=by
 have hu:IntKind.u64.wrap (0:Int)=(0:Int):=by
  rw [IntKind.wrap_u64]
  omega
 go_enter func120,ntmps120
 go_wp2_with fail
 refine (Tryz.bits_Len 0 _ (by omega) (by omega)).mono ?_
 rintro e w1 ⟨rfl,rfl⟩
 go_wp2_with fail
 refine (pdqPNil_any _ _).mono ?_
 rintro e w2 ⟨rfl,rfl⟩
 go_wp2
 go_end0
 exact⟨rfl,rfl⟩
def Im (B:Nat) (w:World) (v:Value) (ls:List (Int × Int)):Prop :=
 ∃ a cap,v=.slice a ls.length cap∧ls.length≤cap∧cap≤9223372036854775807 ∧
  (ls≠[]→∃ b off,a=some ⟨b,off,none⟩∧b<B∧∀ j p,ls[j]?=some p→w.cell? ⟨b,off+j*2,none⟩=some (aJ p.1)∧w.cell? ⟨b,off+j*2+1,none⟩=some (aJ p.2))
theorem Im.below {B B':Nat} {w w':World} {v:Value} {ls:List (Int × Int)} (h:Im B w v ls) (hb:Below B' w w') (hB:B≤B'):Im B w' v ls:=by
 obtain⟨a,cap,h1,h2,h3,h4⟩:=h
 refine⟨a,cap,h1,h2,h3,fun hne=>?_⟩
 obtain⟨b,off,e,hlt,hx⟩:=h4 hne
 refine⟨b,off,e,hlt,fun j p hj=>⟨(hb.cell (p:=⟨b,off+j*2,none⟩) (nL hlt hB)).trans (hx j p hj).1,(hb.cell (p:=⟨b,off+j*2+1,none⟩) (nL hlt hB)).trans (hx j p hj).2⟩⟩
theorem flat2:∀ (l:List (Int × Int)) (t:Nat),t<l.length*2→(l.flatMap fJ)[t]?=some ((fJ l.toArray[t / 2]!)[t % 2]!)
 | [],t,h=>by simp at h
 | x::l,t,h=>by
  rw [List.flatMap_cons]
  by_cases h8:t<2
  ·rw [List.getElem?_append_left h8]
   have e1:t / 2=0:=Nat.div_eq_of_lt h8
   have e2:t % 2=t:=Nat.mod_eq_of_lt h8
   rw [e1,e2]
   have:t<(fJ x).length:=h8
   simp [this]
  ·rw [List.getElem?_append_right (by show 2≤t;omega)]
   show (l.flatMap fJ)[t - 2]?=_
   rw [flat2 l (t - 2) (by rw [List.length_cons] at h;omega)]
   have e1:t / 2=(t - 2) / 2+1:=by omega
   have e2:t % 2=(t - 2) % 2:=by omega
   rw [e1,e2]
   simp
theorem Li {C g n:Nat} {w:World} {d:Array (Int × Int)} {os:Array Obj} (hC:C≤g) (hw:C≤w.heap.size):Below C w (sortWorldK fJ 2 w g 0 n d os):=by
 refine⟨rfl,rfl,rfl,size_sortWorldK_c fJ 2 w g 0 n d os,fun k hk=>?_⟩
 show ((w.heap.modify g (onCells (putCells id 0 (flatK fJ 2 d))))++os)[k]?=w.heap[k]?
 rw [Array.getElem?_append_left (by simp;omega),Array.getElem?_modify,if_neg (by omega)]
theorem sortedP_row {base g cap:Nat} {w:World} {ps:List (Int × Int)} (hO:w.ownsRow base 94 2 (.slice (some ⟨g,0,none⟩) ps.length cap) ps.length (ps.flatMap fJ)) (hbw:base≤w.heap.size) :
  HoldsK fJ 2 w g 0 ps.toArray∧g<w.heap.size∧∀ w',(∃ n os,w'=sortWorldK fJ 2 w g 0 n (Sort.insertionSort (ltOf cmpP) ps.toArray 0 ps.toArray.size) os) →
   ∃ ls:List (Int × Int),ls.length=ps.length∧(∀ p∈ls,p∈ps)∧Im w'.heap.size w' (.slice (some ⟨g,0,none⟩) ps.length cap) ls∧Below base w w':=by
 have h2':=hO
 obtain⟨hlen,⟨e,h0⟩|⟨g',cap',cur,e,hb,hg,hn,hc,hsz,htk⟩⟩:=hO
 ·cases e
 simp only [Value.slice.injEq,Option.some.injEq,Addr.mk.injEq,and_true,true_and] at e
 obtain⟨rfl,rfl⟩:=e
 have hglt:g<w.heap.size:=(aZ hg)
 have hH:HoldsK fJ 2 w g 0 ps.toArray:=by
  intro t ht
  rw [size_flatK] at ht
  have ht':t<ps.length*2:=by simpa using ht
  rw [get_flatK _ _ _ _ ht]
  refine⟨?_,Ao hg _⟩
  rw [Nat.zero_add,World.ownsRow.cellAt h2' t ht']
  exact flat2 ps t ht'
 refine⟨hH,hglt,?_⟩
 rintro w' ⟨n,os,rfl⟩
 have hinv:=CH.dY (lt:=ltOf cmpP) (I:=fun L=>L.length=ps.length∧∀ y∈L,y∈ps) (fun l m x y _ h=>⟨by simpa using h.1,fun z hz=>h.2 z (by
  simp only [List.mem_append,List.mem_cons] at hz ⊢
  rcases hz with h|h|h|h
  ·exact .inl h
  ·exact .inr (.inr (.inl h))
  ·exact .inr (.inl h)
  ·exact .inr (.inr (.inr h)))⟩) ps ⟨rfl,fun _ h=>h⟩
 rw [show ps.length=ps.toArray.size from by simp] at hinv
 obtain⟨d',hd'⟩:∃ d',Sort.insertionSort (ltOf cmpP) ps.toArray 0 ps.toArray.size=d':=⟨_,rfl⟩
 rw [hd'] at hinv ⊢
 have hs':d'.size=ps.toArray.size:=by have:=hinv.1;simpa using this
 have hH':=holdsK_sortWorldK_c fJ 2 w g 0 ps.toArray d' n os hH hglt hs'
 have hBb:Below base w (sortWorldK fJ 2 w g 0 n d' os):=Li hb hbw
 have hgs:w.heap.size≤(sortWorldK fJ 2 w g 0 n d' os).heap.size:=hBb.size
 have hsl:d'.toList.length=ps.length:=by simp [hs']
 refine⟨d'.toList,hsl,hinv.2,⟨_,cap,by rw [hsl],by rw [hsl];exact hn,by unfold maxLen at hc;omega,fun _=>⟨g,0,rfl,nL hglt hgs,fun j p hj=>?_⟩⟩,hBb⟩
 have hjl:j<d'.size:=by have:=(lS hj);simpa using this
 have hat:d'[j]! =p:=by
  rw [Array.getElem?_toList] at hj
  rw [getElem!_def,hj]
 have k0:=(HoldsK.cell hH' hjl (show 0<2 by omega)).1
 have k1:=(HoldsK.cell hH' hjl (show 1<2 by omega)).1
 rw [hat] at k0 k1
 exact⟨k0,k1⟩
def SortedRet (w:World) (kvs:List ((Int × Int) × Value)) (e:Ending) (w':World):Prop :=
 ∃ a c ls,e=.returned (.slice a kvs.length c)∧ls.length=kvs.length∧(∀ p∈ls,p∈kvs.map (·.1))∧Im w'.heap.size w' (.slice a kvs.length c) ls∧Below w.heap.size w w'
theorem L1 (Bm r:Nat) (kvs:List ((Int × Int) × Value)) (w:World) (hBm:Bm<w.heap.size) (hm:w.cell? ⟨Bm,0,none⟩=some (.map (some r))) (hmap:A8 An r w kvs) (hk:(kvs.map (·.1)).Nodup) (hN:kvs.length≤12) :
  Calls prog 71 #[.func (.func 121) #[] #[.pointer (some ⟨Bm,0,none⟩)],.func (.func 73) #[] #[]] w (SortedRet w kvs):=by
 have A:=hid (collectP_any Bm r kvs w hBm hm hmap hk (by omega))
 clear hm hmap
 have hk:=hid hk
 have hN:=hid hN
 go_enter func71,ntmps71
 go_wp2_with fail
 refine A.out.mono ?_
 rintro e w1 ⟨a,n,c,ps,rfl,hK,hown,hn,hb⟩
 have hpl:ps.length=kvs.length:=by
  have h1:=Iw ps (kvs.map (·.1)) hK.1 (fun p hp=>(hK.2 p).1 hp)
  have h2:=Iw (kvs.map (·.1)) ps hk.out (fun p hp=>(hK.2 p).2 hp)
  rw [List.length_map] at h1 h2
  omega
 have hN:=hN.out
 obtain⟨M,hM⟩:∃ M,Hid (kvs.length=M):=⟨_,hid rfl⟩
 rw [hM.out] at hpl hN
 subst hn
 clear A
 have hown':=hown
 obtain⟨hlen,⟨e0,h0⟩|⟨g,cap,cur,e0,_,_,_⟩⟩:=hown
 ·simp only [Value.slice.injEq] at e0
  obtain⟨rfl,_,rfl⟩:=e0
  have hM0:M=0:=by omega
  subst hM0
  rw [h0]
  clear hlen hown' hpl
  go_wp2_with fail
  refine (sortPNil_any w1).mono ?_
  rintro e w2 ⟨rfl,rfl⟩
  go_wp2
  go_ret
  exact⟨none,0,[],by rw [hM.out];rfl,by rw [hM.out];rfl,(fun p hp=>by cases hp),⟨none,0,by rw [hM.out];rfl,Nat.le_refl _,by omega,fun h=>absurd rfl h⟩,hb⟩
 ·simp only [Value.slice.injEq] at e0
  obtain⟨rfl,_,rfl⟩:=e0
  obtain⟨hH,hglt,hpost⟩:=sortedP_row hown' hb.size
  have S:=sortP_any g c ps.toArray w1 hH hglt (by simp;omega)
  obtain⟨Q,hQ⟩:∃ Q:World→Prop,(fun w'=>∃ n os,w'=sortWorldK fJ 2 w1 g 0 n (Sort.insertionSort (ltOf cmpP) ps.toArray 0 ps.toArray.size) os)=Q:=⟨_,rfl⟩
  have hpost:Hid (∀ w',Q w'→_):=hid (by rw [← hQ];exact hpost)
  have S:Hid (Calls prog 120 #[.slice (some ⟨g,0,none⟩) ps.length c,.func (.func 73) #[] #[]] w1 fun e w'=>e=.returned (.tuple #[])∧Q w'):=hid (by rw [← hQ];simpa using S)
  have hK:=hid hK
  clear hQ hH hown' hlen
  rw [hpl] at S hpost ⊢
  go_wp2_with fail
  refine S.out.mono ?_
  rintro e w2 ⟨rfl,hq⟩
  have hp:=hid (hpost.out w2 hq)
  clear hq S hpost
  go_wp2
  go_ret
  obtain⟨ls,h1,h2,h3,h4⟩:=hp.out
  exact⟨_,c,ls,by rw [hM.out];rfl,by rw [hM.out];exact h1,fun p hp=>(hK.out.2 p).1 (h2 p hp),by rw [hM.out];exact h3,hb.trans h4⟩
theorem iF.keys {B:Nat} {w:World}:∀ {l:List ((Int × Int) × Value)} {m:CH.Forks},iF B w l m→l.map (·.1)=m.map (·.1)
 | [],[],_=>rfl
 |(_,_)::l,(_,_)::m,h=>by
  obtain⟨⟨rfl,_⟩,h4⟩:=h
  simp [iF.keys h4]
 | [],_::_,h=>h.elim
 | _::_,[],h=>h.elim
theorem iF.length {B:Nat} {w:World} {l:List ((Int × Int) × Value)} {m:CH.Forks} (h:iF B w l m):l.length=m.length:=by
 have:=congrArg List.length h.keys
 simpa using this
theorem Kh {β:Type} {p:Int × Int}:∀ {l:List ((Int × Int) × β)},p∈l.map (·.1)→∃ f,CH.aX p l=some f∧(p,f)∈l
 | [],h=>by simp at h
 |(q,x)::l,h=>by
  rw [CH.aX]
  by_cases e:p=q
  ·subst e
   exact⟨x,by simp,by simp⟩
  ·obtain⟨f,h1,h2⟩:=Kh (l:=l) (p:=p) (by simpa [e] using h)
   exact⟨f,by rw [if_neg (by simpa using e)];exact h1,by simp [h2]⟩
def Iu (x:(CH.Version × CH.Version) × (bF × bF)):List Value:=Ab x.1.1 x.2.1++Ab x.1.2 x.2.2
theorem pairCells_one {B:Nat} {w:World} {x:(CH.Version × CH.Version) × (bF × bF)} (h1:aK B w x.1.1 x.2.1) (h2:aK B w x.1.2 x.2.2):∀ u∈Iu x,u.oneCell'=true:=by
 intro u hu
 rcases List.mem_append.1 hu with h|h
 ·exact Cv h1 u h
 ·exact Cv h2 u h
theorem pairInfo:(prog.info? 97).map (fun i=>(i.zero,i.size,i.bytes))=some (some (.agg #[.int .i64 0,.int .i64 0,.int .i64 0,.string ⟨#[]⟩,.slice none 0 0,.int .i64 0,.slice none 0 0,.slice none 0 0,.int .i64 0,.int .i64 0,.int .i64 0,.string ⟨#[]⟩,.slice none 0 0,.int .i64 0,.slice none 0 0,.slice none 0 0]),16,240):=by kernel_rfl
def Dg (base B:Nat) (w:World) (v:Value) (forks:CH.Forks) (n:Nat):Prop :=
 ∃ xs:List ((CH.Version × CH.Version) × (bF × bF)),xs.length=n∧w.ownsRow base 97 16 v n (xs.flatMap Iu)∧(∀ x∈xs,aK B w x.1.1 x.2.1∧aK B w x.1.2 x.2.2∧∃ p,(p,x.1)∈forks)∧B≤base∧base≤w.heap.size
theorem Dg.nil {base B:Nat} {w:World} {forks:CH.Forks} (hB:B≤base) (hb:base≤w.heap.size):Dg base B w (.slice none 0 0) forks 0:=⟨[],rfl,World.ownsRow_nil w base _ _,(fun _ h=>by cases h),hB,hb⟩
theorem Dg.below {base B:Nat} {w w':World} {v:Value} {forks:CH.Forks} {n:Nat} (h:Dg base B w v forks n) (hb:Below w.heap.size w w'):Dg base B w' v forks n:=by
 obtain⟨xs,h1,h2,h3,h4,h5⟩:=h
 exact⟨xs,h1,Cp h2 hb,fun x hx=>⟨(h3 x hx).1.below hb (nT h4 h5),(h3 x hx).2.1.below hb (nT h4 h5),(h3 x hx).2.2⟩,h4,nT h5 hb.size⟩
theorem Dg.form {base B:Nat} {w:World} {v:Value} {forks:CH.Forks} {n:Nat} (h:Dg base B w v forks n):∃ a c,v=.slice a n c∧n≤c:=by
 obtain⟨xs,h1,⟨hlen,⟨rfl,h0⟩|⟨g,cap,cur,rfl,_,_,hn,_⟩⟩,_⟩:=h
 ·exact⟨none,0,by rw [h0],by omega⟩
 ·exact⟨_,cap,rfl,hn⟩
def ForksRet (w:World) (forks:CH.Forks) (e:Ending) (w':World):Prop:=∃ v base,e=.returned v∧w.heap.size≤base∧Dg base w.heap.size w' v forks forks.length∧Below w.heap.size w w'
theorem mapsKeysP_any (r:Nat) (w:World):Calls prog 72 #[.map (some r)] w fun e w' =>
  e=.returned (.func (.func 121) #[] #[.pointer (some ⟨w.heap.size,0,none⟩)])∧w.alloc (.cells #[.map (some r)] 75)=w':=by
 go_enter func72,ntmps72
 go_wp2
 go_ret
 exact⟨rfl,rfl⟩
theorem append_pair_op {w:World} {o:Oper} {a:Act} {K:Act→World→Prop} {Q:Exit→Act→World→Prop} (s x:Operand)
  (ho:o.op=.call { callee:=.builtin .append,args:=#[s,x],argTypes:=#[49,49] })
  (base:Nat) (v:Value) (n:Nat) (xs:List Value) (hs:a.eval s=v) (hown:w.ownsRow base 97 16 v n xs) (g c:Nat) (news:List Value) (hx:a.eval x=.slice (some ⟨g,0,none⟩) 1 c)
  (hcell:w.rangeAt g 0 news) (hl:news.length=16) (h1:∀ u∈news,u.oneCell'=true) (hlen:n≤1000000) (hbase:base≤w.heap.size)
  (h:∀ v' w',w'.ownsRow base 97 16 v' (n+1) (xs++news)→w.grownBy w' v.ownBlock→K (a.put o.dst v') w'):o.wp prog a w K Q:=by
 obtain⟨i,hi,hz0,hz1,hz2⟩:=info_parts pairInfo
 refine wp_append_own w s x 49 ho base 97 i _ 16 240 underlying49 hi hz0 hz1 hz2 rfl (by decide) v n _ hs hown ⟨g,0,none⟩ 1 c news hx (by rw [hl]) ?_ h1 ?_ ?_ hbase ?_
 ·intro j u hj
  have:=hcell j u hj
  rw [Nat.zero_add] at this
  rw [show (⟨g,0,none⟩:Addr).add j=⟨g,j,none⟩ from by simp [Addr.add];omega]
  exact this
 ·unfold maxLen;omega
 ·omega
 ·intro v' w' h1 h2 _
  exact h v' w' h1 h2
theorem Lb (c o r:Nat) (kvs:List ((Int × Int) × Value)) (forks:CH.Forks) (w:World) (hc:w.cell? ⟨c,o,none⟩=some (.map (some r))) (hm:A8 An r w kvs) (hkv:iF w.heap.size w kvs forks) (hnd:(forks.map (·.1)).Nodup) (hN:forks.length≤12) :
  Calls prog 38 #[.pointer (some ⟨c,o,none⟩)] w (ForksRet w forks):=by
 have gI:=World.block_lt_of_cell? w _ hc
 have hk:(kvs.map (·.1)).Nodup:=by rw [hkv.keys];exact hnd
 have hle:=hkv.length
 have hkeys:=hkv.keys
 have hm:=hid hm
 have hkv:=hid hkv
 have hk:=hid hk
 obtain⟨N,hNN⟩:∃ N,Hid (forks.length=N):=⟨_,hid rfl⟩
 rw [hNN.out] at hN hle
 go_enter func38,ntmps38
 go_wp2_with fail
 refine (mapsKeysP_any r w).mono ?_
 rintro e W1 ⟨rfl,hW1⟩
 have hb1:Below w.heap.size w W1:=by rw [← hW1];exact (Below.refl _ w).alloc nR _
 have hc1:W1.cell? ⟨w.heap.size,0,none⟩=some (.map (some r)):=by rw [← hW1];exact Aa (heap_alloc_last w _) 0
 have hs1:w.heap.size<W1.heap.size:=by rw [← hW1];simp
 have SF:=hid (L1 w.heap.size r kvs W1 hs1 hc1 (hm.out.below hb1) hk.out (by omega))
 clear hW1 hc1 hs1
 go_wp2_with fail
 refine SF.out.mono ?_
 rintro e w2 ⟨a,cc,ls,rfl,hl,hsub,hP,hb2⟩
 obtain⟨a',cap',hv',hcap1,hcap2,hpc⟩:=hP
 have hB2:=hid (hb1.trans (hb2.mono hb1.size))
 rw [hle] at hl hv' ⊢
 rw [hl] at hv' hcap1
 simp only [Value.slice.injEq,true_and] at hv'
 obtain⟨rfl,rfl⟩:=hv'
 have hpc:=hid hpc
 have hsub:=hid hsub
 have hl:=hid hl
 have hkeys:=hid hkeys
 clear SF hb1 hb2
 go_wp2_with fail
 go_loopw [3,13] (fun ov i wr=>∃ k:Nat,k≤N∧i=.int .i64 k∧Hid (Dg w2.heap.size w.heap.size wr ov forks k)∧Hid (Below w2.heap.size w2 wr)) (fun _ i _=>N - (RowKit.intOf i).toNat)
 case atStart=>exact⟨0,Nat.zero_le _,rfl,hid (Dg.nil hB2.out.size nR),hid (Below.refl _ _)⟩
 case round =>
  obtain⟨k,hkN,rfl,hO,hBr⟩:=hrel
  by_cases hlt:k<N
  ·obtain⟨b,off,rfl,hbl,hx⟩:=hpc.out (by intro h;have:=hl.out;simp [h] at this;omega)
   obtain⟨⟨p1,p2⟩,hxk⟩:∃ p,ls[k]?=some p:=⟨_,lZ (by rw [hl.out];exact hlt)⟩
   obtain⟨e1,e2⟩:=hx k _ hxk
   have d1:wr.cell? ⟨b,off+k*2,none⟩=some (.int .i64 p1):=(hBr.out.cell (p:=⟨b,off+k*2,none⟩) hbl).trans e1
   have d2:wr.cell? ⟨b,off+k*2+1,none⟩=some (.int .i64 p2):=(hBr.out.cell (p:=⟨b,off+k*2+1,none⟩) hbl).trans e2
   have hmem:=hsub.out _ (List.mem_of_getElem? hxk)
   rw [hkeys.out] at hmem
   obtain⟨⟨f1,f2⟩,hlk,hmf⟩:=Kh hmem
   obtain⟨j,x,hf,s,s',hxx,hv1,hv2⟩:=hkv.out.some 0 hlk
   obtain⟨ax1,nx1,cx1,ax2,nx2,cx2,ax3,nx3,cx3,rfl⟩:=hv1.sl
   obtain⟨ay1,ny1,cy1,ay2,ny2,cy2,ay3,ny3,cy3,rfl⟩:=hv2.sl
   have hBw:Below w.heap.size w wr:=hB2.out.trans (hBr.out.mono hB2.out.size)
   have L:=fun (W:World) (hb:Below w.heap.size w W)=>place_lookup1 underlying75 _ M8 (hm.out.below hb) (p1,p2)
   rw [hf,hxx] at L
   simp only [Option.map_some,Option.getD_some] at L
   dsimp only [An,Ab,List.cons_append,List.nil_append] at L
   have hone:=hid (pairCells_one (x:=((f1,f2),(⟨.slice ax1 nx1 cx1,.slice ax2 nx2 cx2,.slice ax3 nx3 cx3⟩,⟨.slice ay1 ny1 cy1,.slice ay2 ny2 cy2,.slice ay3 ny3 cy3⟩))) hv1 hv2)
   have hv1:=hid hv1
   have hv2:=hid hv2
   have hmf:=hid hmf
   obtain⟨av,cv,rfl,hcv⟩:=hO.out.form
   have SS:=hid fun (W':World) (hb:Below w.heap.size w W') (hq:W'.heap[wr.heap.size]?=some (.cells #[.int .i64 p1,.int .i64 p2] 94 (0,0))) =>
    (⟨(hb.cell (p:=⟨c,o,none⟩) gI).trans hc,Aa hq 0,Aa hq 1,L W' hb⟩:W'.cell? ⟨c,o,none⟩=some (.map (some r))∧W'.cell? ⟨wr.heap.size,0,none⟩=some (.int .i64 p1)∧W'.cell? ⟨wr.heap.size,1,none⟩=some (.int .i64 p2)∧(Instr.lookup 75 (.map (some r)) (.agg #[.int .i64 p1,.int .i64 p2]) false).run prog W'=.ok (.agg #[.int .i64 f1.authority,.int .i64 f1.number,.int .i64 f1.pos,.string ⟨f1.prev.toArray⟩,.slice ax1 nx1 cx1,.int .i64 f1.sel.index,.slice ax2 nx2 cx2,.slice ax3 nx3 cx3,.int .i64 f2.authority,.int .i64 f2.number,.int .i64 f2.pos,.string ⟨f2.prev.toArray⟩,.slice ay1 ny1 cy1,.int .i64 f2.sel.index,.slice ay2 ny2 cy2,.slice ay3 ny3 cy3]) W')
   clear L hx hxx hf hlk hmem hxk e1 e2
   go_wp2_with fail
   obtain⟨W4,hW4⟩:∃ W4,wr.alloc (.cells #[.int .i64 p1,.int .i64 p2] 94)=W4:=⟨_,rfl⟩
   have hb4:Below wr.heap.size wr W4:=by rw [← hW4];exact (Below.refl _ wr).alloc nR _
   have hq4:W4.heap[wr.heap.size]?=some (.cells #[.int .i64 p1,.int .i64 p2] 94 (0,0)):=by rw [← hW4];exact heap_alloc_last wr _
   rw [hW4]
   clear hW4 d1 d2
   have hql:wr.heap.size<W4.heap.size:=(aZ hq4)
   have hBd:Below wr.heap.size wr W4.drew:=hb4.drew
   have hBa:∀ ob,Below wr.heap.size wr (W4.drew.alloc ob):=fun ob=>hBd.alloc hBd.size ob
   have hqa:∀ ob,(W4.drew.alloc ob).heap[wr.heap.size]?=some (.cells #[.int .i64 p1,.int .i64 p2] 94 (0,0)):=fun ob=>(Below.heap_alloc W4.drew ob _ hql).trans hq4
   have hBw4:∀ {W':World},Below wr.heap.size wr W'→Below w.heap.size w W':=fun h=>hBw.trans (h.mono hBw.size)
   have hBw:=hid hBw
   obtain⟨xs,hx1,hx2,hx3,hx4,hx5⟩:=hO.out
   have hx3:=hid hx3
   have hrow:∀ ob,(W4.drew.alloc ob).ownsRow w2.heap.size 97 16 (.slice av k cv) k (xs.flatMap Iu):=fun ob=>Cp hx2 (hBa ob)
   have hgb:∀ g,(Value.slice av k cv).ownBlock=some g→w2.heap.size≤g∧g<wr.heap.size:=fun g e=>by
    rcases hx2.2 with⟨e0,_⟩|⟨g',cap,cur,e0,h1,h2,_⟩
    ·rw [e0] at e;cases e
    ·rw [e0] at e
     simp only [Value.ownBlock,Option.some.injEq] at e
     subst e
     exact⟨h1,(aZ h2)⟩
   have hgb:=hid hgb
   clear hx2 hO
   have hx1:=hid hx1
   refine wp_region_noPanic ?_
   refine wp_region_held_drew (S:=fun W'=>W'.cell? ⟨c,o,none⟩=some (.map (some r))∧W'.cell? ⟨wr.heap.size,0,none⟩=some (.int .i64 p1)∧W'.cell? ⟨wr.heap.size,1,none⟩=some (.int .i64 p2)∧(Instr.lookup 75 (.map (some r)) (.agg #[.int .i64 p1,.int .i64 p2]) false).run prog W'=.ok (.agg #[.int .i64 f1.authority,.int .i64 f1.number,.int .i64 f1.pos,.string ⟨f1.prev.toArray⟩,.slice ax1 nx1 cx1,.int .i64 f1.sel.index,.slice ax2 nx2 cx2,.slice ax3 nx3 cx3,.int .i64 f2.authority,.int .i64 f2.number,.int .i64 f2.pos,.string ⟨f2.prev.toArray⟩,.slice ay1 ny1 cy1,.int .i64 f2.sel.index,.slice ay2 ny2 cy2,.slice ay3 ny3 cy3]) W') (by kernel_rfl) (SS.out _ (hBw4 hBd) hq4) (fun hHeld=>?_)
   refine tk 0 (v:=.slice av k cv) rfl (by rfl) hHeld ?_ ?_
   ·intro W hSw
    (try dsimp only at hSw)
    go_simp
   (try simp only [Act.put,pA,pB,pC])
   refine tk 1 (v:=.pointer (some ⟨c,o,none⟩)) rfl (by rfl) hHeld ?_ ?_
   ·intro W hSw
    (try dsimp only at hSw)
    go_simp
   (try simp only [Act.put,pA,pB,pC])
   refine tk 2 (v:=.pointer (some ⟨c,o,none⟩)) rfl (by rfl) hHeld ?_ ?_
   ·intro W hSw
    (try dsimp only at hSw)
    go_simp
   (try simp only [Act.put,pA,pB,pC])
   refine tk 3 (v:=.pointer (some ⟨c,o,none⟩)) rfl (by rfl) hHeld ?_ ?_
   ·intro W hSw
    (try dsimp only at hSw)
    go_simp
   (try simp only [Act.put,pA,pB,pC])
   refine tk 4 (v:=.map (some r)) rfl (by rfl) hHeld ?_ ?_
   ·intro W hSw
    (try dsimp only at hSw)
    go_simp
   (try simp only [Act.put,pA,pB,pC])
   refine tk 5 (v:=.agg #[.int .i64 p1,.int .i64 p2]) rfl (by rfl) hHeld ?_ ?_
   ·intro W hSw
    (try dsimp only at hSw)
    go_simp
   (try simp only [Act.put,pA,pB,pC])
   refine tk 6 (v:=.agg #[.int .i64 f1.authority,.int .i64 f1.number,.int .i64 f1.pos,.string ⟨f1.prev.toArray⟩,.slice ax1 nx1 cx1,.int .i64 f1.sel.index,.slice ax2 nx2 cx2,.slice ax3 nx3 cx3,.int .i64 f2.authority,.int .i64 f2.number,.int .i64 f2.pos,.string ⟨f2.prev.toArray⟩,.slice ay1 ny1 cy1,.int .i64 f2.sel.index,.slice ay2 ny2 cy2,.slice ay3 ny3 cy3]) rfl (by rfl) hHeld ?_ ?_
   ·intro W hSw
    (try dsimp only at hSw)
    go_simp
   (try simp only [Act.put,pA,pB,pC])
   refine rk 7 rfl (fun K hK=>?_)
   go_simp
   refine hK.out _ _ (SS.out _ (hBw4 (hBa _)) (hqa _)) (fun hHeld=>?_)
   clear hK K
   (try simp only [Act.put,pA,pB,pC])
   refine rk 8 rfl (fun K hK=>?_)
   rw [if_pos (by rfl)]
   refine append_pair_op _ _ rfl w2.heap.size (.slice av k cv) k (xs.flatMap Iu) rfl (hrow _) W4.heap.size 1 [.int .i64 f1.authority,.int .i64 f1.number,.int .i64 f1.pos,.string ⟨f1.prev.toArray⟩,.slice ax1 nx1 cx1,.int .i64 f1.sel.index,.slice ax2 nx2 cx2,.slice ax3 nx3 cx3,.int .i64 f2.authority,.int .i64 f2.number,.int .i64 f2.pos,.string ⟨f2.prev.toArray⟩,.slice ay1 ny1 cy1,.int .i64 f2.sel.index,.slice ay2 ny2 cy2,.slice ay3 ny3 cy3] rfl (Br W4.drew _ _) rfl hone.out (by omega) (by have:=hBr.out.size;have:=hb4.size;simp;omega) ?_
   intro v5 w5 hO5 hg5
   have hB5:Below w2.heap.size wr w5:=((hBa _).mono hBr.out.size).grown hg5 (by have:=hBr.out.size;have:=hb4.size;simp;omega) (fun g e=>(hgb.out g e).1)
   have hq5:w5.heap[wr.heap.size]?=some (.cells #[.int .i64 p1,.int .i64 p2] 94 (0,0)):=(hg5.block _ (by simp;omega) (fun e=>by have:=(hgb.out _ e.symm).2;omega)).trans (hqa _)
   have hBw5:Below w.heap.size w w5:=hBw.out.trans (hB5.mono hB2.out.size)
   have hOn:Dg w2.heap.size w.heap.size w5 v5 forks (k+1):=by
    refine⟨xs++[((f1,f2),(⟨.slice ax1 nx1 cx1,.slice ax2 nx2 cx2,.slice ax3 nx3 cx3⟩,⟨.slice ay1 ny1 cy1,.slice ay2 ny2 cy2,.slice ay3 ny3 cy3⟩))],by rw [List.length_append,hx1.out];rfl,?_,fun y hy=>?_,hx4,nT hBr.out.size hB5.size⟩
    ·rw [List.flatMap_append]
     exact hO5
    ·have hBx:Below w.heap.size wr w5:=hB5.mono hB2.out.size
     rcases List.mem_append.1 hy with h|h
     ·obtain⟨a1,a2,a3⟩:=hx3.out y h
      exact⟨a1.below hBx nR,a2.below hBx nR,a3⟩
     ·rw [List.mem_singleton] at h
      subst h
      exact⟨hv1.out.below hBw5 nR,hv2.out.below hBw5 nR,_,hmf.out⟩
   have hOn:=hid hOn
   obtain⟨a5,c5,rfl,hc5⟩:=hOn.out.form
   refine hK.out _ _ (SS.out _ hBw5 hq5) (fun hHeld=>?_)
   clear hK K
   (try simp only [Act.put,pA,pB,pC])
   refine tk 9 (v:=.slice a5 (k+1) c5) rfl (by rfl) hHeld ?_ ?_
   ·intro W hSw
    (try dsimp only at hSw)
    go_simp
   (try simp only [Act.put,pA,pB,pC])
   refine wpAnyH_done (by kernel_rfl) (NoPanic.normal ?_) _
   have hBr5:=hid (hBr.out.trans hB5)
   clear hHeld SS hrow hqa hBa hBw4 hB5 hBw5 hO5 hg5 hq5
   go_wp2
   go_roundw
   case rel=>exact⟨k+1,by omega,by go_num,hOn,hBr5⟩
   case measure=>simp [RowKit.intOf];omega
  ·obtain rfl:k=N:=by omega
   obtain⟨av,cv,rfl,hcv⟩:=hO.out.form
   go_wp2
   go_ret
   exact⟨_,w2.heap.size,rfl,hB2.out.size,by rw [hNN.out];exact hO.out,hB2.out.trans (hBr.out.mono hB2.out.size)⟩
theorem forks_any (c r1 r2:Nat) (keys:List (List UInt8)) (known:CH.Known) (forks:CH.Forks) (w:World) (hC:aU w c r1 r2 keys known forks) (hnd:(forks.map (·.1)).Nodup) (hN:forks.length≤12) :
  Calls prog 17 #[.pointer (some ⟨c,0,none⟩)] w (ForksRet w forks):=by
 obtain⟨vk,hb0,_⟩:=hC.ex
 obtain⟨kvs,hm,hkv⟩:=hC.forks
 have S:=hid (Lb c 2 r2 kvs forks w (Aa hb0 2) hm hkv hnd hN)
 obtain⟨N,hNN⟩:∃ N,Hid (forks.length=N):=⟨_,hid rfl⟩
 clear hb0 hm hkv hC
 go_enter func17,ntmps17
 go_wp2_with fail
 refine S.out.mono ?_
 rintro e w1 ⟨v,base,rfl,hbb,hO,hb⟩
 obtain⟨a,cc,rfl,hcv⟩:=hO.form
 rw [hNN.out] at hO ⊢
 have hO:=hid hO
 clear S
 go_wp2
 go_ret
 exact⟨_,base,rfl,hbb,by rw [hNN.out];exact hO.out,hb⟩
def sliceLenV:Value→Nat
 | .slice _ n _=>n
 | _=>0
def Lk (w:World) (B:Nat) (r:List CH.Version × List UInt8) (e:Ending) (w':World):Prop :=
 ∃ v,e=.returned (.tuple #[v,.string ⟨r.2.toArray⟩])∧Bc w.heap.size B w' v r.1∧Below w.heap.size w w'
theorem verZeroF (w:World):(zeroValue 30).run prog w=.ok (.agg #[.int .i64 0,.int .i64 0,.int .i64 0,.string ⟨#[]⟩,.slice none 0 0,.int .i64 0,.slice none 0 0,.slice none 0 0]) w:=by kernel_rfl
theorem alloc2_fstF (w:World) (o1 o2:Obj):((w.alloc o1).alloc o2).heap[w.heap.size]?=some o1 :=
 (((Below.refl _ (w.alloc o1)).alloc nR o2).block w.heap.size (by simp)).trans (heap_alloc_last w o1)
theorem Fy {w w':World} {row:Option Nat} {C:Nat} (h:w.grownBy w' row) (hC:C≤w.heap.size) (hr:∀ j,row=some j→C≤j):Below C w w' :=
 ⟨h.os,h.tape,h.output,h.size,fun k hk=>h.block k (by omega) (fun e=>by have:=hr k e.symm;omega)⟩
theorem Hp (xs:List (CH.Version × bF)) (v:CH.Version) (s:bF):A9 (xs++[(v,s)])=A9 xs++Ab v s:=by
 unfold A9
 rw [List.flatMap_append]
 simp
theorem Bc.form {base B:Nat} {w:World} {v:Value} {ls:List CH.Version} (h:Bc base B w v ls):∃ av cv,v=.slice av ls.length cv∧ls.length≤cv:=by
 obtain⟨xs,hx1,hx2,hx3,hx4,hx5⟩:=h
 obtain⟨hlen,⟨rfl,h0⟩|⟨g,cap,cur,rfl,hb,hg,hn,hc,hsz,htk⟩⟩:=hx2
 ·exact⟨none,0,by rw [h0],by omega⟩
 ·exact⟨_,cap,rfl,hn⟩
theorem follow_stop (known:List ((Int × Int) × CH.Version)) (a:Int) (f:Nat) (out:List CH.Version) (hd:List UInt8) (last:Int) (h:CH.aX (a,(out.length:Int)+1) known=none):CH.follow CH.msg known a f out hd last=(out,hd):=by
 cases f with
 | zero=>rfl
 | succ f=>rw [CH.follow,h]
theorem follow_any (c r1 B:Nat) (known:List ((Int × Int) × CH.Version)) (kvs:List ((Int × Int) × Value)) (a:Int) (w:World) (hG:Gc w) (hc1:w.cell? ⟨c,1,none⟩=some (.map (some r1))) (hm0:A8 An r1 w kvs) (hkv0:KVs B w kvs known) (hBw:B≤w.heap.size) (hn:∀ p v,(p,v)∈known→p.2≤200) :
  Calls prog 21 #[.pointer (some ⟨c,0,none⟩),.int .i64 a] w (Lk w B (CH.fol CH.msg known a)):=by
 obtain⟨R,hR⟩:∃ R,Hid (CH.fol CH.msg known a=R):=⟨_,hid rfl⟩
 rw [hR.out]
 have gI:c<w.heap.size:=World.block_lt_of_cell? w _ hc1
 replace hc1:=hid hc1
 replace hm0:=hid hm0
 replace hkv0:=hid hkv0
 replace hn:=hid hn
 go_enter func21,ntmps21
 go_wp2_with fail
 go_loopw [6,7,8] (fun ov hv lv wr=>∃ (out:List CH.Version) (hd:List UInt8) (last:Int) (f:Nat),Hid (Bc w.heap.size B wr ov out)∧hv=.string ⟨hd.toArray⟩∧lv=.int .i64 last∧Hid (Below w.heap.size w wr)∧f+out.length=201∧Hid (CH.follow CH.msg known a f out hd last=R)) (fun ov _ _ _=>201 - sliceLenV ov)
 case atStart=>exact⟨[],[],0,201,hid (Bc.nil hBw nR),rfl,rfl,hid (Below.refl _ _),rfl,hR⟩
 case round =>
  obtain⟨out,hd,last,f,hO,rfl,rfl,hB,hf,hI⟩:=hrel
  obtain⟨av,cv,rfl,hcv⟩:=hO.out.form
  have hm:=hm0.out.below hB.out
  have hkv:=hkv0.out
  have c1:wr.cell? ⟨c,1,none⟩=some (.map (some r1)):=(hB.out.cell (p:=⟨c,1,none⟩) gI).trans hc1.out
  have L:=D8 underlying72 _ verZeroF hm (a,(out.length:Int)+1)
  have hn201:out.length≤201:=by omega
  cases hlk:CH.aX (a,(out.length:Int)+1) known with
  | none =>
   have hRR:(out,hd)=R:=(follow_stop known a f out hd last hlk).symm.trans hI.out
   rw [hkv.none 0 hlk] at L
   simp only [Option.map_none,Option.getD_none,Option.isSome_none] at L
   subst hRR
   clear hI hkv hm
   generalize hN:out.length=n at *
   replace hN:=hid hN
   dsimp only [An] at L
   clear hR
   go_wp2_with fail
   refine bodyPost_ret (results_tmp2 rfl _ _ _) rfl ?_
   exact⟨_,rfl,hO.out.below ((Below.refl _ wr).alloc nR _),hB.out.alloc hB.out.size _⟩
  | some v =>
   obtain⟨j,s,hfk,hvs⟩:=hkv.some 0 hlk
   rw [hfk] at L
   simp only [Option.map_some,Option.getD_some,Option.isSome_some] at L
   have h200:=hn.out _ _ (CH.lookK_mem hlk)
   dsimp only at h200
   obtain⟨f,rfl⟩:∃ f',f=f'+1:=⟨f - 1,by omega⟩
   have hI1:=hI.out
   rw [CH.follow,hlk] at hI1
   dsimp only at hI1
   have hB2:=hB.out
   have hBp:Below B w wr:=hB2.mono hBw
   obtain⟨jj,s',hfk',hvs'⟩:=hkv0.out.some 0 hlk
   have hss:s'=s∧aK B w v s:=by
    rw [hfk'] at hfk
    simp only [Option.some.injEq,Prod.mk.injEq,Value.agg.injEq] at hfk
    have:=congrArg Array.toList hfk.2
    simp only [Ab] at this
    obtain⟨x1,x2,x3⟩:=s
    obtain⟨y1,y2,y3⟩:=s'
    simp at this
    obtain⟨e1,e2,e3⟩:=this
    subst e1 e2 e3
    exact⟨rfl,hvs'⟩
   have hvs:=hss.2
   clear hss hvs' hfk'
   have HV:=hid fun (W:World) (hb:Below w.heap.size w W)=>hvs.below hb hBw
   have M:=fun (W:World) (hb:Below w.heap.size w W)=>Gd v s W (hG.below hb) ((HV.out W hb).mono (nT hBw hb.size))
   simp only [resV_msg] at M
   generalize errInt (CH.message v)=me at M
   have hone:=hid (Cv hvs)
   obtain⟨va,v1,v2⟩:=s
   obtain⟨xa,ya,e1,_,_⟩:=hvs.acts.form
   obtain⟨x1,y1,e2,_,_⟩:=hvs.sig.form
   obtain⟨x2,y2,e3,_,_⟩:=hvs.path.form
   change va=_ at e1
   change v1=_ at e2
   change v2=_ at e3
   subst e1 e2 e3
   clear hvs hkv hfk hI hR hm
   have eb:((⟨v.prev.toArray⟩:ByteArray)==⟨hd.toArray⟩)=(v.prev==hd):=Cw _ _
   obtain⟨b1,hb1⟩:∃ b,(v.prev==hd)=b:=⟨_,rfl⟩
   obtain⟨b2,hb2⟩:∃ b,decide (v.pos<last)=b:=⟨_,rfl⟩
   have ebn:(v.prev != hd)=!b1:=by rw [← hb1];rfl
   rw [ebn,hb2] at hI1
   rw [hb1] at eb
   replace hI1:=hid hI1
   replace hlk:=hid hlk
   clear ebn
   dsimp only [Ab,An] at L M
   replace M:=hid M
   generalize hN:out.length=n at *
   replace hN:=hid hN
   generalize v.acts.length=n0 at *
   generalize v.sel.sig.length=n1 at *
   generalize v.sel.path.length=n2 at *
   rcases (by cases b1 <;> cases b2 <;> simp:(b1=false)∨(b1=true∧b2=true)∨(b1=true∧b2=false)) with rfl|⟨rfl,rfl⟩|⟨rfl,rfl⟩
   ·have hRR:(out,hd)=R:=by rw [← hI1.out];rfl
    subst hRR
    go_wp2_with fail
    refine bodyPost_ret (results_tmp2 rfl _ _ _) rfl ?_
    exact⟨_,rfl,hO.out.below ((Below.refl _ wr).alloc nR _),hB.out.alloc hB.out.size _⟩
   ·have hRR:(out,hd)=R:=by rw [← hI1.out];rfl
    subst hRR
    go_wp2_with fail
    refine bodyPost_ret (results_tmp2 rfl _ _ _) rfl ?_
    exact⟨_,rfl,hO.out.below ((Below.refl _ wr).alloc nR _),hB.out.alloc hB.out.size _⟩
   ·have hI2:Hid (CH.follow CH.msg known a f (out++[v]) (CH.msg v) v.pos=R):=hid (by rw [← hI1.out];rfl)
    clear hI1
    obtain⟨xs,hx1,hx2,hx3,hx4,hx5⟩:=hO.out
    rw [hN.out] at hx2
    have hW2:∀ o1 o2,((wr.alloc o1).alloc o2).ownsRow w.heap.size 30 8 (.slice av n cv) n (A9 xs):=fun o1 o2=>World.ownsRow.alloc (World.ownsRow.alloc hx2 o1) o2
    have hsz:=hB2.size
    have hx3:=hid hx3
    have hx1:=hid hx1
    have hob:∀ j,(Value.slice av n cv).ownBlock=some j→w.heap.size≤j:=by
     obtain⟨_,⟨e,_⟩|⟨g,cap,cur,e,hb,_⟩⟩:=hx2
     ·rw [e];intro j hj;cases hj
     ·rw [e];intro j hj;simp [Value.ownBlock] at hj;omega
    have hob2:∀ j,(Value.slice av n cv).ownBlock=some j→j<wr.heap.size:=by
     obtain⟨_,⟨e,_⟩|⟨g,cap,cur,e,_,hg,_⟩⟩:=hx2
     ·rw [e];intro j hj;cases hj
     ·rw [e];intro j hj
      simp [Value.ownBlock] at hj
      subst hj
      exact (aZ hg)
    have hob:=hid hob
    have hob2:=hid hob2
    have hW2:=hid hW2
    clear hx2
    go_wp2_with (at_builtin;refine Ii rfl _ _ rfl w.heap.size _ n (A9 xs) rfl (hW2.out _ _) _ 1 [.int .i64 v.authority,.int .i64 v.number,.int .i64 v.pos,.string ⟨v.prev.toArray⟩,.slice xa n0 ya,.int .i64 v.sel.index,.slice x1 n1 y1,.slice x2 n2 y2] rfl (.inl ⟨⟨wr.heap.size+1,0,none⟩,1,rfl,?c1⟩) rfl ?c2 ?c3 ?c4 ?_)
    case c1 =>
     intro j u hj
     rw [Go.WideShapes.add_plain]
     have:=Br (wr.alloc (.cells #[.int .i64 v.authority,.int .i64 v.number,.int .i64 v.pos,.string ⟨v.prev.toArray⟩,.slice xa n0 ya,.int .i64 v.sel.index,.slice x1 n1 y1,.slice x2 n2 y2] 30)) [.int .i64 v.authority,.int .i64 v.number,.int .i64 v.pos,.string ⟨v.prev.toArray⟩,.slice xa n0 ya,.int .i64 v.sel.index,.slice x1 n1 y1,.slice x2 n2 y2] 30 j u hj
     rwa [World.size_alloc] at this
    case c2=>exact hone.out
    case c3=>omega
    case c4=>simp;omega
    ·intro v' w' g1 g2 g3
     have hBa:Below w.heap.size w ((wr.alloc (.cells #[.int .i64 v.authority,.int .i64 v.number,.int .i64 v.pos,.string ⟨v.prev.toArray⟩,.slice xa n0 ya,.int .i64 v.sel.index,.slice x1 n1 y1,.slice x2 n2 y2] 30)).alloc (.cells #[.int .i64 v.authority,.int .i64 v.number,.int .i64 v.pos,.string ⟨v.prev.toArray⟩,.slice xa n0 ya,.int .i64 v.sel.index,.slice x1 n1 y1,.slice x2 n2 y2] 30)):=(hB2.alloc hB2.size _).alloc (by simp;omega) _
     have hbl:=alloc2_fstF wr (.cells #[.int .i64 v.authority,.int .i64 v.number,.int .i64 v.pos,.string ⟨v.prev.toArray⟩,.slice xa n0 ya,.int .i64 v.sel.index,.slice x1 n1 y1,.slice x2 n2 y2] 30) (.cells #[.int .i64 v.authority,.int .i64 v.number,.int .i64 v.pos,.string ⟨v.prev.toArray⟩,.slice xa n0 ya,.int .i64 v.sel.index,.slice x1 n1 y1,.slice x2 n2 y2] 30)
     have hgb:Below w.heap.size ((wr.alloc (.cells #[.int .i64 v.authority,.int .i64 v.number,.int .i64 v.pos,.string ⟨v.prev.toArray⟩,.slice xa n0 ya,.int .i64 v.sel.index,.slice x1 n1 y1,.slice x2 n2 y2] 30)).alloc (.cells #[.int .i64 v.authority,.int .i64 v.number,.int .i64 v.pos,.string ⟨v.prev.toArray⟩,.slice xa n0 ya,.int .i64 v.sel.index,.slice x1 n1 y1,.slice x2 n2 y2] 30)) w':=Fy g2 hBa.size (hob.out)
     have hB3:Below w.heap.size w w':=hBa.trans hgb
     have fB:=(g2.block wr.heap.size (by simp;omega) (fun e=>by have:=hob2.out _ e.symm;omega)).trans hbl
     have hV3:=hid (HV.out w' hB3)
     have hlt3:wr.heap.size<w'.heap.size:=(aZ fB)
     have hO3:Bc w.heap.size B w' v' (out++[v]):=by
      refine⟨xs++[(v,⟨.slice xa n0 ya,.slice x1 n1 y1,.slice x2 n2 y2⟩)],by rw [List.map_append,hx1.out];rfl,?_,?_,hx4,hB3.size⟩
      ·rw [List.length_append,hN.out,List.length_singleton]
       rw [Hp]
       exact g1
      ·intro x hx
       rcases List.mem_append.1 hx with h|h
       ·have q:=hx3.out x h
        exact q.below ((((Below.refl B wr).alloc (nT hBw hsz) _).alloc (by simp;omega) _).trans (hgb.mono hBw)) nR
       ·cases List.mem_singleton.1 h
        exact hV3.out
     obtain⟨a',c',rfl,_⟩:=hO3.form
     have hlen3:(out++[v]).length=n+1:=by rw [List.length_append,hN.out];rfl
     rw [hlen3]
     have k0:w'.cell? ⟨wr.heap.size,0,none⟩=some (.int .i64 v.authority):=Aa fB 0
     have k1:w'.cell? ⟨wr.heap.size,1,none⟩=some (.int .i64 v.number):=Aa fB 1
     have k2:w'.cell? ⟨wr.heap.size,2,none⟩=some (.int .i64 v.pos):=Aa fB 2
     have k3:w'.cell? ⟨wr.heap.size,3,none⟩=some (.string ⟨v.prev.toArray⟩):=Aa fB 3
     have k4:w'.cell? ⟨wr.heap.size,4,none⟩=some (.slice xa n0 ya):=Aa fB 4
     have k5:w'.cell? ⟨wr.heap.size,5,none⟩=some (.int .i64 v.sel.index):=Aa fB 5
     have k6:w'.cell? ⟨wr.heap.size,6,none⟩=some (.slice x1 n1 y1):=Aa fB 6
     have k7:w'.cell? ⟨wr.heap.size,7,none⟩=some (.slice x2 n2 y2):=Aa fB 7
     have hO3:=hid hO3
     have hlen3:=hid hlen3
     clear hgb hBa g1 g2 g3 hbl fB hW2 hone
     go_wp2_with fail
     refine (M.out w' hB3).mono ?_
     rintro e w4 ⟨rfl,hb4⟩
     have hB4:Hid (Below w.heap.size w w4):=hid (hB3.trans (hb4.mono hB3.size))
     have hO4:Hid (Bc w.heap.size B w4 (.slice a' (n+1) c') (out++[v])):=hid (by have:=hO3.out.below hb4;rwa [hlen3.out] at this)
     clear k0 k1 k2 k3 k4 k5 k6 k7 hb4 hO3
     go_wp2
     go_roundw
     case rel=>exact⟨out++[v],CH.msg v,v.pos,f,hO4,rfl,rfl,hB4,by have:=hlen3.out;omega,hI2⟩
     case measure=>simp [sliceLenV];omega
def Ints (B:Nat) (w:World) (v:Value) (ls:List Int):Prop :=
 ∃ a cap,v=.slice a ls.length cap∧ls.length≤cap∧cap≤9223372036854775807 ∧
  (ls≠[]→∃ b off,a=some ⟨b,off,none⟩∧b<B∧∀ j n,ls[j]?=some n→w.cell? ⟨b,off+j,none⟩=some (aJ n))
theorem Ints.below {B B':Nat} {w w':World} {v:Value} {ls:List Int} (h:Ints B w v ls) (hb:Below B' w w') (hB:B≤B'):Ints B w' v ls:=by
 obtain⟨a,cap,hv,h1,h2,h3⟩:=h
 refine⟨a,cap,hv,h1,h2,fun hne=>?_⟩
 obtain⟨b,off,ha,hlt,hc⟩:=h3 hne
 exact⟨b,off,ha,hlt,fun j l hj=>(hb.cell (p:=⟨b,off+j,none⟩) (nL hlt hB)).trans (hc j l hj)⟩
theorem Ints.mono {B B':Nat} {w:World} {v:Value} {ls:List Int} (h:Ints B w v ls) (hB:B≤B'):Ints B' w v ls:=by
 obtain⟨a,cap,hv,h1,h2,h3⟩:=h
 refine⟨a,cap,hv,h1,h2,fun hne=>?_⟩
 obtain⟨b,off,ha,hlt,hc⟩:=h3 hne
 exact⟨b,off,ha,nL hlt hB,hc⟩
end
end Go.Proofs.YtjaeapaeaiiieaaGreatDoor
namespace CH
def counts (msg:Version→Str) (known:Known) (n:Nat):List Int:=(List.range n).map fun (a:Nat)=>(((fol msg known (a:Int)).1.length:Nat):Int)
end CH
namespace Go.Proofs.YtjaeapaeaiiieaaGreatDoor
open Go.RowKit Go.Lib Go.Shelf Go.Sort
theorem counts_len (msg:CH.Version→List UInt8) (known:CH.Known) (n:Nat):(CH.counts msg known n).length=n:=by simp [CH.counts]
theorem Ku (c r1 r2:Nat) (keys:List (List UInt8)) (known:CH.Known) (forks:CH.Forks) (a:Int) (w:World) (hG:Gc w) (hC:aU w c r1 r2 keys known forks) (hn:∀ p v,(p,v)∈known→p.2≤200) :
  Calls Tryz.prog 21 #[.pointer (some ⟨c,0,none⟩),.int .i64 a] w (Lk w w.heap.size (CH.fol CH.msg known a)):=by
 obtain⟨vk,h1,_⟩:=hC.ex
 obtain⟨kvs,h2,h3⟩:=hC.known
 exact follow_any c r1 w.heap.size known kvs a w hG (Aa h1 1) h2 h3 (Nat.le_refl _) hn
theorem head_any (c r1 r2:Nat) (keys:List (List UInt8)) (known:CH.Known) (forks:CH.Forks) (a:Int) (w:World) (hG:Gc w) (hC:aU w c r1 r2 keys known forks) (hn:∀ p v,(p,v)∈known→p.2≤200) :
  Calls Tryz.prog 7 #[.pointer (some ⟨c,0,none⟩),.int .i64 a] w (Ret w (.tuple #[.int .i64 ((CH.fol CH.msg known a).1.length:Nat),.string ⟨(CH.fol CH.msg known a).2.toArray⟩])):=by
 have F:=Ku c r1 r2 keys known forks a w hG hC hn
 obtain⟨R,hR⟩:∃ R,CH.fol CH.msg known a=R:=⟨_,rfl⟩
 rw [hR] at F ⊢
 have F:=hid F
 clear hR hC hG hn
 go_enter Tryz.func7,Tryz.ntmps7
 go_wp2_with fail
 refine F.out.mono ?_
 rintro e w1 ⟨v,rfl,hO,hb1⟩
 obtain⟨av,cv,rfl,_⟩:=hO.form
 clear F hO
 generalize R.1.length=n at *
 go_wp2
 refine bodyPost_ret (results_tmp2 rfl _ _ _) rfl ?_
 exact⟨rfl,hb1⟩
def IntsRet (w:World) (ls:List Int) (e:Ending) (w':World):Prop:=∃ v,e=.returned v∧Ints w'.heap.size w' v ls∧Below w.heap.size w w'
theorem intInfo:(Tryz.prog.info? 3).map (fun i=>(i.zero,i.size,i.bytes))=some (some (.int .i64 0),1,8):=by kernel_rfl
def rowK (cs:List Int) (N k:Nat):Array Value:=((cs.take k++List.replicate (N - k) 0).map aJ).toArray
theorem rowK_set (cs:List Int) (N k:Nat) (x:Int) (hN:cs.length=N) (hk:k<N) (hx:cs[k]?=some x):(rowK cs N k).setIfInBounds k (.int .i64 x)=rowK cs N (k+1):=by
 have h1:(cs.take k).length=k:=by rw [List.length_take];omega
 have h2:List.replicate (N - k) (0:Int)=0::List.replicate (N - (k+1)) 0:=by rw [← List.replicate_succ];congr 1;omega
 unfold rowK
 rw [h2,List.take_add_one,hx,List.setIfInBounds_toArray]
 congr 1
 rw [List.map_append,List.map_cons,List.set_append_right _ _ (by rw [List.length_map,h1];exact Nat.le_refl _),List.length_map,h1,Nat.sub_self]
 simp
theorem rowK_at (cs:List Int) (N k:Nat) (hN:cs.length=N) (hk:k<N):(rowK cs N k)[k]?=some (.int .i64 0):=by
 have h1:(cs.take k).length=k:=by rw [List.length_take];omega
 unfold rowK
 rw [List.getElem?_toArray,List.map_append,List.getElem?_append_right (by rw [List.length_map,h1];exact Nat.le_refl _),List.length_map,h1,Nat.sub_self]
 have:N - k=(N - k - 1)+1:=by omega
 rw [this,List.replicate_succ]
 rfl
theorem rowK_done (cs:List Int) (N:Nat) (hN:cs.length=N):rowK cs N N=(cs.map aJ).toArray:=by
 unfold rowK
 rw [List.take_of_length_le (by omega),Nat.sub_self]
 simp
theorem vector_any (c r1 r2:Nat) (keys:List (List UInt8)) (known:CH.Known) (forks:CH.Forks) (w:World) (hG:Gc w) (hC:aU w c r1 r2 keys known forks) (hn:∀ p v,(p,v)∈known→p.2≤200) (hkl:keys.length≤1000) :
  Calls Tryz.prog 37 #[.pointer (some ⟨c,0,none⟩)] w (IntsRet w (CH.counts CH.msg known keys.length)):=by
 have HF:=hid fun (W:World) (hb:Below w.heap.size w W) (k:Nat)=>Ku c r1 r2 keys known forks (k:Int) W (hG.below hb) (hC.below hb) hn
 obtain⟨vk,fE,hks⟩:=hC.ex
 obtain⟨ak,ck,rfl,_,_⟩:=hks.form
 have gI:c<w.heap.size:=(Array.getElem?_eq_some_iff.1 fE).1
 have kc:w.cell? ⟨c,0,none⟩=some (.slice ak keys.length ck):=Aa fE 0
 have hcl:=counts_len CH.msg known keys.length
 have hat:∀ k,k<keys.length→(CH.counts CH.msg known keys.length)[k]?=some (((CH.fol CH.msg known (k:Int)).1.length:Nat):Int):=fun k hk=>by
  unfold CH.counts
  rw [List.getElem?_map,List.getElem?_range hk]
  rfl
 generalize CH.counts CH.msg known keys.length=cs at *
 clear fE hks hC hn hG
 generalize keys.length=N at *
 have hat:=hid hat
 have hcl:=hid hcl
 have hmk:=fun W=>run_make_row' (P:=Tryz.prog) 100 3 (.int .i64 0) 8 Tryz.underlying100 intInfo rfl .i64 .i64 N (by omega) (by omega) W
 go_enter Tryz.func37,Tryz.ntmps37
 go_wp2_with fail
 have hrow0:(w.alloc (.cells (madeCells #[.int .i64 0] N) 3)).heap[w.heap.size]?=some (.cells (rowK cs N 0) 3 (0,0)):=by
  rw [heap_alloc_last w _]
  congr 2
  unfold rowK
  apply Array.ext'
  rw [List.take_zero,List.nil_append,Nat.sub_zero,List.map_replicate]
  apply List.ext_getElem?
  intro i
  by_cases hi:i<N
  ·simp [madeCells,hi,Nat.mod_one]
  ·simp [madeCells,hi]
 have hBa:Below w.heap.size w (w.alloc (.cells (madeCells #[.int .i64 0] N) 3)):=(Below.refl _ w).alloc (Nat.le_refl _) _
 clear hmk
 generalize w.alloc (.cells (madeCells #[.int .i64 0] N) 3)=W at *
 have hBa:=hid hBa
 have hrow0:=hid hrow0
 go_loopw [17] (fun i wr=>∃ k:Nat,k≤N∧i=.int .i64 k∧Hid (Below w.heap.size w wr)∧Hid (wr.heap[w.heap.size]?=some (.cells (rowK cs N k) 3 (0,0)))) (fun i _=>N - (RowKit.intOf i).toNat)
 case atStart=>exact⟨0,Nat.zero_le _,rfl,hBa,hrow0⟩
 case round =>
  obtain⟨k,hk,rfl,hBr,hrow⟩:=hrel
  by_cases hlt:k<N
  ·go_wp2_with fail
   refine (HF.out wr hBr.out k).mono ?_
   rintro e w1 ⟨v,rfl,hO,hb1⟩
   have hx:=hid (hat.out k hlt)
   obtain⟨av,cv,rfl,_⟩:=hO.form
   have hr1:=(hb1.block w.heap.size (Array.getElem?_eq_some_iff.1 hrow.out).1).trans hrow.out
   have hB1:Below w.heap.size w w1:=hBr.out.trans (hb1.mono hBr.out.size)
   have kc0:w1.cell? ⟨w.heap.size,k,none⟩=some (.int .i64 0):=(Aa hr1 k).trans (rowK_at cs N k hcl.out hlt)
   have kf0:w1.frozen? ⟨w.heap.size,k,none⟩=false:=Ao hr1 k
   have hr2:=Al w1 w.heap.size k (.int .i64 (((CH.fol CH.msg known (k:Int)).1.length:Nat):Int)) _ _ _ hr1
   rw [rowK_set cs N k _ hcl.out hlt hx.out] at hr2
   clear hO hb1 hr1 hrow hBr
   generalize (CH.fol CH.msg known (k:Int)).1.length=m at *
   generalize (CH.fol CH.msg known (k:Int)).2=s at *
   have hB2:Hid (Below w.heap.size w (w1.setCell ⟨w.heap.size,k,none⟩ (.int .i64 m))):=hid (hB1.setCell (Nat.le_refl _) _)
   have hr2:=hid hr2
   have hB1:=hid hB1
   have z0:(0:Int)≤(k:Int):=by omega
   have zk:((k:Int)).toNat=k:=by omega
   have hk':(k:Int)<(N:Int):=by omega
   go_wp2
   go_roundw
   case rel=>exact⟨k+1,by omega,by go_num,hB2,hr2⟩
   case measure=>simp [RowKit.intOf];omega
  ·obtain rfl:k=N:=by omega
   have hfin:=hrow.out
   rw [rowK_done cs k hcl.out] at hfin
   have hlt2:=(Array.getElem?_eq_some_iff.1 hfin).1
   have hI:Ints wr.heap.size wr (.slice (some ⟨w.heap.size,0,none⟩) k k) cs:=by
    refine⟨_,k,by rw [hcl.out],by rw [hcl.out];exact Nat.le_refl _,by omega,fun _=>⟨w.heap.size,0,rfl,hlt2,fun j n hj=>?_⟩⟩
    rw [Nat.zero_add,Aa hfin j]
    simp [hj]
   have hI:=hid hI
   have hBr2:=hid hBr.out
   clear hfin hrow
   go_wp2
   go_ret
   exact⟨_,rfl,hI.out,hBr2.out⟩
end Go.Proofs.YtjaeapaeaiiieaaGreatDoor
namespace Go.Proofs.YtjaeapaeaiiieaaGreatDoor
section
open Go.Lib Go.Proofs.Tryz Go.RowKit Go.Shelf Go.Sort
theorem lawVec_any (c r1 r2:Nat) (key:List UInt8) (known:CH.Known) (forks:CH.Forks) (m n:Nat) (w:World) (hG:Gc w) (hC:aU w c r1 r2 [key] known forks) (hn:∀ p v,(p,v)∈known→p.2≤200) (hm:(CH.fol CH.msg known 0).1.length=m) :
  Calls prog 16 #[.pointer (some ⟨c,0,none⟩),.int .i64 n] w (Ret w (.bool ((m:Int)==(n:Int)))):=by
 have V:=vector_any c r1 r2 [key] known forks w hG hC hn (by simp)
 have hc:CH.counts CH.msg known [key].length=[(m:Int)]:=by
  show CH.counts CH.msg known 1=_
  unfold CH.counts
  rw [← hm]
  rfl
 rw [hc] at V
 have V:=hid V
 clear hc hm hn hC hG
 obtain⟨R,hR⟩:∃ R,Hid (((m:Int)==(n:Int))=R):=⟨_,hid rfl⟩
 rw [hR.out]
 go_enter func16,ntmps16
 go_wp2_with fail
 refine V.out.mono ?_
 rintro e w1 ⟨v,rfl,hI,hb⟩
 clear V
 obtain⟨a,cap,rfl,_,_,hx⟩:=hI
 obtain⟨b,off,rfl,hlt,hcell⟩:=hx (by simp)
 have k0:w1.cell? ⟨b,off,none⟩=some (.int .i64 m):=by
  have:=hcell 0 _ rfl
  rwa [Nat.add_zero] at this
 simp only [List.length_singleton]
 clear hcell hx
 have hR:=hR.out
 go_wp2
 go_ret
 exact⟨by rw [← hR];rfl,hb⟩
end
section
theorem verify_sealed (secret m:List UInt8) (h i:Nat) (hh:h≤8) (hi:i<2 ^ h):Hq (CH.pub secret h) m (i:Int) (CH.sig secret i m) (CH.path (CH.keys secret h) i)=true:=by
 have hs:=CH.isDigest_sig secret i m
 have hp:=CH.isDigest_path (CH.keys secret h) i
 have ht:=CH.treeCheck_path (CH.keys secret h) i (CH.otKey secret i) (CH.keys_at secret h i hi)
 rw [CH.length_keys] at ht
 unfold Hq
 rw [CH.dl_ends_sig,CH.length_sig,CH.length_path]
 have q1:((CH.sig secret i m).any fun l=>!CH.aF l)=false:=by
  rw [List.any_eq_false]
  intro x hx
  rw [hs x hx]
  decide
 have q2:((CH.path (CH.keys secret h) i).any fun l=>!CH.aF l)=false:=by
  rw [List.any_eq_false]
  intro x hx
  rw [hp x hx]
  decide
 have q3:decide ((i:Int)<2 ^ h)=true:=by
  rw [decide_eq_true_eq]
  have:=Int.ofNat_lt.2 hi
  rwa [Int.natCast_pow] at this
 rw [q1,q2,q3,Int.toNat_natCast]
 rw [show decide (h≤8)=true from decide_eq_true hh,show decide ((0:Int)≤(i:Int))=true from decide_eq_true (by omega)]
 unfold CH.pub
 rw [ht]
 simp
theorem chkV_ok {v:CH.Version} {key t:List UInt8} (ht:CH.bK v=.ok t):dO v key=(v.sel.index==v.number - 1&&Hq key (CH.msg v) v.sel.index v.sel.sig v.sel.path):=by
 unfold dO
 rw [ht]
theorem Hd {i:Nat} {v:CH.Version} {m:List UInt8} (hi:i<2) (hv:v.sel=⟨0,[],[]⟩) (hn:v.number=(i:Int)+1) (hm:CH.message v=.ok m) (ht:∃ t,CH.bK (CH.sealed i v m)=.ok t):dO (CH.sealed i v m) CH.hKey=true:=by
 obtain⟨t,ht⟩:=ht
 have hmm:CH.msg (CH.sealed i v m)=m:=by
  unfold CH.msg
  rw [CH.iK i v m hv,hm]
 have e1:(CH.sealed i v m).sel.index=(i:Int):=by simp only [CH.sealed]
 have e2:(CH.sealed i v m).number=v.number:=rfl
 have e3:(CH.sealed i v m).sel.sig=CH.sig CH.sS i m:=by simp only [CH.sealed]
 have e4:(CH.sealed i v m).sel.path=CH.path (CH.keys CH.sS 1) i:=by simp only [CH.sealed]
 rw [chkV_ok ht,hmm,e1,e2,e3,e4,hn]
 have:=verify_sealed CH.sS m 1 i (by decide) hi
 unfold CH.hKey
 rw [this,Bool.and_true,beq_iff_eq]
 omega
theorem chkOne:dO CH.hOne CH.hKey=true:=Hd (i:=0) (v:=CH.bOne) (m:=CH.m1) (by decide) rfl rfl CH.msgOne CH.textOne
theorem chkTwo:dO CH.hTwo CH.hKey=true:=Hd (i:=1) (v:=CH.bTwo) (m:=CH.m2) (by decide) rfl rfl CH.msgTwo CH.textTwo
theorem chkOther:dO CH.gq CH.hKey=true:=Hd (i:=0) (v:=CH.bOther) (m:=CH.m3) (by decide) rfl rfl CH.msgOther CH.textOther
theorem chkEarly:dO CH.hEarly CH.hKey=true:=Hd (i:=1) (v:=CH.bEarly) (m:=CH.m4) (by decide) rfl rfl CH.msgEarly CH.textEarly
theorem Nd {i:Nat} {v:CH.Version} {m:List UInt8} (hv:v.sel=⟨0,[],[]⟩) (hm:CH.message v=.ok m):CH.msg (CH.sealed i v m)=m:=by
 unfold CH.msg
 rw [CH.iK i v m hv,hm]
theorem mOne:CH.msg CH.hOne=CH.m1:=Nd (i:=0) (v:=CH.bOne) (m:=CH.m1) rfl CH.msgOne
theorem mOther:CH.msg CH.gq=CH.m3:=Nd (i:=0) (v:=CH.bOther) (m:=CH.m3) rfl CH.msgOther
def hK:List (List UInt8):=[CH.hKey]
def kC1:CH.Known:=[((0,2),CH.hTwo)]
def kC2:CH.Known:=[((0,2),CH.hTwo),((0,1),CH.hOne)]
def kD1:CH.Known:=[((0,1),CH.gq)]
def kD2:CH.Known:=[((0,1),CH.gq),((0,2),CH.hTwo)]
def fC:CH.Forks:=[((0,1),(CH.hOne,CH.gq))]
def fD:CH.Forks:=[((0,1),(CH.gq,CH.hOne))]
def kX1:CH.Known:=[((0,1),CH.hOne)]
def kX2:CH.Known:=[((0,1),CH.hOne),((0,2),CH.hEarly)]
theorem I7 {known:CH.Known} {forks:CH.Forks} {v:CH.Version} (ha:v.authority=0) (ht:∃ t,CH.bK v=.ok t) (hc:dO v CH.hKey=true) (hl:CH.aX (v.authority,v.number) known=none) :
  CH.fQ dO hK known forks v=(0,known++[((v.authority,v.number),v)],forks):=by
 obtain⟨t,ht⟩:=ht
 unfold CH.fQ
 rw [ht]
 have:hK.getD v.authority.toNat []=CH.hKey:=by rw [ha];rfl
 rw [this,hc,hl]
 have q:decide (v.authority ≥ (hK.length:Int))=false:=by rw [ha];decide
 rw [q]
 rfl
theorem add_old {known:CH.Known} {forks:CH.Forks} {v old:CH.Version} (ha:v.authority=0) (ht:∃ t,CH.bK v=.ok t) (hc:dO v CH.hKey=true) (hl:CH.aX (v.authority,v.number) known=some old) :
  CH.fQ dO hK known forks v=if (CH.bare old).getD []==(CH.bare v).getD [] then (0,known,forks) else (17,known,CH.addFork (v.authority,v.number) (old,v) forks):=by
 obtain⟨t,ht⟩:=ht
 unfold CH.fQ
 rw [ht]
 have:hK.getD v.authority.toNat []=CH.hKey:=by rw [ha];rfl
 rw [this,hc,hl]
 have q:decide (v.authority ≥ (hK.length:Int))=false:=by rw [ha];decide
 rw [q]
 rfl
theorem bare_diff:((CH.bare CH.hOne).getD []==(CH.bare CH.gq).getD [])=false:=by
 have h:((CH.bare CH.bOne).getD []==(CH.bare CH.bOther).getD [])=false:=by decide +kernel
 exact h
theorem bare_diff':((CH.bare CH.gq).getD []==(CH.bare CH.hOne).getD [])=false:=by
 have h:((CH.bare CH.bOther).getD []==(CH.bare CH.bOne).getD [])=false:=by decide +kernel
 exact h
theorem addC1:CH.fQ dO hK [] [] CH.hTwo=(0,kC1,[]):=I7 rfl CH.textTwo chkTwo rfl
theorem addC2:CH.fQ dO hK kC1 [] CH.hOne=(0,kC2,[]):=I7 rfl CH.textOne chkOne rfl
theorem addC3:CH.fQ dO hK kC2 [] CH.hOne=(0,kC2,[]):=by
 rw [add_old (old:=CH.hOne) rfl CH.textOne chkOne rfl,if_pos (by simp)]
theorem addC4:CH.fQ dO hK kC2 [] CH.gq=(17,kC2,fC):=by
 rw [add_old (old:=CH.hOne) rfl CH.textOther chkOther rfl,bare_diff];rfl
theorem addD1:CH.fQ dO hK [] [] CH.gq=(0,kD1,[]):=I7 rfl CH.textOther chkOther rfl
theorem addD2:CH.fQ dO hK kD1 [] CH.hOne=(17,kD1,fD):=by
 rw [add_old (old:=CH.gq) rfl CH.textOne chkOne rfl,bare_diff'];rfl
theorem addD3:CH.fQ dO hK kD1 fD CH.hTwo=(0,kD2,fD):=I7 rfl CH.textTwo chkTwo rfl
theorem addX1:CH.fQ dO hK [] [] CH.hOne=(0,kX1,[]):=I7 rfl CH.textOne chkOne rfl
theorem addX2:CH.fQ dO hK kX1 [] CH.hEarly=(0,kX2,[]):=I7 rfl CH.textEarly chkEarly rfl
theorem Lv (msg:CH.Version→List UInt8) (known:CH.Known) (a:Int) (f:Nat) (out:List CH.Version) (hd:List UInt8) (last:Int) (h:CH.aX (a,(out.length:Int)+1) known=none):CH.follow msg known a (f+1) out hd last=(out,hd):=by
 rw [CH.follow,h]
theorem follow_bad (msg:CH.Version→List UInt8) (known:CH.Known) (a:Int) (f:Nat) (out:List CH.Version) (hd:List UInt8) (last:Int) (v:CH.Version) (h:CH.aX (a,(out.length:Int)+1) known=some v) (hc:(v.prev != hd||decide (v.pos<last))=true):CH.follow msg known a (f+1) out hd last=(out,hd):=by
 rw [CH.follow,h]
 dsimp only
 rw [if_pos hc]
theorem I0 (msg:CH.Version→List UInt8) (known:CH.Known) (a:Int) (f:Nat) (out:List CH.Version) (hd:List UInt8) (last:Int) (v:CH.Version) (h:CH.aX (a,(out.length:Int)+1) known=some v) (hc:(v.prev != hd||decide (v.pos<last))=false):CH.follow msg known a (f+1) out hd last=CH.follow msg known a f (out++[v]) (msg v) v.pos:=by
 rw [CH.follow,h]
 dsimp only
 rw [if_neg (by rw [hc];decide)]
theorem folC1:(CH.fol CH.msg kC1 0).1.length=0:=by
 unfold CH.fol
 rw [Lv _ _ _ 200 _ _ _ rfl];rfl
theorem folC2:(CH.fol CH.msg kC2 0).1.length=2:=by
 unfold CH.fol
 rw [I0 _ _ _ 200 _ _ _ CH.hOne rfl rfl,I0 _ _ _ 199 _ _ _ CH.hTwo rfl (by rw [mOne];decide +kernel),Lv _ _ _ 198 _ _ _ rfl];rfl
theorem folD2:(CH.fol CH.msg kD2 0).1.length=1:=by
 unfold CH.fol
 rw [I0 _ _ _ 200 _ _ _ CH.gq rfl rfl,follow_bad _ _ _ 199 _ _ _ CH.hTwo rfl (by rw [mOther];decide +kernel)];rfl
theorem folX2:(CH.fol CH.msg kX2 0).1.length=1:=by
 unfold CH.fol
 rw [I0 _ _ _ 200 _ _ _ CH.hOne rfl rfl,follow_bad _ _ _ 199 _ _ _ CH.hEarly rfl (by rw [mOne];decide +kernel)];rfl
theorem holdText:CH.aT CH.holdAct=some ([104,111,108,100,105,110,103,32,104,49,32,112,49,32,112,48,32,45,32,45,32,54,48,32,53,49,32,48,32,45,59]:List UInt8):=by
 have h:(match CH.aT CH.holdAct with|none=>false|some t=>t==([104,111,108,100,105,110,103,32,104,49,32,112,49,32,112,48,32,45,32,45,32,54,48,32,53,49,32,48,32,45,59]:List UInt8))=true:=by decide +kernel
 split at h
 ·cases h
 ·rename_i t e
  rw [e,beq_iff_eq.1 h]
end
section
open Go.Lib Go.Proofs.Tryz Go.RowKit Go.Shelf Go.Sort
theorem Jv {l:List UInt8} (h:CH.aF l=true):l.length=16:=by
 unfold CH.aF at h
 rw [Bool.and_eq_true] at h
 exact beq_iff_eq.1 h.1
theorem Jk {ls:List (List UInt8)} (hl:ls.length≤18) (h:∀ x∈ls,CH.aF x=true):Short ls∧∀ l∈ls,l≠[] :=
 ⟨⟨by omega,fun l hx=>by rw [Jv (h l hx)];omega⟩,fun l hx e=>by
  have:=Jv (h l hx)
  rw [e] at this
  cases this⟩
theorem Mz (B:Nat) (w:World):Strs B w (.slice none 0 0) []:=⟨none,0,rfl,Nat.le_refl _,by omega,fun h=>absurd rfl h⟩
theorem mk_any (i:Nat) (hi:i<2) (number pos:Int) (prev:List UInt8) (acts:List CH.Act) (m:List UInt8) (hn:number=(i:Int)+1) (hpos:I64 pos) (hp:prev.length≤10000) (hm:CH.message (CH.bareOf number pos prev acts)=.ok m)
  (ht:∃ t,CH.bK (CH.sealed i (CH.bareOf number pos prev acts) m)=.ok t):MakeS (CH.sealed i (CH.bareOf number pos prev acts) m) number pos prev acts:=by
 intro w va hG hA
 obtain⟨t,ht⟩:=ht
 have d1:=Jk (by rw [CH.length_sig];omega) (CH.isDigest_sig CH.sS i m)
 have d2:=Jk (by rw [CH.length_path];omega) (CH.isDigest_path (CH.keys CH.sS 1) i)
 have h0:I64 0:=⟨by decide,by decide⟩
 have hnm:I64 number:=⟨by omega,by omega⟩
 have hsm:Short []:=⟨by simp,fun _ h=>by cases h⟩
 have C:=make_any (CH.bareOf number pos prev acts) i 1 CH.sS m t va w hG ⟨hA,Mz _ _,Mz _ _,⟨h0,hnm,hpos,hp,h0,hsm,hsm⟩⟩ rfl hn hm (by decide) (by decide) (by omega) ht d1.1 d2.1 d1.2 d2.2
 refine C.mono ?_
 rintro e w' ⟨s,rfl,hv,hb⟩
 obtain⟨a1,n1,c1,a2,n2,c2,a3,n3,c3,rfl⟩:=hv.sl
 exact⟨_,_,_,_,_,_,_,_,_,rfl,hv,hb⟩
theorem ends_s (n:Int) (hn:I64 n):EndsS n [CH.gy n]:=by
 intro w
 refine (ends_any n hn w).mono ?_
 rintro e w' ⟨v,rfl,hA,hb⟩
 obtain⟨a,c,rfl,_,_⟩:=hA.form
 exact⟨_,_,_,rfl,hA,hb⟩
theorem add_s {V:CH.Version} {known:CH.Known} {forks:CH.Forks} {er:Int} {known':CH.Known} {forks':CH.Forks} (h:CH.fQ dO hK known forks V=(er,known',forks')):AddS CH.hKey V known forks er known' forks':=by
 intro w0 w l c r1 r2 s h9 hS hC hv
 have A:=add_any c r1 r2 hK known forks V s w hS.gc hC.1 hv
 have e:addC hK known forks V=(er,known',forks'):=h
 rw [e] at A
 refine A.mono ?_
 intro e w' hR
 have hS':=hS.added hC.1 hC.2.1 hC.2.2 h9 hR
 obtain⟨rfl,hC',_⟩:=hR
 exact⟨rfl,hS',hC',hC.2⟩
theorem vec_s {known:CH.Known} {n:Nat} (hn:∀ p v,(p,v)∈known→p.2≤200) (hm:(CH.fol CH.msg known 0).1.length=n):VecS CH.hKey known n:=by
 intro w0 w l c r1 r2 forks hS hC
 refine (lawVec_any c r1 r2 CH.hKey known forks n n w hS.gc hC.1 hn hm).mono ?_
 rintro e w' ⟨rfl,hb⟩
 exact⟨by simp,hS.go hb,hC.1.below hb,hC.2⟩
theorem holdAct_at (B:Nat) (w:World):eY B w CH.holdAct nilV:=by
 have s0:Strs B w nilS []:=Mz B w
 have hf:Ci (.mk 0 [] 0 0 []):=by
  unfold Ci Cr
  exact⟨by simp,trivial⟩
 have hc:(CH.Formula.mk 0 [] 0 0 []).count≤100000000:=by
  unfold CH.Formula.count CH.aG;omega
 have hd:(CH.Formula.mk 0 [] 0 0 []).depth≤100000000:=by
  unfold CH.Formula.depth CH.aS;omega
 have i0:I64 0:=⟨by decide,by decide⟩
 have z:(0:Nat)≤10000:=by omega
 have z1:(0:Nat)≤100000:=by omega
 have z2:(2:Nat)≤10000:=by omega
 have sh:Short []:=⟨z1,fun l h=>by cases h⟩
 refine⟨⟨none,0,rfl,Nat.le_refl _,by omega,fun h=>absurd rfl h⟩,⟨?_,⟨i0,i0,i0,i0⟩,z,z,z,hf,hc,hd⟩,s0,s0,s0,⟨⟨z,⟨z,z1,fun _ h=>by cases h⟩⟩,i0,z,sh,sh,⟨z2,z2,z2,z,z,sh⟩,z,⟨by show (-9223372036854775808:Int)≤6;decide,by show (6:Int)≤9223372036854775807;decide⟩,i0⟩⟩
 show Am B w (.mk 0 [] 0 0 []) nilS
 unfold Am
 exact⟨none,0,rfl,Nat.le_refl _,by omega,fun h=>absurd rfl h⟩
theorem key_digest:CH.aF CH.hKey=true:=by
 unfold CH.hKey CH.pub
 exact CH.isDigest_root _
theorem keysOk_one:Js [CH.hKey]=true:=by
 have h:=key_digest
 unfold Js CH.dI
 simp [h]
theorem hf:HF CH.hKey CH.m1 CH.hOne CH.hTwo CH.gq CH.hEarly [CH.gy 1] [CH.gy 2] [CH.gy 3] kC1 kC2 kD1 kD2 kX1 kX2 fC fD:={
 pub:=fun w hG=>public_any CH.sS 1 w hG (by decide) (by decide)
 new:=fun w v hG hv=>by
  refine (new_any v [CH.hKey] w hG hv (fun l hl=>?_) (by simp)).mono ?_
  ·rw [List.mem_singleton] at hl
   rw [hl,Jv key_digest]
   omega
  ·rintro e w' ⟨hb,hif⟩
   rw [if_pos keysOk_one] at hif
   obtain⟨c,r1,r2,rfl,hC,_,g2,g3⟩:=hif
   exact⟨c,r1,r2,rfl,hC,g2,g3,hb⟩
 e1:=ends_s 1 ⟨by decide,by decide⟩
 e2:=ends_s 2 ⟨by decide,by decide⟩
 e3:=ends_s 3 ⟨by decide,by decide⟩
 m1:=mk_any 0 (by decide) 1 100 [] [CH.gy 1] CH.m1 rfl ⟨by decide,by decide⟩ (by decide) CH.msgOne CH.textOne
 m2:=mk_any 1 (by decide) 2 100 CH.m1 [CH.gy 2] CH.m2 rfl ⟨by decide,by decide⟩ (by decide) CH.msgTwo CH.textTwo
 m3:=mk_any 0 (by decide) 1 100 [] [CH.gy 3] CH.m3 rfl ⟨by decide,by decide⟩ (by decide) CH.msgOther CH.textOther
 m4:=mk_any 1 (by decide) 2 99 CH.m1 [] CH.m4 rfl ⟨by decide,by decide⟩ (by decide) CH.msgEarly CH.textEarly
 msg:=fun w s hG hv=>by
  have:=Gd CH.hOne s w hG hv
  have e:CH.message CH.hOne=.ok CH.m1:=(CH.iK 0 CH.bOne CH.m1 rfl).trans CH.msgOne
  rw [e] at this
  exact this
 ac1:=add_s addC1
 ac2:=add_s addC2
 ac3:=add_s addC3
 ac4:=add_s addC4
 ad1:=add_s addD1
 ad2:=add_s addD2
 ad3:=add_s addD3
 ax1:=add_s addX1
 ax2:=add_s addX2
 vc1:=vec_s (n:=0) (by simp [kC1]) folC1
 vc2:=vec_s (n:=2) (by
  rintro⟨a,b⟩ v h
  simp [kC2] at h
  show b≤200
  rcases h with h|h <;> omega) folC2
 vd2:=vec_s (n:=1) (by
  rintro⟨a,b⟩ v h
  simp [kD2] at h
  show b≤200
  rcases h with h|h <;> omega) folD2
 vx2:=vec_s (n:=1) (by
  rintro⟨a,b⟩ v h
  simp [kX2] at h
  show b≤200
  rcases h with h|h <;> omega) folX2
 forks:=fun w0 w l c r1 r2 hS hC=>by
  refine (forks_any c r1 r2 [CH.hKey] kC2 fC w hC.1 (by simp [fC]) (by simp [fC])).mono ?_
  rintro e w' ⟨v,base,rfl,_,hO,hb⟩
  obtain⟨a,cap,rfl,_⟩:=hO.form
  exact⟨a,cap,rfl,hS.go hb⟩
 act:=fun w hG=>by
  have:=actTextC CH.holdAct nilV w hG (holdAct_at _ _)
  rw [holdText] at this
  exact this }
theorem Ge (w:World) (hG:Gc w):Calls prog 4 #[] w (Ret w (.bool true)):=head_walk hf w hG
def Dx (B:Nat) (w:World) (v:Value) (ls:List CH.Version):Prop :=
 ∃ a cap,v=.slice a ls.length cap∧ls.length≤cap∧cap≤9223372036854775807 ∧
  (ls≠[]→∃ b off,a=some ⟨b,off,none⟩∧b<B∧∀ j x,ls[j]?=some x→∃ s,(∀ i u,(Ab x s)[i]?=some u→w.cell? ⟨b,off+j*8+i,none⟩=some u)∧aK B w x s)
theorem Dx.below {B B':Nat} {w w':World} {v:Value} {ls:List CH.Version} (h:Dx B w v ls) (hb:Below B' w w') (hB:B≤B'):Dx B w' v ls:=by
 obtain⟨a,cap,h1,h2,h3,h4⟩:=h
 refine⟨a,cap,h1,h2,h3,fun hne=>?_⟩
 obtain⟨b,off,e,hlt,hx⟩:=h4 hne
 refine⟨b,off,e,hlt,fun j x hj=>?_⟩
 obtain⟨s,c1,c2⟩:=hx j x hj
 exact⟨s,fun i u hi=>(hb.cell (p:=⟨b,off+j*8+i,none⟩) (nL hlt hB)).trans (c1 i u hi),c2.below hb hB⟩
theorem Dx.mono {B B':Nat} {w:World} {v:Value} {ls:List CH.Version} (h:Dx B w v ls) (hB:B≤B'):Dx B' w v ls:=by
 obtain⟨a,cap,h1,h2,h3,h4⟩:=h
 refine⟨a,cap,h1,h2,h3,fun hne=>?_⟩
 obtain⟨b,off,e,hlt,hx⟩:=h4 hne
 refine⟨b,off,e,nL hlt hB,fun j x hj=>?_⟩
 obtain⟨s,c1,c2⟩:=hx j x hj
 exact⟨s,c1,c2.mono hB⟩
def VersRet (w:World) (ls:List CH.Version) (e:Ending) (w':World):Prop:=∃ v,e=.returned v∧Dx w'.heap.size w' v ls∧Below w.heap.size w w'
theorem vers_source {base B:Nat} {w:World} {v:Value} {ls:List CH.Version} (h:Bc base B w v ls):∃ xs:List (CH.Version × bF),xs.map (·.1)=ls∧Source w v ls.length (A9 xs)∧(∀ x∈xs,aK B w x.1 x.2)∧∀ u∈A9 xs,u.oneCell'=true:=by
 obtain⟨xs,h1,h2,h3,h4,h5⟩:=h
 have hl:xs.length=ls.length:=by rw [← h1,List.length_map]
 refine⟨xs,h1,?_,h3,?_⟩
 ·have h2':=h2
  obtain⟨hlen,⟨rfl,h0⟩|⟨g,cap,cur,rfl,hb,hg,hn,hc,hsz,htk⟩⟩:=h2
  ·have:xs=[]:=List.length_eq_zero_iff.1 (by omega)
   subst this
   exact .inr ⟨0,rfl,h0,rfl⟩
  ·refine .inl ⟨⟨g,0,none⟩,cap,rfl,fun j u hj=>?_⟩
   have hjl:=(lS hj)
   rw [Ja,hl] at hjl
   rw [Go.WideShapes.add_plain,Nat.zero_add,World.ownsRow.cellAt h2' j (by omega)]
   exact hj
 ·intro u hu
  unfold A9 at hu
  obtain⟨x,hx,hux⟩:=List.mem_flatMap.1 hu
  exact Cv (h3 x hx) u hux
theorem folAll_len (msg:CH.Version→List UInt8) (known:CH.Known) {k:Nat}:∀ {n:Nat},k≤n→(CH.bf msg known k).length≤(CH.bf msg known n).length
 | 0,h=>by
  obtain rfl:k=0:=by omega
  exact Nat.le_refl _
 | n+1,h=>by
  by_cases e:k=n+1
  ·rw [e];exact Nat.le_refl _
  ·have:=folAll_len msg known (k:=k) (n:=n) (by omega)
   show _≤(CH.bf msg known n++_).length
   rw [List.length_append]
   omega
theorem flat8 (f:VP→List Value) (hf:∀ x,(f x).length=8):∀ (l:List VP) (t:Nat),t<l.length*8→(l.flatMap f)[t]?=some ((f l.toArray[t / 8]!)[t % 8]!)
 | [],t,h=>by simp at h
 | x::l,t,h=>by
  rw [List.flatMap_cons]
  by_cases h8:t<8
  ·rw [List.getElem?_append_left (by rw [hf];exact h8)]
   have e1:t / 8=0:=Nat.div_eq_of_lt h8
   have e2:t % 8=t:=Nat.mod_eq_of_lt h8
   rw [e1,e2]
   have:t<(f x).length:=by rw [hf];exact h8
   simp [this]
  ·rw [List.getElem?_append_right (by rw [hf];omega),hf,flat8 f hf l (t - 8) (by rw [List.length_cons] at h;omega)]
   have e1:t / 8=(t - 8) / 8+1:=by omega
   have e2:t % 8=(t - 8) % 8:=by omega
   rw [e1,e2]
   simp
theorem vps_of {B:Nat} {w:World}:∀ (xs:List (CH.Version × bF)),(∀ x∈xs,aK B w x.1 x.2)→∃ ds:List VP,ds.map (fun y=>(y.v,y.s))=xs
 | [],_=>⟨[],rfl⟩
 |(v,s)::xs,h=>by
  obtain⟨ds,hd⟩:=vps_of xs fun x hx=>h x (by simp [hx])
  obtain⟨a1,n1,c1,a2,n2,c2,a3,n3,c3,e⟩:=(h (v,s) (by simp)).sl
  refine⟨⟨v,a1,n1,c1,a2,n2,c2,a3,n3,c3⟩::ds,?_⟩
  change s=_ at e
  rw [List.map_cons,hd,e]
  rfl
theorem Lj {C g n:Nat} {w:World} {d:Array VP} {os:Array Obj} (hC:C≤g) (hw:C≤w.heap.size):Below C w (sortWorldK gJ 8 w g 0 n d os):=by
 refine⟨rfl,rfl,rfl,size_sortWorldK_c gJ 8 w g 0 n d os,fun k hk=>?_⟩
 show ((w.heap.modify g (onCells (putCells id 0 (flatK gJ 8 d))))++os)[k]?=w.heap[k]?
 rw [Array.getElem?_append_left (by simp;omega),Array.getElem?_modify,if_neg (by omega)]
theorem ins_nil:Sort.insertionSort CH.ltPos (#[]:Array CH.Version) 0 0=#[]:=by
 unfold Sort.insertionSort
 rw [Sort.insOuter.eq_1,if_neg (by omega)]
theorem sorted_row {base B g cap:Nat} {w:World} {ls:List CH.Version} (hO:Bc base B w (.slice (some ⟨g,0,none⟩) ls.length cap) ls) :
  ∃ d:Array VP,d.size=ls.length∧HoldsK gJ 8 w g 0 d∧g<w.heap.size∧base≤g∧∀ w',(∃ n os,w'=sortWorldK gJ 8 w g 0 n (Sort.insertionSort (ltOf cmpV) d 0 d.size) os) →
   Dx w'.heap.size w' (.slice (some ⟨g,0,none⟩) ls.length cap) (Sort.insertionSort CH.ltPos ls.toArray 0 ls.length).toList∧Below base w w':=by
 obtain⟨xs,h1,h2,h3,h4,h5⟩:=hO
 have h2':=h2
 have hl:xs.length=ls.length:=by rw [← h1,List.length_map]
 obtain⟨ds,hds⟩:=vps_of xs h3
 have hdl:ds.length=ls.length:=by rw [← hl,← hds,List.length_map]
 have hmap:ds.map (·.v)=ls:=by rw [← h1,← hds,List.map_map];rfl
 have hflat:A9 xs=ds.flatMap gJ:=by
  rw [← hds]
  unfold A9
  rw [List.flatMap_map]
  rfl
 obtain⟨hlen,⟨e,h0⟩|⟨g',cap',cur,e,hb,hg,hn,hc,hsz,htk⟩⟩:=h2
 ·cases e
 simp only [Value.slice.injEq,Option.some.injEq,Addr.mk.injEq,and_true,true_and] at e
 obtain⟨rfl,rfl⟩:=e
 have hglt:g<w.heap.size:=(aZ hg)
 have hH:HoldsK gJ 8 w g 0 ds.toArray:=by
  intro t ht
  rw [size_flatK] at ht
  have ht':t<ds.length*8:=by simpa using ht
  rw [get_flatK _ _ _ _ ht]
  refine⟨?_,Ao hg _⟩
  rw [Nat.zero_add,World.ownsRow.cellAt h2' t (by rw [← hdl];exact ht'),hflat]
  exact flat8 gJ (fun _=>rfl) ds t ht'
 have hsize:ds.toArray.size=ls.length:=by simpa using hdl
 refine⟨ds.toArray,hsize,hH,hglt,hb,?_⟩
 rintro w' ⟨n,os,rfl⟩
 have hinv:=CH.dY (lt:=ltOf cmpV) (I:=fun L=>L.length=ds.length∧∀ y∈L,y∈ds) (fun l m x y _ h=>⟨by simpa using h.1,fun z hz=>h.2 z (by
  simp only [List.mem_append,List.mem_cons] at hz ⊢
  rcases hz with h|h|h|h
  ·exact .inl h
  ·exact .inr (.inr (.inl h))
  ·exact .inr (.inl h)
  ·exact .inr (.inr (.inr h)))⟩) ds ⟨rfl,fun _ h=>h⟩
 rw [show ds.length=ds.toArray.size from by simp] at hinv
 have hv:=Jt ds.toArray 0 ds.toArray.size
 have e1:ds.toArray.map (·.v)=ls.toArray:=by rw [← hmap];simp
 rw [e1] at hv
 obtain⟨d',hd'⟩:∃ d',Sort.insertionSort (ltOf cmpV) ds.toArray 0 ds.toArray.size=d':=⟨_,rfl⟩
 rw [hd'] at hinv hv ⊢
 rw [← hsize,← hv]
 have hs':d'.size=ds.toArray.size:=by have:=hinv.1;simpa using this
 have hH':=holdsK_sortWorldK_c gJ 8 w g 0 ds.toArray d' n os hH hglt hs'
 have hBb:Below base w (sortWorldK gJ 8 w g 0 n d' os):=Lj hb h5
 have hgs:w.heap.size≤(sortWorldK gJ 8 w g 0 n d' os).heap.size:=hBb.size
 refine⟨⟨_,cap,?_,?_,?_,fun _=>⟨g,0,rfl,nL hglt hgs,fun j x hj=>?_⟩⟩,hBb⟩
 ·simp [hs']
 ·simp only [Array.toList_map,List.length_map,Array.length_toList,hs',hsize]
  exact hn
 ·unfold maxLen at hc;omega
 ·rw [Array.toList_map,List.getElem?_map] at hj
  cases hy:d'.toList[j]? with
  | none=>rw [hy] at hj;cases hj
  | some y =>
   rw [hy] at hj
   cases hj
   have hmem:=hinv.2 y (List.mem_of_getElem? hy)
   have hxs:(y.v,y.s)∈xs:=by rw [← hds];exact List.mem_map.2 ⟨y,hmem,rfl⟩
   have hjl:j<d'.size:=by have:=(lS hy);simpa using this
   have hat:d'[j]! =y:=by
    rw [Array.getElem?_toList] at hy
    rw [getElem!_def,hy]
   refine⟨y.s,fun i u hi=>?_,((h3 _ hxs).below (hBb.mono h4) nR).mono (nT h4 (nT h5 hgs))⟩
   have hi8:i<8:=by have:=(lS hi);exact this
   have:=(HoldsK.cell hH' hjl hi8).1
   rw [this,hat]
   have h9:(gJ y)[i]?=some u:=hi
   congr 1
   rw [List.getElem!_eq_getElem?_getD,h9]
   rfl
theorem follow_at (c r1 r2:Nat) (keys:List (List UInt8)) (known:CH.Known) (forks:CH.Forks) (a:Int) (w W:World) (hG:Gc w) (hC:aU w c r1 r2 keys known forks) (hn:∀ p v,(p,v)∈known→p.2≤200) (hb:Below w.heap.size w W) :
  Calls prog 21 #[.pointer (some ⟨c,0,none⟩),.int .i64 a] W (Lk W w.heap.size (CH.fol CH.msg known a)):=by
 obtain⟨vk,h1,_⟩:=hC.ex
 obtain⟨kvs,h2,h3⟩:=hC.known
 exact follow_any c r1 w.heap.size known kvs a W (hG.below hb) (Aa ((hb.block c (aZ h1)).trans h1) 1) (h2.below hb) (h3.imp fun _ _ h=>h.below hb nR) hb.size hn
theorem versions_any (c r1 r2:Nat) (keys:List (List UInt8)) (known:CH.Known) (forks:CH.Forks) (w:World) (hG:Gc w) (hC:aU w c r1 r2 keys known forks) (hn:∀ p v,(p,v)∈known→p.2≤200) (hkl:keys.length≤1000) (hlen:(CH.bf CH.msg known keys.length).length<20) :
  Calls prog 8 #[.pointer (some ⟨c,0,none⟩)] w (VersRet w (CH.versions CH.msg known keys.length)):=by
 have HF:=hid fun (W:World) (hb:Below w.heap.size w W) (k:Nat)=>follow_at c r1 r2 keys known forks (k:Int) w W hG hC hn hb
 have HL:=hid fun (k:Nat) (hk:k≤keys.length)=>Nat.lt_of_le_of_lt (folAll_len CH.msg known hk) hlen
 obtain⟨vk,fE,hks⟩:=hC.ex
 obtain⟨ak,ck,rfl,_,_⟩:=hks.form
 have gI:c<w.heap.size:=(aZ fE)
 have kc:w.cell? ⟨c,0,none⟩=some (.slice ak keys.length ck):=Aa fE 0
 obtain⟨R,hR⟩:∃ R,Hid (CH.versions CH.msg known keys.length=R):=⟨_,hid rfl⟩
 rw [hR.out]
 clear fE hks hC hn hG hlen
 generalize keys.length=N at *
 go_enter func8,ntmps8
 go_wp2_with fail
 go_loopw [3,14] (fun ov i wr=>∃ k:Nat,k≤N∧i=.int .i64 k∧Hid (Bc w.heap.size w.heap.size wr ov (CH.bf CH.msg known k))∧Hid (Below w.heap.size w wr)) (fun _ i _=>N - (RowKit.intOf i).toNat)
 case atStart=>exact⟨0,Nat.zero_le _,rfl,hid (Bc.nil nR nR),hid (Below.refl _ _)⟩
 case round =>
  obtain⟨k,hk,rfl,hO,hBr⟩:=hrel
  by_cases hlt:k<N
  ·obtain⟨av,cv,rfl,hcv⟩:=hO.out.form
   go_wp2_with fail
   refine (HF.out wr hBr.out k).mono ?_
   rintro e w1 ⟨v,rfl,hO1,hb1⟩
   have hB1:Below w.heap.size w w1:=hBr.out.trans (hb1.mono hBr.out.size)
   have hL1:=HL.out (k+1) hlt
   have hsnoc:CH.bf CH.msg known (k+1)=CH.bf CH.msg known k++(CH.fol CH.msg known (k:Int)).1:=rfl
   rw [hsnoc,List.length_append] at hL1
   obtain⟨xs1,e1,hsrc,hat1,hone1⟩:=vers_source hO1
   have hO2:=hO.out.below hb1
   obtain⟨a1,c1,rfl,_⟩:=hO1.form
   obtain⟨xs,hx1,hx2,hx3,hx4,hx5⟩:=hO2
   have hx1:=hid hx1
   have hx3:=hid hx3
   have hl1:(A9 xs1).length=(CH.fol CH.msg known (k:Int)).1.length*8:=by rw [Ja,← e1,List.length_map]
   have hob:∀ j,(Value.slice av (CH.bf CH.msg known k).length cv).ownBlock=some j→w.heap.size≤j:=by
    obtain⟨_,⟨e,_⟩|⟨g,cap,cur,e,hb,_⟩⟩:=hx2
    ·rw [e];intro j hj;cases hj
    ·rw [e];intro j hj;simp [Value.ownBlock] at hj;omega
   have hob:=hid hob
   have e1:=hid e1
   have hsnoc:=hid hsnoc
   have hat1:=hid hat1
   have hone1:=hid hone1
   have hsrc:=hid hsrc
   have hl1:=hid hl1
   have hx2:=hid hx2
   have hB1:=hid hB1
   clear hO hO1 hb1 hBr
   obtain⟨n,hn⟩:∃ n,Hid ((CH.bf CH.msg known k).length=n):=⟨_,hid rfl⟩
   obtain⟨m,hm⟩:∃ m,Hid ((CH.fol CH.msg known (k:Int)).1.length=m):=⟨_,hid rfl⟩
   rw [hn.out] at hL1 hcv hob hx2 ⊢
   rw [hm.out] at hL1 hsrc hl1 ⊢
   go_wp2_with (at_builtin;refine Ii rfl _ _ rfl w.heap.size _ n (A9 xs) rfl hx2.out _ m (A9 xs1) rfl hsrc.out hl1.out hone1.out ?c3 hx5 ?_)
   case c3=>omega
   ·intro v' w' g1 g2 g3
    have hgb:Below w.heap.size w1 w':=Fy g2 hB1.out.size hob.out
    have hB2:Hid (Below w.heap.size w w'):=hid (hB1.out.trans hgb)
    have hO3:Bc w.heap.size w.heap.size w' v' (CH.bf CH.msg known (k+1)):=by
     rw [hsnoc.out]
     refine⟨xs++xs1,by rw [List.map_append,hx1.out,e1.out],?_,?_,Nat.le_refl _,hB2.out.size⟩
     ·rw [List.length_append,hn.out,hm.out,show A9 (xs++xs1)=A9 xs++A9 xs1 from by unfold A9;rw [List.flatMap_append]]
      exact g1
     ·intro x hx
      rcases List.mem_append.1 hx with h|h
      ·exact (hx3.out x h).below hgb nR
      ·exact (hat1.out x h).below hgb nR
    obtain⟨a',c',rfl,_⟩:=hO3.form
    have hO3:=hid hO3
    clear hgb g1 g2 g3
    generalize (CH.bf CH.msg known (k+1)).length=n' at *
    go_wp2
    go_roundw
    case rel=>exact⟨k+1,by omega,by go_num,hO3,hB2⟩
    case measure=>simp [RowKit.intOf];omega
  ·obtain rfl:k=N:=by omega
   have hL1:=HL.out k nR
   have hRR:R=(Sort.insertionSort CH.ltPos (CH.bf CH.msg known k).toArray 0 (CH.bf CH.msg known k).length).toList:=hR.out.symm
   obtain⟨ls,hls⟩:∃ ls,CH.bf CH.msg known k=ls:=⟨_,rfl⟩
   rw [hls] at hO hL1 hRR
   have hRR:=hid hRR
   clear hR HL HF
   obtain⟨av,cv,rfl,hcv⟩:=hO.out.form
   have hO2:=hO.out
   obtain⟨xs,hx1,⟨_,⟨e,h0⟩|⟨g,cap,cur,e,hb,hg,hn,hc,hsz,htk⟩⟩,hx3,hx4,hx5⟩:=hO2
   ·have hnil:ls=[]:=List.length_eq_zero_iff.1 h0
    subst hnil
    simp only [Value.slice.injEq] at e
    obtain⟨rfl,_,rfl⟩:=e
    clear hx1 hx3 hO h0
    simp only [List.length_nil]
    go_wp2_with fail
    refine (J7 wr).mono ?_
    rintro e w' ⟨rfl,rfl⟩
    go_wp2
    go_ret
    refine⟨_,rfl,?_,hBr.out⟩
    rw [hRR.out,List.length_nil,show ([]:List CH.Version).toArray=#[] from rfl,ins_nil]
    exact⟨none,0,rfl,Nat.le_refl _,by omega,fun h=>absurd rfl h⟩
   ·have hx0:True:=trivial
    ·simp only [Value.slice.injEq] at e
     obtain⟨rfl,_,rfl⟩:=e
     obtain⟨d,hds,hH,hglt,hbg,hpost⟩:=sorted_row hO.out
     have S:=M0 g cv d wr hH hglt (by omega)
     rw [hds] at S hpost
     have hpost:=hid hpost
     obtain⟨Q,hQ⟩:∃ Q:World→Prop,(fun w'=>∃ n os,w'=sortWorldK gJ 8 wr g 0 n (Sort.insertionSort (ltOf cmpV) d 0 ls.length) os)=Q:=⟨_,rfl⟩
     have S:Hid (Calls prog 22 #[.slice (some ⟨g,0,none⟩) ls.length cv,.func (.func 23) #[] #[]] wr fun e w'=>e=.returned (.tuple #[])∧Q w'):=hid (by rw [← hQ];exact S)
     have hQ:=hid hQ
     have hBr:=hid hBr.out
     clear hO hx1 hg hn hsz htk hx3 hx4 hx5 hH hds
     obtain⟨n,hn⟩:∃ n,Hid (ls.length=n):=⟨_,hid rfl⟩
     rw [hn.out] at S hcv ⊢
     clear hc
     go_wp2_with fail
     refine S.out.mono ?_
     rintro e w' ⟨rfl,hq⟩
     have hp:=hpost.out w' (by rw [← hQ.out] at hq;exact hq)
     rw [hn.out] at hp
     have hp:=hid hp
     clear hq S
     go_wp2
     go_ret
     refine⟨_,rfl,?_,hBr.out.trans hp.out.2⟩
     rw [hRR.out,hn.out]
     exact hp.out.1
abbrev fK (keys:List (List UInt8)) (l:List CH.Version):=CH.dL dO keys l [] []
def AddedRet (w:World) (keys:List (List UInt8)) (l:List CH.Version) (e:Ending) (w':World):Prop :=
 Gc w'∧Below w.heap.size w w'∧if Js keys=true then ∃ c r1 r2,e=.returned (.pointer (some ⟨c,0,none⟩))∧aU w' c r1 r2 keys (fK keys l).1 (fK keys l).2∧w.heap.size≤c∧w.heap.size≤r1∧w.heap.size≤r2
  else e=.returned (.pointer none)
theorem added_any (vk vl:Value) (keys:List (List UInt8)) (l:List CH.Version) (w:World) (hG:Gc w) (hk:Strs w.heap.size w vk keys) (hl:Dx w.heap.size w vl l) (hkl:∀ x∈keys,x.length≤9223372036854775807) (hlen:keys.length≤1000) :
  Calls prog 6 #[vk,vl] w (AddedRet w keys l):=by
 have NW:=hid (new_any vk keys w hG.gl hk hkl (by omega))
 have HA:=hid fun (c r1 r2:Nat) (known:CH.Known) (forks:CH.Forks) (v:CH.Version) (s:bF) (W:World) (h1:Gc W) (h2:aU W c r1 r2 keys known forks) (h3:aK W.heap.size W v s)=>add_any c r1 r2 keys known forks v s W h1 h2 h3
 have h9:9≤w.heap.size:=hG.gl.size
 obtain⟨ak,ck,rfl,_,_⟩:=hk.form
 obtain⟨al,cl,rfl,hlc,hcl,hcells⟩:=hl
 have hcells:=hid hcells
 have hG:=hid hG
 have h9:=hid h9
 clear hk hkl hlen
 generalize keys.length=nk at *
 obtain⟨N,hN⟩:∃ N,Hid (l.length=N):=⟨_,hid rfl⟩
 rw [hN.out] at hlc ⊢
 go_enter func6,ntmps6
 go_wp2_with fail
 refine NW.out.mono ?_
 rintro e w1 ⟨hb1,hif⟩
 clear NW
 have hG1:=hG.out.below hb1
 have hi8:(prog.info? 30).map (·.size)=some 8:=by kernel_rfl
 by_cases hok:Js keys=true
 ·rw [if_pos hok] at hif
  obtain⟨c,r1,r2,rfl,hC,g1,g2,g3⟩:=hif
  have hC:=hid hC
  have hG1:=hid hG1
  have hb1:=hid hb1
  have hok:=hid hok
  have g1:=hid g1
  have g2:=hid g2
  have g3:=hid g3
  go_wp2_with fail
  go_loopw [7] (fun i wr=>∃ k:Nat,k≤N∧i=.int .i64 k∧Hid (aU wr c r1 r2 keys (fK keys (l.take k)).1 (fK keys (l.take k)).2)∧Hid (Gc wr)∧Hid (Below w.heap.size w wr)) (fun i _=>N - (RowKit.intOf i).toNat)
  case atStart=>exact⟨0,Nat.zero_le _,rfl,hC,hG1,hb1⟩
  case round =>
   obtain⟨k,hkN,rfl,hCr,hGr,hBr⟩:=hrel
   by_cases hlt:k<N
   ·obtain⟨b,off,rfl,hbl,hx⟩:=hcells.out (by intro h;have:=hN.out;simp [h] at this;omega)
    obtain⟨x,hxk⟩:∃ x,l[k]?=some x:=⟨_,lZ (by rw [hN.out];exact hlt)⟩
    obtain⟨s,hc,hat⟩:=hx k x hxk
    have hrg:wr.rangeAt b (off+k*8) (Ab x s):=fun j u hj=>(hBr.out.cell (p:=⟨b,off+k*8+j,none⟩) hbl).trans (hc j u hj)
    have A:=HA.out c r1 r2 _ _ x s wr hGr.out hCr.out ((hat.below hBr.out nR).mono hBr.out.size)
    have hsn:fK keys (l.take (k+1))=(CH.fQ dO keys (fK keys (l.take k)).1 (fK keys (l.take k)).2 x).2:=by
     rw [CH.aH _ _ _ hxk]
     exact CH.addAll_snoc dO keys (l.take k) x [] []
    have KP:=hid fun (e:Ending) (w':World) (hR:Hg wr c r1 r2 keys (addC keys (fK keys (l.take k)).1 (fK keys (l.take k)).2 x) e w')=>L0 hGr.out hCr.out g2.out g3.out h9.out hBr.out hR
    have hrg:=hid hrg
    have hsn:=hid hsn
    have A:=hid A
    have hi8':(prog.info? 30).map (·.size)=some (Ab x s).length:=hi8
    clear hx hc hat hxk hCr hGr
    obtain⟨LL,hLL⟩:∃ LL,Ab x s=LL:=⟨_,rfl⟩
    rw [hLL] at hrg A hi8'
    clear hLL
    go_wp2_with (refine wpList_load_mid rfl 30 _ rfl b (off+k*8) rfl LL _ hrg.out underlying30 rfl hi8' ?_)
    refine A.out.mono ?_
    intro e w2 hR
    obtain⟨q1,q2,_⟩:=KP.out e w2 hR
    obtain⟨rfl,hC2,_⟩:=hR
    have hC2:Hid (aU w2 c r1 r2 keys (fK keys (l.take (k+1))).1 (fK keys (l.take (k+1))).2):=hid (by rw [hsn.out];exact hC2)
    have q1:=hid q1
    have q2:=hid q2
    clear KP A hsn hrg
    generalize (addC keys (fK keys (l.take k)).1 (fK keys (l.take k)).2 x).1=er at *
    go_wp2
    go_roundw
    case rel=>exact⟨k+1,by omega,by go_num,hC2,q1,q2⟩
    case measure=>simp [RowKit.intOf];omega
   ·obtain rfl:k=N:=by omega
    have hfin:=hCr.out
    rw [List.take_of_length_le (by rw [hN.out];exact Nat.le_refl _)] at hfin
    have hfin:=hid hfin
    clear hCr
    go_wp2
    go_ret
    refine⟨hGr.out,hBr.out,?_⟩
    rw [if_pos hok.out]
    exact⟨c,r1,r2,rfl,hfin.out,g1.out,g2.out,g3.out⟩
 ·rw [if_neg hok] at hif
  subst hif
  have hG1:=hid hG1
  have hb1:=hid hb1
  have hok:=hid hok
  go_wp2_with fail
  go_loopw [7] (fun i wr=>∃ k:Nat,k≤N∧i=.int .i64 k∧Hid (Gc wr)∧Hid (Below w.heap.size w wr)) (fun i _=>N - (RowKit.intOf i).toNat)
  case atStart=>exact⟨0,Nat.zero_le _,rfl,hG1,hb1⟩
  case round =>
   obtain⟨k,hkN,rfl,hGr,hBr⟩:=hrel
   by_cases hlt:k<N
   ·obtain⟨b,off,rfl,hbl,hx⟩:=hcells.out (by intro h;have:=hN.out;simp [h] at this;omega)
    obtain⟨x,hxk⟩:∃ x,l[k]?=some x:=⟨_,lZ (by rw [hN.out];exact hlt)⟩
    obtain⟨s,hc,hat⟩:=hx k x hxk
    have hrg:wr.rangeAt b (off+k*8) (Ab x s):=fun j u hj=>(hBr.out.cell (p:=⟨b,off+k*8+j,none⟩) hbl).trans (hc j u hj)
    have A:=addNil_any x s wr hGr.out ((hat.below hBr.out nR).mono hBr.out.size)
    have hrg:=hid hrg
    have A:=hid A
    have hi8':(prog.info? 30).map (·.size)=some (Ab x s).length:=hi8
    clear hx hc hat hxk
    obtain⟨LL,hLL⟩:∃ LL,Ab x s=LL:=⟨_,rfl⟩
    rw [hLL] at hrg A hi8'
    clear hLL
    go_wp2_with (refine wpList_load_mid rfl 30 _ rfl b (off+k*8) rfl LL _ hrg.out underlying30 rfl hi8' ?_)
    refine A.out.mono ?_
    rintro e w2 ⟨rfl,hb2⟩
    have q1:Hid (Gc w2):=hid (hGr.out.below hb2)
    have q2:Hid (Below w.heap.size w w2):=hid (hBr.out.trans (hb2.mono hBr.out.size))
    clear A hrg hb2
    go_wp2
    go_roundw
    case rel=>exact⟨k+1,by omega,by go_num,q1,q2⟩
    case measure=>simp [RowKit.intOf];omega
   ·obtain rfl:k=N:=by omega
    go_wp2
    go_ret
    refine⟨hGr.out,hBr.out,?_⟩
    rw [if_neg hok.out]
    rfl
theorem strs_new (w:World) (ls:List (List UInt8)) (h:ls.length≤1000000):Strs (w.alloc (.cells (ls.map ah).toArray 9)).heap.size (w.alloc (.cells (ls.map ah).toArray 9)) (.slice (some ⟨w.heap.size,0,none⟩) ls.length ls.length) ls:=(Fd w ls h).strs
theorem fewActs_any (v:Value) (l:List CH.Act) (w:World) (hv:Dr w.heap.size w v l) :
  Calls prog 19 #[v,.int .i64 5] w (Ret w (.bool (CH.fewActs l 5))):=by
 obtain⟨a,cap,rfl,hl,hcap,hne⟩:=hv
 obtain⟨R,hR⟩:∃ R,Hid (CH.fewActs l 5=R):=⟨_,hid rfl⟩
 rw [hR.out]
 have hne:=hid hne
 obtain⟨N,hN⟩:∃ N,l.length=N:=⟨_,rfl⟩
 rw [hN] at hl ⊢
 have hN:=hid hN
 go_enter func19,ntmps19
 go_wp2_with fail
 go_loopw [5] (fun i wr=>∃ k:Nat,k≤N∧i=.int .i64 k∧Hid (Below w.heap.size w wr)∧Hid ((l.take k).all CH.fewAct=true)) (fun i _=>N - (RowKit.intOf i).toNat)
 case atStart=>exact⟨0,Nat.zero_le _,rfl,hid (Below.refl _ _),hid rfl⟩
 case round =>
  obtain⟨k,hk,rfl,hBr,hI⟩:=hrel
  by_cases hlt:k<N
  ·obtain⟨b,off,rfl,hbl,hcells⟩:=hne.out (by intro h;have:=hN.out;simp [h] at this;omega)
   obtain⟨x,hx⟩:∃ x,l[k]?=some x:=⟨_,lZ (by rw [hN.out];exact hlt)⟩
   obtain⟨sx,hc,hat⟩:=hcells k x hx
   have hrg:wr.rangeAt b (off+k*37) (At x sx):=fun j u hj=>(hBr.out.cell (p:=⟨b,off+k*37+j,none⟩) hbl).trans (hc j u hj)
   have hlen:(prog.info? 67).map (·.size)=some (At x sx).length:=by kernel_rfl
   have h1c:=hid (actCells_oneR hat)
   have hlenA:(At x sx).length=37:=rfl
   have HA:=hid fun (W:World) (hb:Below w.heap.size w W)=>(hat.below hb nR).mono hb.size
   have hx:=hid hx
   clear hcells hc hat
   obtain⟨vn,vk,vm,vp,vj⟩:=sx
   have n35:(At x ⟨vn,vk,vm,vp,vj⟩)[35]?=some (.string ⟨x.id.toArray⟩):=rfl
   have n6:(At x ⟨vn,vk,vm,vp,vj⟩)[6]?=some (.string ⟨x.measure.id.toArray⟩):=rfl
   have n7:(At x ⟨vn,vk,vm,vp,vj⟩)[7]?=some (.string ⟨x.measure.authority.toArray⟩):=rfl
   have n9:(At x ⟨vn,vk,vm,vp,vj⟩)[9]?=some (.string ⟨x.measure.target.toArray⟩):=rfl
   have n18:(At x ⟨vn,vk,vm,vp,vj⟩)[18]?=some (.string ⟨x.licence.id.toArray⟩):=rfl
   generalize hC:At x { vn:=vn,vk:=vk,vm:=vm,vp:=vp,vj:=vj }=C at *
   have hn1:=hid (Br wr C 67)
   have hrg:=hid hrg
   have hC:=hid hC
   go_upto_region 5 with (first|refine wpList_load_mid rfl 67 _ rfl b (off+k*37) rfl C _ hrg.out underlying67 rfl hlen ?_|refine Ba rfl 67 _ _ rfl C rfl rfl (by rw [hlenA];rfl) hlen h1c.out ?_)
   have hb0:Below w.heap.size w (wr.alloc (.cells C.toArray 67)):=hBr.out.alloc hBr.out.size _
   have hblk:(wr.alloc (.cells C.toArray 67)).heap[wr.heap.size]?=some (.cells C.toArray 67 (0,0)):=heap_alloc_last wr _
   generalize wr.alloc (.cells C.toArray 67)=W1 at *
   have hlt1:wr.heap.size<W1.heap.size:=(aZ hblk)
   have KC:Hid (∀ (W:World),W.heap[wr.heap.size]?=some (.cells C.toArray 67 (0,0))→∀ (i:Nat) (u:Value),C[i]?=some u→W.cell? ⟨wr.heap.size,i,none⟩=some u):=hid fun W hW i u hu=>(Aa hW i).trans (by simpa using hu)
   have k35:=KC.out W1 hblk 35 _ n35
   have k6:=KC.out W1 hblk 6 _ n6
   have k7:=KC.out W1 hblk 7 _ n7
   have k9:=KC.out W1 hblk 9 _ n9
   have k18:=KC.out W1 hblk 18 _ n18
   clear hrg hn1 n35 n6 n7 n9 n18
   go_upto_region 6 with (fail)
   have RB:Hid (∀ (W:World),W.heap[wr.heap.size]?=some (.cells C.toArray 67 (0,0))→W.rangeAt wr.heap.size 1 (A4 x.change vn)∧W.rangeAt wr.heap.size 10 (Ah x.measure.aC vk).toList∧W.rangeAt wr.heap.size 25 (Au x.holding vj)∧W.cell? ⟨wr.heap.size,19,none⟩=some vm∧W.cell? ⟨wr.heap.size,20,none⟩=some vp):=hid fun W hW=>by
    have h0:W.rangeAt wr.heap.size 0 (At x { vn:=vn,vk:=vk,vm:=vm,vp:=vp,vj:=vj }):=fun j u hj=>by
     rw [hC.out] at hj
     rw [Nat.zero_add]
     exact KC.out W hW j u hj
    have q1:=Bp (l:=[aJ x.kind]) h0 1 rfl
    have q2:=Bp (l:=A4 x.change vn) q1 6 rfl
    have q3:=Bp (l:=As x.measure vk) q2 18 rfl
    have q4:=Bp (l:=Bt x.licence vm vp) q3 25 rfl
    have q5:=Cq (l:=As x.measure vk) q2
    have q6:=Bp (l:=[ah x.measure.id,ah x.measure.authority,aJ x.measure.kind,ah x.measure.target]) (m:=(Ah x.measure.aC vk).toList++[aJ x.measure.start,aJ x.measure.aO,aJ x.measure.fF]) q5 10 rfl
    exact⟨Cq q1,Cq q6,Cq q4,q3 1 _ rfl,q3 2 _ rfl⟩
   obtain⟨W2,hW2⟩:∃ W2,W1.alloc (.cells #[ah x.id,ah x.measure.id,ah x.measure.authority,ah x.measure.target,ah x.licence.id] 9)=W2:=⟨_,rfl⟩
   have hb2:Below W1.heap.size W1 W2:=by rw [← hW2];exact (Below.refl _ W1).alloc nR _
   have hs5:Strs W2.heap.size W2 (.slice (some ⟨W1.heap.size,0,none⟩) 5 5) [x.id,x.measure.id,x.measure.authority,x.measure.target,x.licence.id]:=by
    rw [← hW2]
    exact strs_new W1 [x.id,x.measure.id,x.measure.authority,x.measure.target,x.licence.id] (by simp)
   rw [hW2]
   clear hW2
   have hblk2:=(hb2.block _ hlt1).trans hblk
   have hbW2:Below w.heap.size w W2:=hb0.trans (hb2.mono hb0.size)
   have hlt2:wr.heap.size<W2.heap.size:=nL hlt1 hb2.size
   clear k35 k6 k7 k9 k18 hb2 hblk hb0
   have HS:=hid fun (W:World) (hb:Below W2.heap.size W2 W)=>(hs5.below hb nR).mono hb.size
   clear hs5
   obtain⟨p1,hp1⟩:∃ p,Hid (CH.iH x.change=p):=⟨_,hid rfl⟩
   obtain⟨p2,hp2⟩:∃ p,Hid (CH.smallF x.measure.aC 60=p):=⟨_,hid rfl⟩
   obtain⟨p3,hp3⟩:∃ p,Hid (CH.dM [x.id,x.measure.id,x.measure.authority,x.measure.target,x.licence.id] 5=p):=⟨_,hid rfl⟩
   obtain⟨p4,hp4⟩:∃ p,Hid (CH.dM x.licence.measures 70=p):=⟨_,hid rfl⟩
   obtain⟨p5,hp5⟩:∃ p,Hid (CH.dM x.licence.aN 70=p):=⟨_,hid rfl⟩
   obtain⟨p6,hp6⟩:∃ p,Hid (CH.fewHold x.holding=p):=⟨_,hid rfl⟩
   have hact:Hid (CH.fewAct x=(p1&&(p2&&(p3&&(p4&&(p5&&p6)))))):=hid (by rw [← hp1.out,← hp2.out,← hp3.out,← hp4.out,← hp5.out,← hp6.out];rfl)
   have hfalse:Hid ((p1&&(p2&&(p3&&(p4&&(p5&&p6)))))=false→R=false):=hid fun h=>by
    rw [← hR.out]
    unfold CH.fewActs
    rw [CH.eP _ l k x hx.out (hact.out.trans h)]
    rfl
   have F1:=hid (hp1.out ▸ fewChange_any x.change vn W2 (HA.out W2 hbW2).names)
   have F2:=hid fun (W:World) (hb:Below w.heap.size w W)=>hp2.out ▸ smallF_any x.measure.aC vk 60 W (HA.out W hb).kids (by decide) (by decide)
   have F3:=hid fun (W:World) (hb:Below W2.heap.size W2 W)=>hp3.out ▸ Gs _ _ 5 W (HS.out W hb)
   have F4:=hid fun (W:World) (hb:Below w.heap.size w W)=>hp4.out ▸ Gs _ _ 70 W (HA.out W hb).lm
   have F5:=hid fun (W:World) (hb:Below w.heap.size w W)=>hp5.out ▸ Gs _ _ 70 W (HA.out W hb).lp
   obtain⟨r1,_,_,_,_⟩:=RB.out W2 hblk2
   have r1:=hid r1
   have hi61:(prog.info? 58).map (·.size)=some 5:=by kernel_rfl
   have hi64:(prog.info? 61).map (·.size)=some 5:=by kernel_rfl
   have hi56:(prog.info? 53).map (·.size)=some 10:=by kernel_rfl
   go_wp2_with (refine wpList_load_mid rfl 58 _ rfl wr.heap.size 1 rfl (A4 x.change vn) _ r1.out underlying58 rfl hi61 ?_)
   refine F1.out.mono ?_
   rintro e w3 ⟨rfl,hb3⟩
   have dR:Below W2.heap.size W2 w3:=hb3
   have hblk3:=(hb3.block _ hlt2).trans hblk2
   have hbW3:Below w.heap.size w w3:=hbW2.trans (hb3.mono hbW2.size)
   have hlt3:wr.heap.size<w3.heap.size:=nL hlt2 hb3.size
   clear F1 r1 hb3
   cases p1 with
   | false =>
    go_wp2
    go_ret
    exact⟨by rw [hfalse.out rfl];rfl,hbW3⟩
   | true =>
    obtain⟨_,r2,_,_,_⟩:=RB.out w3 hblk3
    have r2:=hid r2
    go_wp2_with (refine Av rfl 61 _ rfl wr.heap.size 10 rfl (Ah x.measure.aC vk).toList _ r2.out underlying61 rfl hi64 ?_)
    refine (F2.out w3 hbW3).mono ?_
    rintro e w4 ⟨rfl,hb4⟩
    have hb4':Below W2.heap.size W2 w4:=dR.trans (hb4.mono dR.size)
    have hblk4:=(hb4.block _ hlt3).trans hblk3
    have hbW4:Below w.heap.size w w4:=hbW3.trans (hb4.mono hbW3.size)
    have hlt4:wr.heap.size<w4.heap.size:=nL hlt3 hb4.size
    clear F2 r2 hb4
    cases p2 with
    | false =>
     go_wp2
     go_ret
     exact⟨by rw [hfalse.out rfl];rfl,hbW4⟩
    | true =>
     go_wp2_with fail
     refine (F3.out w4 hb4').mono ?_
     rintro e w5 ⟨rfl,hb5⟩
     have hblk5:=(hb5.block _ hlt4).trans hblk4
     have hbW5:Below w.heap.size w w5:=hbW4.trans (hb5.mono hbW4.size)
     have hlt5:wr.heap.size<w5.heap.size:=nL hlt4 hb5.size
     clear F3 hb5
     cases p3 with
     | false =>
      go_wp2
      go_ret
      exact⟨by rw [hfalse.out rfl];rfl,hbW5⟩
     | true =>
      obtain⟨_,_,_,k19,_⟩:=RB.out w5 hblk5
      go_wp2_with fail
      refine (F4.out w5 hbW5).mono ?_
      rintro e w6 ⟨rfl,hb6⟩
      have hblk6:=(hb6.block _ hlt5).trans hblk5
      have hbW6:Below w.heap.size w w6:=hbW5.trans (hb6.mono hbW5.size)
      have hlt6:wr.heap.size<w6.heap.size:=nL hlt5 hb6.size
      clear F4 hb6 k19
      cases p4 with
      | false =>
       go_wp2
       go_ret
       exact⟨by rw [hfalse.out rfl];rfl,hbW6⟩
      | true =>
       obtain⟨_,_,_,_,k20⟩:=RB.out w6 hblk6
       go_wp2_with fail
       refine (F5.out w6 hbW6).mono ?_
       rintro e w7 ⟨rfl,hb7⟩
       have hblk7:=(hb7.block _ hlt6).trans hblk6
       have hbW7:Below w.heap.size w w7:=hbW6.trans (hb7.mono hbW6.size)
       have hlt7:wr.heap.size<w7.heap.size:=nL hlt6 hb7.size
       clear F5 hb7 k20
       cases p5 with
       | false =>
        go_wp2
        go_ret
        exact⟨by rw [hfalse.out rfl];rfl,hbW7⟩
       | true =>
        obtain⟨_,_,r3,_,_⟩:=RB.out w7 hblk7
        generalize hLL:Au x.holding vj=LL at *
        have hlen10:LL.length=10:=by rw [← hLL];rfl
        have hLL:=hid hLL
        have hi56':(prog.info? 53).map (·.size)=some LL.length:=by rw [hlen10];exact hi56
        have r3:=hid r3
        clear RB
        go_wp2_with (refine Av rfl 53 _ rfl wr.heap.size 25 rfl LL _ r3.out underlying53 rfl hi56' ?_)
        rw [Kv LL _ (by rw [hlen10];rfl)]
        have hbb:Below w7.heap.size w7 (w7.alloc (.cells LL.toArray 53)):=(Below.refl _ w7).alloc nR _
        have hbW8:Below w.heap.size w (w7.alloc (.cells LL.toArray 53)):=hbW7.trans (hbb.mono hbW7.size)
        have F6:=hid (hp6.out ▸ fewHold_any (.slice (some ⟨w7.heap.size,0,none⟩) 1 1) x.holding (w7.alloc (.cells LL.toArray 53)) ⟨w7.heap.size,vj,rfl,by simp,fun j y hj=>by
         rw [hLL.out] at hj
         have:=Br w7 LL 53 j y hj
         rwa [Nat.zero_add] at this,(HA.out _ hbW8).hj⟩)
        refine F6.out.mono ?_
        rintro e w8 ⟨rfl,hb8⟩
        have hbW9:Below w.heap.size w w8:=hbW8.trans (hb8.mono hbW8.size)
        clear F6 hb8 hbb hlen10 r3
        cases p6 with
        | false =>
         go_wp2
         go_ret
         exact⟨by rw [hfalse.out rfl];rfl,hbW9⟩
        | true =>
         have hI':Hid ((l.take (k+1)).all CH.fewAct=true):=hid (by rw [CH.dV _ l k x hx.out,hI.out,hact.out];rfl)
         have hB':Hid (Below w.heap.size w w8):=hid hbW9
         go_wp2
         go_roundw
         case rel=>exact⟨k+1,by omega,by go_num,hB',hI'⟩
         case measure=>simp [RowKit.intOf];omega
  ·obtain rfl:k=N:=by omega
   have hall:l.all CH.fewAct=true:=by have:=hI.out;rwa [← hN.out,List.take_length] at this
   go_wp2
   go_ret
   have hk5:decide ((k:Int)≤5)=R:=by
    rw [← hR.out]
    unfold CH.fewActs
    rw [hall,hN.out,Bool.true_and,decide_eq_decide]
    omega
   exact⟨by rw [← hk5];rfl,hBr.out⟩
end
section
open Go.Deep Go.Lib Go.Proofs.Tryz Go.RowKit Go.Shelf Go.Sort Go.WideShapes
section
variable {H:Type} {enc:TypeId × Value→H} {w:World} {spare:Nat→Bool} {held:Bool}
theorem Ke {t e:TypeId} {C fuel:Nat} {cs:List Value} {x:DataW H × List MemPlace} (ht:prog.underlying t=some (.slice e)) (hC:prog.cellsOf e=C) (hpos:0<C)
  (h:DataW.trod enc prog w 0 spare held fuel t cs=some x) :
  ∃ a len cap,cs=[.slice a len cap]∧len≤cap∧cap≤9223372036854775807 ∧
   (len≠0→∃ b off,a=some ⟨b,off,none⟩∧b<w.heap.size∧∀ j,j<len→∃ cs' k y,k<fuel∧cs'.length=C∧(∀ i u,cs'[i]?=some u→w.cell? ⟨b,off+j*C+i,none⟩=some u)∧DataW.trod enc prog w 0 spare held k e cs'=some y):=by
 subst hC
 rcases DataW.trod_slice ht h with⟨h0,_⟩|⟨a,len,cap,elems,rest,n,hn,rfl,_,_,hl,hm,hlen,hel,_,_⟩
 ·exact⟨none,0,0,h0,by omega,by omega,fun h=>absurd rfl h⟩
 ·unfold maxLen at hm
  refine⟨some a,len,cap,rfl,hl,by omega,fun hne=>?_⟩
  have key:∀ j,j<len→∃ cs' y,cs'.length=prog.cellsOf e∧(∀ i,i<prog.cellsOf e→w.cell? ((a.add (j*prog.cellsOf e)).add i)=cs'[i]?)∧DataW.trod enc prog w 0 spare held n e cs'=some y:=fun j hj=>by
   have h1:=hel j hj
   rw [lZ (by omega)] at h1
   obtain⟨cs',h2,h3⟩:=Option.bind_eq_some_iff.1 h1
   obtain⟨_,h4,h5⟩:=World.cells?_some h2
   exact⟨cs',_,h4,h5,h3⟩
  have hplain:∃ b off,a=⟨b,off,none⟩∧b<w.heap.size:=by
   obtain⟨cs',y,h4,h5,_⟩:=key 0 (by omega)
   have h6:=h5 0 hpos
   rw [lZ (by omega)] at h6
   have e0:(a.add (0*prog.cellsOf e)).add 0=a:=by simp [Addr.add]
   rw [e0] at h6
   have h7:=World.block_lt_of_cell? w _ h6
   obtain⟨b,off,sub⟩:=a
   cases sub with
   | none=>exact⟨b,off,rfl,h7⟩
   | some q =>
    exfalso
    unfold World.cell? at h6
    split at h6
    ·simp at h6
    ·cases h6
  obtain⟨b,off,rfl,hb⟩:=hplain
  refine⟨b,off,rfl,hb,fun j hj=>?_⟩
  obtain⟨cs',y,h4,h5,h6⟩:=key j hj
  refine⟨cs',n,y,by omega,h4,fun i u hu=>?_,h6⟩
  have hi:i<cs'.length:=(lS hu)
  have h7:=h5 i (by omega)
  rw [Deep.add_add,hu] at h7
  rw [Nat.add_assoc,← Go.WideShapes.add_plain]
  exact h7
theorem Ak {t:TypeId} {fs:Array Field} {fuel:Nat} {cs:List Value} {x:DataW H × List MemPlace} (ht:prog.underlying t=some (.struct fs)) (h:DataW.trod enc prog w 0 spare held fuel t cs=some x)
  (i:Nat) (e:TypeId) (o n:Nat) (hf:(fs[i]?).map (fun f=>(f.type,f.offset))=some (e,o)) (hn:prog.cellsOf e=n) :
  ∃ k y,k<fuel∧DataW.trod enc prog w 0 spare held k e ((cs.drop o).take n)=some y:=by
 obtain⟨xs,k,rfl,_,_,hlen,hx⟩:=DataW.trod_struct ht h
 cases hi:fs[i]? with
 | none=>rw [hi] at hf;cases hf
 | some f =>
  rw [hi] at hf
  simp only [Option.map_some,Option.some.injEq,Prod.mk.injEq] at hf
  obtain⟨rfl,rfl⟩:=hf
  have hlt:i<xs.length:=by rw [hlen];exact (aZ hi)
  have:=hx i f hi
  rw [hn,lZ hlt] at this
  exact⟨k,_,by omega,this⟩
theorem Fs {t:TypeId} {fs:Array Field} {fuel:Nat} {cs:List Value} {x:DataW H × List MemPlace} (ht:prog.underlying t=some (.struct fs)) (h:DataW.trod enc prog w 0 spare held fuel t cs=some x)
  (n:Nat) (hn:prog.cellsOf t=n):cs.length=n:=by
 obtain⟨xs,k,_,_,hl,_,_⟩:=DataW.trod_struct ht h
 rw [hl,hn]
theorem Cd {k:Nat} {cs:List Value} {y:DataW H × List MemPlace} (h:DataW.trod enc prog w 0 spare held k 3 cs=some y):∃ n:Int,cs=[aJ n]∧I64 n:=by
 obtain⟨n,h1,_,h3⟩:=DataW.trod_int underlying3 h
 rw [Lit.wf_int_iff] at h3
 exact⟨n,h1,h3⟩
theorem Dw {k:Nat} {cs:List Value} {y:DataW H × List MemPlace} (h:DataW.trod enc prog w 0 spare held k 9 cs=some y):∃ l:List UInt8,cs=[ah l]∧l.length≤9223372036854775807:=by
 obtain⟨s,h1,_,h3⟩:=DataW.trod_string underlying9 h
 unfold maxLen at h3
 obtain⟨⟨l⟩⟩:=s
 refine⟨l,h1,?_⟩
 have:l.length≤2 ^ 63 - 1:=h3
 omega
theorem Iy {α:Type} {p:Nat→α→Prop}:∀ n,(∀ j,j<n→∃ x,p j x)→∃ l:List α,l.length=n∧∀ j x,l[j]?=some x→p j x
 | 0,_=>⟨[],rfl,fun j x h=>by simp at h⟩
 | n+1,h=>by
  obtain⟨l,hl,hx⟩:=Iy n (fun j hj=>h j (by omega))
  obtain⟨x,hp⟩:=h n (by omega)
  refine⟨l++[x],by simp [hl],fun j y hj=>?_⟩
  rcases Nat.lt_trichotomy j n with h1|h1|h1
  ·rw [List.getElem?_append_left (by omega)] at hj
   exact hx j y hj
  ·subst h1
   rw [← hl] at hj
   simp at hj
   subst hj
   exact hp
  ·rw [List.getElem?_eq_none (by simp;omega)] at hj
   cases hj
theorem G3 {k:Nat} {cs:List Value} {y:DataW H × List MemPlace} (h:DataW.trod enc prog w 0 spare held k 22 cs=some y) :
  ∃ v ls,cs=[v]∧Strs w.heap.size w v ls∧∀ l∈ls,l.length≤9223372036854775807:=by
 obtain⟨a,len,cap,rfl,h1,h2,h3⟩:=Ke (C:=1) underlying22 (by kernel_rfl) (by decide) h
 by_cases h0:len=0
 ·subst h0
  exact⟨_,[],rfl,⟨a,cap,rfl,h1,h2,fun hne=>absurd rfl hne⟩,fun _ h=>by cases h⟩
 ·obtain⟨b,off,rfl,hb,hx⟩:=h3 h0
  obtain⟨ls,hl,hp⟩:=Iy (p:=fun j (l:List UInt8)=>w.cell? ⟨b,off+j,none⟩=some (ah l)∧l.length≤9223372036854775807) len (fun j hj=>by
   obtain⟨cs',k',y',_,_,hc,ht⟩:=hx j hj
   obtain⟨l,rfl,hl⟩:=Dw ht
   have:=hc 0 _ rfl
   rw [Nat.mul_one,Nat.add_zero] at this
   exact⟨l,this,hl⟩)
  refine⟨_,ls,rfl,⟨_,cap,by rw [hl],by omega,h2,fun _=>⟨b,off,rfl,hb,fun j l hj=>(hp j l hj).1⟩⟩,fun l hl'=>?_⟩
  obtain⟨j,hj⟩:=List.mem_iff_getElem?.1 hl'
  exact (hp j l hj).2
theorem open_names {k:Nat} {cs:List Value} {y:DataW H × List MemPlace} (h:DataW.trod enc prog w 0 spare held k 54 cs=some y) :
  ∃ v ns,cs=[v]∧Cc w.heap.size w v ns:=by
 obtain⟨a,len,cap,rfl,h1,h2,h3⟩:=Ke (C:=2) underlying54 (by kernel_rfl) (by decide) h
 by_cases h0:len=0
 ·subst h0
  exact⟨_,[],rfl,⟨a,cap,rfl,h1,h2,fun hne=>absurd rfl hne⟩⟩
 ·obtain⟨b,off,rfl,hb,hx⟩:=h3 h0
  obtain⟨ns,hl,hp⟩:=Iy (p:=fun j (n:CH.Name)=>∃ vw,w.cell? ⟨b,off+j*2,none⟩=some (.int .i64 n.script)∧w.cell? ⟨b,off+j*2+1,none⟩=some vw∧Strs w.heap.size w vw n.words) len (fun j hj=>by
   obtain⟨cs',k',y',_,hlen,hc,ht⟩:=hx j hj
   obtain⟨_,_,_,t0⟩:=Ak underlying158 ht 0 3 0 1 rfl (by kernel_rfl)
   obtain⟨_,_,_,t1⟩:=Ak underlying158 ht 1 22 1 1 rfl (by kernel_rfl)
   match cs',hlen with
   | [c0,c1],_ =>
    obtain⟨n,e0,_⟩:=Cd t0
    obtain⟨v,ls,e1,hs,_⟩:=G3 t1
    simp at e0 e1
    subst e0 e1
    exact⟨⟨n,ls⟩,_,hc 0 _ rfl,hc 1 _ rfl,hs⟩)
  exact⟨_,ns,rfl,⟨_,cap,by rw [hl],by omega,h2,fun _=>⟨b,off,rfl,hb,hp⟩⟩⟩
theorem rowAt_of {B:Nat}:∀ (l:List CH.Formula) (b off:Nat),(∀ (j:Nat) (f:CH.Formula),l[j]?=some f→∃ vk,w.cell? ⟨b,off+j*5,none⟩=some (.int .i64 f.op)∧w.cell? ⟨b,off+j*5+1,none⟩=some (.string ⟨f.name.toArray⟩)∧w.cell? ⟨b,off+j*5+2,none⟩=some (.int .i64 f.cmp)∧w.cell? ⟨b,off+j*5+3,none⟩=some (.int .i64 f.n)∧w.cell? ⟨b,off+j*5+4,none⟩=some vk∧Am B w f vk)→bD B w l b off
 | [],_,_,_=>by unfold bD;trivial
 | f::l,b,off,h=>by
  unfold bD
  refine⟨?_,rowAt_of l b (off+5) fun j g hj=>?_⟩
  ·have:=h 0 f rfl
   rw [Nat.zero_mul,Nat.add_zero] at this
   exact this
  ·have:=h (j+1) g (by simpa using hj)
   rw [show off+(j+1)*5=off+5+j*5 from by omega] at this
   exact this
def formCells (f:CH.Formula) (vk:Value):List Value:=[aJ f.op,ah f.name,aJ f.cmp,aJ f.n,vk]
theorem open_form:∀ (k:Nat) {cs:List Value} {y:DataW H × List MemPlace},DataW.trod enc prog w 0 spare held k 61 cs=some y→∃ f vk,cs=formCells f vk∧Am w.heap.size w f vk:=by
 intro k
 induction k using Nat.strongRecOn with
 | _ k ih =>
  intro cs y ht
  have hlen:=Fs underlying61 ht 5 (by kernel_rfl)
  obtain⟨_,_,_,t0⟩:=Ak underlying61 ht 0 3 0 1 rfl (by kernel_rfl)
  obtain⟨_,_,_,t1⟩:=Ak underlying61 ht 1 9 1 1 rfl (by kernel_rfl)
  obtain⟨_,_,_,t2⟩:=Ak underlying61 ht 2 3 2 1 rfl (by kernel_rfl)
  obtain⟨_,_,_,t3⟩:=Ak underlying61 ht 3 3 3 1 rfl (by kernel_rfl)
  obtain⟨k4,_,hk4,t4⟩:=Ak underlying61 ht 4 59 4 1 rfl (by kernel_rfl)
  obtain⟨a,len,cap,e4,h1,h2,h3⟩:=Ke (C:=5) underlying59 (by kernel_rfl) (by decide) t4
  obtain⟨op,e0,_⟩:=Cd t0
  obtain⟨name,e1,_⟩:=Dw t1
  obtain⟨cmp,e2,_⟩:=Cd t2
  obtain⟨n,e3,_⟩:=Cd t3
  match cs,hlen with
  | [c0,c1,c2,c3,c4],_ =>
   simp at e0 e1 e2 e3 e4
   subst e0 e1 e2 e3 e4
   by_cases h0:len=0
   ·subst h0
    refine⟨.mk op name cmp n [],_,rfl,?_⟩
    unfold Am
    exact⟨a,cap,rfl,h1,h2,fun hne=>absurd rfl hne⟩
   ·obtain⟨b,off,rfl,hb,hx⟩:=h3 h0
    obtain⟨kids,hl,hp⟩:=Iy (p:=fun j (f:CH.Formula)=>∃ vk,w.cell? ⟨b,off+j*5,none⟩=some (.int .i64 f.op)∧w.cell? ⟨b,off+j*5+1,none⟩=some (.string ⟨f.name.toArray⟩)∧w.cell? ⟨b,off+j*5+2,none⟩=some (.int .i64 f.cmp)∧w.cell? ⟨b,off+j*5+3,none⟩=some (.int .i64 f.n)∧w.cell? ⟨b,off+j*5+4,none⟩=some vk∧Am w.heap.size w f vk) len (fun j hj=>by
     obtain⟨cs',k',y',hk',_,hc,ht'⟩:=hx j hj
     obtain⟨f,vk,rfl,hK⟩:=ih k' (by omega) ht'
     exact⟨f,vk,hc 0 _ rfl,hc 1 _ rfl,hc 2 _ rfl,hc 3 _ rfl,hc 4 _ rfl,hK⟩)
    refine⟨.mk op name cmp n kids,_,rfl,?_⟩
    unfold Am
    exact⟨_,cap,by rw [hl],by omega,h2,fun _=>⟨b,off,rfl,hb,rowAt_of kids b off hp⟩⟩
structure ActNums (a:CH.Act):Prop where
 kind:I64 a.kind
 n:I64 a.n
 pos:I64 a.change.pos
 meas:MeasureNums a.measure
theorem open_change {k:Nat} {cs:List Value} {y:DataW H × List MemPlace} (ht:DataW.trod enc prog w 0 spare held k 58 cs=some y) :
  ∃ c vn,cs=A4 c vn∧Cc w.heap.size w vn c.entry.names∧I64 c.pos:=by
 have hlen:=Fs underlying58 ht 5 (by kernel_rfl)
 obtain⟨_,_,_,t0⟩:=Ak underlying58 ht 0 3 0 1 rfl (by kernel_rfl)
 obtain⟨_,_,_,t1⟩:=Ak underlying58 ht 1 9 1 1 rfl (by kernel_rfl)
 obtain⟨_,_,_,t2⟩:=Ak underlying58 ht 2 56 2 2 rfl (by kernel_rfl)
 obtain⟨_,_,_,t3⟩:=Ak underlying58 ht 3 3 4 1 rfl (by kernel_rfl)
 obtain⟨_,_,_,u0⟩:=Ak underlying56 t2 0 9 0 1 rfl (by kernel_rfl)
 obtain⟨_,_,_,u1⟩:=Ak underlying56 t2 1 54 1 1 rfl (by kernel_rfl)
 obtain⟨kind,e0,_⟩:=Cd t0
 obtain⟨id,e1,_⟩:=Dw t1
 obtain⟨eid,e2,_⟩:=Dw u0
 obtain⟨vn,ns,e3,hN⟩:=open_names u1
 obtain⟨pos,e4,hp⟩:=Cd t3
 match cs,hlen with
 | [c0,c1,c2,c3,c4],_ =>
  simp at e0 e1 e2 e3 e4
  subst e0 e1 e2 e3 e4
  exact⟨⟨kind,id,⟨eid,ns⟩,pos⟩,_,rfl,hN,hp⟩
theorem open_meas {k:Nat} {cs:List Value} {y:DataW H × List MemPlace} (ht:DataW.trod enc prog w 0 spare held k 63 cs=some y) :
  ∃ m vk,cs=As m vk∧Am w.heap.size w m.aC vk∧MeasureNums m:=by
 have hlen:=Fs underlying63 ht 12 (by kernel_rfl)
 obtain⟨_,_,_,t0⟩:=Ak underlying63 ht 0 9 0 1 rfl (by kernel_rfl)
 obtain⟨_,_,_,t1⟩:=Ak underlying63 ht 1 9 1 1 rfl (by kernel_rfl)
 obtain⟨_,_,_,t2⟩:=Ak underlying63 ht 2 3 2 1 rfl (by kernel_rfl)
 obtain⟨_,_,_,t3⟩:=Ak underlying63 ht 3 9 3 1 rfl (by kernel_rfl)
 obtain⟨_,_,_,t4⟩:=Ak underlying63 ht 4 61 4 5 rfl (by kernel_rfl)
 obtain⟨_,_,_,t5⟩:=Ak underlying63 ht 5 3 9 1 rfl (by kernel_rfl)
 obtain⟨_,_,_,t6⟩:=Ak underlying63 ht 6 3 10 1 rfl (by kernel_rfl)
 obtain⟨_,_,_,t7⟩:=Ak underlying63 ht 7 3 11 1 rfl (by kernel_rfl)
 obtain⟨id,e0,_⟩:=Dw t0
 obtain⟨au,e1,_⟩:=Dw t1
 obtain⟨kind,e2,n2⟩:=Cd t2
 obtain⟨tg,e3,_⟩:=Dw t3
 obtain⟨f,vk,e4,hK⟩:=open_form _ t4
 obtain⟨x5,e5,n5⟩:=Cd t5
 obtain⟨x6,e6,n6⟩:=Cd t6
 obtain⟨x7,e7,n7⟩:=Cd t7
 match cs,hlen with
 | [c0,c1,c2,c3,c4,c5,c6,c7,c8,c9,c10,c11],_ =>
  simp [formCells] at e0 e1 e2 e3 e4 e5 e6 e7
  obtain⟨f0,f1,f2,f3,f4⟩:=e4
  subst e0 e1 e2 e3 f0 f1 f2 f3 f4 e5 e6 e7
  exact⟨⟨id,au,kind,tg,f,x5,x6,x7⟩,_,rfl,hK,⟨n2,n5,n6,n7⟩⟩
theorem open_lic {k:Nat} {cs:List Value} {y:DataW H × List MemPlace} (ht:DataW.trod enc prog w 0 spare held k 65 cs=some y) :
  ∃ l vm vp,cs=Bt l vm vp∧Strs w.heap.size w vm l.measures∧Strs w.heap.size w vp l.aN:=by
 have hlen:=Fs underlying65 ht 7 (by kernel_rfl)
 obtain⟨_,_,_,t0⟩:=Ak underlying65 ht 0 9 0 1 rfl (by kernel_rfl)
 obtain⟨_,_,_,t1⟩:=Ak underlying65 ht 1 22 1 1 rfl (by kernel_rfl)
 obtain⟨_,_,_,t2⟩:=Ak underlying65 ht 2 22 2 1 rfl (by kernel_rfl)
 obtain⟨_,_,_,t3⟩:=Ak underlying65 ht 3 3 3 1 rfl (by kernel_rfl)
 obtain⟨_,_,_,t4⟩:=Ak underlying65 ht 4 3 4 1 rfl (by kernel_rfl)
 obtain⟨_,_,_,t5⟩:=Ak underlying65 ht 5 3 5 1 rfl (by kernel_rfl)
 obtain⟨_,_,_,t6⟩:=Ak underlying65 ht 6 3 6 1 rfl (by kernel_rfl)
 obtain⟨id,e0,_⟩:=Dw t0
 obtain⟨vm,lm,e1,hm,_⟩:=G3 t1
 obtain⟨vp,lp,e2,hp,_⟩:=G3 t2
 obtain⟨x3,e3,_⟩:=Cd t3
 obtain⟨x4,e4,_⟩:=Cd t4
 obtain⟨x5,e5,_⟩:=Cd t5
 obtain⟨x6,e6,_⟩:=Cd t6
 match cs,hlen with
 | [c0,c1,c2,c3,c4,c5,c6],_ =>
  simp at e0 e1 e2 e3 e4 e5 e6
  subst e0 e1 e2 e3 e4 e5 e6
  exact⟨⟨id,lm,lp,x3,x4,x5,x6⟩,_,_,rfl,hm,hp⟩
theorem open_hold {k:Nat} {cs:List Value} {y:DataW H × List MemPlace} (ht:DataW.trod enc prog w 0 spare held k 53 cs=some y) :
  ∃ l vj,cs=Au l vj∧Strs w.heap.size w vj l.joint:=by
 have hlen:=Fs underlying53 ht 10 (by kernel_rfl)
 obtain⟨_,_,_,t0⟩:=Ak underlying53 ht 0 9 0 1 rfl (by kernel_rfl)
 obtain⟨_,_,_,t1⟩:=Ak underlying53 ht 1 9 1 1 rfl (by kernel_rfl)
 obtain⟨_,_,_,t2⟩:=Ak underlying53 ht 2 9 2 1 rfl (by kernel_rfl)
 obtain⟨_,_,_,t3⟩:=Ak underlying53 ht 3 9 3 1 rfl (by kernel_rfl)
 obtain⟨_,_,_,t4⟩:=Ak underlying53 ht 4 9 4 1 rfl (by kernel_rfl)
 obtain⟨_,_,_,t5⟩:=Ak underlying53 ht 5 22 5 1 rfl (by kernel_rfl)
 obtain⟨_,_,_,t6⟩:=Ak underlying53 ht 6 3 6 1 rfl (by kernel_rfl)
 obtain⟨_,_,_,t7⟩:=Ak underlying53 ht 7 3 7 1 rfl (by kernel_rfl)
 obtain⟨_,_,_,t8⟩:=Ak underlying53 ht 8 3 8 1 rfl (by kernel_rfl)
 obtain⟨_,_,_,t9⟩:=Ak underlying53 ht 9 3 9 1 rfl (by kernel_rfl)
 obtain⟨x0,e0,_⟩:=Dw t0
 obtain⟨x1,e1,_⟩:=Dw t1
 obtain⟨x2,e2,_⟩:=Dw t2
 obtain⟨x3,e3,_⟩:=Dw t3
 obtain⟨x4,e4,_⟩:=Dw t4
 obtain⟨vj,x5,e5,hj,_⟩:=G3 t5
 obtain⟨x6,e6,_⟩:=Cd t6
 obtain⟨x7,e7,_⟩:=Cd t7
 obtain⟨x8,e8,_⟩:=Cd t8
 obtain⟨x9,e9,_⟩:=Cd t9
 match cs,hlen with
 | [c0,c1,c2,c3,c4,c5,c6,c7,c8,c9],_ =>
  simp at e0 e1 e2 e3 e4 e5 e6 e7 e8 e9
  subst e0 e1 e2 e3 e4 e5 e6 e7 e8 e9
  exact⟨⟨x0,x1,x2,x3,x4,x5,x6,x7,x8,x9⟩,_,rfl,hj⟩
theorem split37 {α:Type} (cs:List α) (h:cs.length=37):cs=(cs.drop 0).take 1++((cs.drop 1).take 5++((cs.drop 6).take 12++((cs.drop 18).take 7++((cs.drop 25).take 10++((cs.drop 35).take 1++(cs.drop 36).take 1))))):=by
 have key:∀ (o n m:Nat),m=o+n→cs.drop o=(cs.drop o).take n++cs.drop m:=fun o n m e=>by
  subst e
  rw [← List.drop_drop,List.take_append_drop]
 have e36:(cs.drop 36).take 1=cs.drop 36:=List.take_of_length_le (by simp;omega)
 rw [e36,← key 35 1 36 rfl,← key 25 10 35 rfl,← key 18 7 25 rfl,← key 6 12 18 rfl,← key 1 5 6 rfl,← key 0 1 1 rfl,List.drop_zero]
theorem open_act {k:Nat} {cs:List Value} {y:DataW H × List MemPlace} (ht:DataW.trod enc prog w 0 spare held k 67 cs=some y) :
  ∃ a s,cs=At a s∧gG w.heap.size w a s∧ActNums a:=by
 have hlen:=Fs underlying67 ht 37 (by kernel_rfl)
 obtain⟨_,_,_,t0⟩:=Ak underlying67 ht 0 3 0 1 rfl (by kernel_rfl)
 obtain⟨_,_,_,t1⟩:=Ak underlying67 ht 1 58 1 5 rfl (by kernel_rfl)
 obtain⟨_,_,_,t2⟩:=Ak underlying67 ht 2 63 6 12 rfl (by kernel_rfl)
 obtain⟨_,_,_,t3⟩:=Ak underlying67 ht 3 65 18 7 rfl (by kernel_rfl)
 obtain⟨_,_,_,t4⟩:=Ak underlying67 ht 4 53 25 10 rfl (by kernel_rfl)
 obtain⟨_,_,_,t5⟩:=Ak underlying67 ht 5 9 35 1 rfl (by kernel_rfl)
 obtain⟨_,_,_,t6⟩:=Ak underlying67 ht 6 3 36 1 rfl (by kernel_rfl)
 obtain⟨kind,e0,n0⟩:=Cd t0
 obtain⟨c,vn,e1,hN,np⟩:=open_change t1
 obtain⟨m,vk,e2,hK,nm⟩:=open_meas t2
 obtain⟨l,vm,vp,e3,hm,hp⟩:=open_lic t3
 obtain⟨h,vj,e4,hj⟩:=open_hold t4
 obtain⟨id,e5,_⟩:=Dw t5
 obtain⟨n,e6,nn⟩:=Cd t6
 refine⟨⟨kind,c,m,l,h,id,n⟩,⟨vn,vk,vm,vp,vj⟩,?_,⟨hN,hK,hm,hp,hj⟩,⟨n0,nn,np,nm⟩⟩
 rw [split37 cs hlen,e0,e1,e2,e3,e4,e5,e6]
 rfl
theorem open_acts {k:Nat} {cs:List Value} {y:DataW H × List MemPlace} (h:DataW.trod enc prog w 0 spare held k 26 cs=some y) :
  ∃ v l,cs=[v]∧Dr w.heap.size w v l∧∀ a∈l,ActNums a:=by
 obtain⟨a,len,cap,rfl,h1,h2,h3⟩:=Ke (C:=37) underlying26 (by kernel_rfl) (by decide) h
 by_cases h0:len=0
 ·subst h0
  exact⟨_,[],rfl,⟨a,cap,rfl,h1,h2,fun hne=>absurd rfl hne⟩,fun _ h=>by cases h⟩
 ·obtain⟨b,off,rfl,hb,hx⟩:=h3 h0
  obtain⟨l,hl,hp⟩:=Iy (p:=fun j (x:CH.Act)=>(∃ s,(∀ i u,(At x s)[i]?=some u→w.cell? ⟨b,off+j*37+i,none⟩=some u)∧gG w.heap.size w x s)∧ActNums x) len (fun j hj=>by
   obtain⟨cs',k',y',_,_,hc,ht⟩:=hx j hj
   obtain⟨x,s,rfl,hr,hn⟩:=open_act ht
   exact⟨x,⟨s,hc,hr⟩,hn⟩)
  refine⟨_,l,rfl,⟨_,cap,by rw [hl],by omega,h2,fun _=>⟨b,off,rfl,hb,fun j x hj=>(hp j x hj).1⟩⟩,fun x hx=>?_⟩
  obtain⟨j,hj⟩:=List.mem_iff_getElem?.1 hx
  exact (hp j x hj).2
structure gK (B:Nat) (w:World) (v:CH.Version) (s:bF):Prop where
 acts:Dr B w s.va v.acts
 sig:Strs B w s.v1 v.sel.sig
 path:Strs B w s.v2 v.sel.path
structure VerNums (v:CH.Version):Prop where
 authority:I64 v.authority
 number:I64 v.number
 pos:I64 v.pos
 index:I64 v.sel.index
 acts:∀ a∈v.acts,ActNums a
theorem open_ver {k:Nat} {cs:List Value} {y:DataW H × List MemPlace} (ht:DataW.trod enc prog w 0 spare held k 30 cs=some y) :
  ∃ v s,cs=Ab v s∧gK w.heap.size w v s∧VerNums v:=by
 have hlen:=Fs underlying30 ht 8 (by kernel_rfl)
 obtain⟨_,_,_,t0⟩:=Ak underlying30 ht 0 3 0 1 rfl (by kernel_rfl)
 obtain⟨_,_,_,t1⟩:=Ak underlying30 ht 1 3 1 1 rfl (by kernel_rfl)
 obtain⟨_,_,_,t2⟩:=Ak underlying30 ht 2 3 2 1 rfl (by kernel_rfl)
 obtain⟨_,_,_,t3⟩:=Ak underlying30 ht 3 9 3 1 rfl (by kernel_rfl)
 obtain⟨_,_,_,t4⟩:=Ak underlying30 ht 4 26 4 1 rfl (by kernel_rfl)
 obtain⟨_,_,_,t5⟩:=Ak underlying30 ht 5 28 5 3 rfl (by kernel_rfl)
 obtain⟨_,_,_,u0⟩:=Ak underlying28 t5 0 3 0 1 rfl (by kernel_rfl)
 obtain⟨_,_,_,u1⟩:=Ak underlying28 t5 1 22 1 1 rfl (by kernel_rfl)
 obtain⟨_,_,_,u2⟩:=Ak underlying28 t5 2 22 2 1 rfl (by kernel_rfl)
 obtain⟨x0,e0,n0⟩:=Cd t0
 obtain⟨x1,e1,n1⟩:=Cd t1
 obtain⟨x2,e2,n2⟩:=Cd t2
 obtain⟨x3,e3,_⟩:=Dw t3
 obtain⟨va,x4,e4,ha,na⟩:=open_acts t4
 obtain⟨x5,e5,n5⟩:=Cd u0
 obtain⟨v1,x6,e6,h1,_⟩:=G3 u1
 obtain⟨v2,x7,e7,h2,_⟩:=G3 u2
 match cs,hlen with
 | [c0,c1,c2,c3,c4,c5,c6,c7],_ =>
  simp at e0 e1 e2 e3 e4 e5 e6 e7
  subst e0 e1 e2 e3 e4 e5 e6 e7
  exact⟨⟨x0,x1,x2,x3,x4,⟨x5,x6,x7⟩⟩,⟨_,_,_⟩,rfl,⟨ha,h1,h2⟩,⟨n0,n1,n2,n5,na⟩⟩
def Eh (B:Nat) (w:World) (v:Value) (l:List CH.Version):Prop :=
 ∃ a cap,v=.slice a l.length cap∧l.length≤cap∧cap≤9223372036854775807 ∧
  (l≠[]→∃ b off,a=some ⟨b,off,none⟩∧b<B∧∀ j x,l[j]?=some x→∃ s,(∀ i u,(Ab x s)[i]?=some u→w.cell? ⟨b,off+j*8+i,none⟩=some u)∧gK B w x s)
theorem open_vers {k:Nat} {cs:List Value} {y:DataW H × List MemPlace} (h:DataW.trod enc prog w 0 spare held k 23 cs=some y) :
  ∃ v l,cs=[v]∧Eh w.heap.size w v l∧∀ a∈l,VerNums a:=by
 obtain⟨a,len,cap,rfl,h1,h2,h3⟩:=Ke (C:=8) underlying23 (by kernel_rfl) (by decide) h
 by_cases h0:len=0
 ·subst h0
  exact⟨_,[],rfl,⟨a,cap,rfl,h1,h2,fun hne=>absurd rfl hne⟩,fun _ h=>by cases h⟩
 ·obtain⟨b,off,rfl,hb,hx⟩:=h3 h0
  obtain⟨l,hl,hp⟩:=Iy (p:=fun j (x:CH.Version)=>(∃ s,(∀ i u,(Ab x s)[i]?=some u→w.cell? ⟨b,off+j*8+i,none⟩=some u)∧gK w.heap.size w x s)∧VerNums x) len (fun j hj=>by
   obtain⟨cs',k',y',_,_,hc,ht⟩:=hx j hj
   obtain⟨x,s,rfl,hr,hn⟩:=open_ver ht
   exact⟨x,⟨s,hc,hr⟩,hn⟩)
  refine⟨_,l,rfl,⟨_,cap,by rw [hl],by omega,h2,fun _=>⟨b,off,rfl,hb,fun j x hj=>(hp j x hj).1⟩⟩,fun x hx=>?_⟩
  obtain⟨j,hj⟩:=List.mem_iff_getElem?.1 hx
  exact (hp j x hj).2
end
end
end Go.Proofs.YtjaeapaeaiiieaaGreatDoor
namespace CH
def fewVer (v:Version):Bool:=fewActs v.acts 5&&(decide (v.prev.length≤60)&&(dM v.sel.sig 30&&dM v.sel.path 30))
def few (l:List Version) (most:Nat):Bool:=l.all fewVer&&decide (l.length≤most)
end CH
namespace Go.Proofs.YtjaeapaeaiiieaaGreatDoor
open Go.RowKit Go.Lib Go.Shelf Go.Sort
theorem Dr.form {B:Nat} {w:World} {v:Value} {l:List CH.Act} (h:Dr B w v l):∃ a cap,v=.slice a l.length cap:=by
 obtain⟨a,cap,h1,_⟩:=h
 exact⟨a,cap,h1⟩
theorem gK.below {B B':Nat} {w w':World} {v:CH.Version} {s:bF} (h:gK B w v s) (hb:Below B' w w') (hB:B≤B'):gK B w' v s:=⟨h.acts.below hb hB,h.sig.below hb hB,h.path.below hb hB⟩
theorem gK.mono {B B':Nat} {w:World} {v:CH.Version} {s:bF} (h:gK B w v s) (hB:B≤B'):gK B' w v s:=⟨h.acts.mono hB,h.sig.mono hB,h.path.mono hB⟩
theorem few_any (v:Value) (l:List CH.Version) (w:World) (hv:Eh w.heap.size w v l) :
  Calls Tryz.prog 5 #[v,.int .i64 8] w (Ret w (.bool (CH.few l 8))):=by
 obtain⟨a,cap,rfl,hl,hcap,hne⟩:=hv
 obtain⟨R,hR⟩:∃ R,Hid (CH.few l 8=R):=⟨_,hid rfl⟩
 rw [hR.out]
 have hne:=hid hne
 obtain⟨N,hN⟩:∃ N,l.length=N:=⟨_,rfl⟩
 rw [hN] at hl ⊢
 have hN:=hid hN
 go_enter Tryz.func5,Tryz.ntmps5
 go_wp2_with fail
 go_loopw [5] (fun i wr=>∃ k:Nat,k≤N∧i=.int .i64 k∧Hid (Below w.heap.size w wr)∧Hid ((l.take k).all CH.fewVer=true)) (fun i _=>N - (RowKit.intOf i).toNat)
 case atStart=>exact⟨0,Nat.zero_le _,rfl,hid (Below.refl _ _),hid rfl⟩
 case round =>
  obtain⟨k,hk,rfl,hBr,hI⟩:=hrel
  by_cases hlt:k<N
  ·obtain⟨b,off,rfl,hbl,hcells⟩:=hne.out (by intro h;have:=hN.out;simp [h] at this;omega)
   obtain⟨x,hx⟩:∃ x,l[k]?=some x:=⟨_,List.getElem?_eq_getElem (by rw [hN.out];exact hlt)⟩
   obtain⟨⟨va,v1,v2⟩,hc,hat⟩:=hcells k x hx
   have KC:=hid fun (W:World) (hb:Below w.heap.size w W) (i:Nat) (u:Value) (hi:(Ab x ⟨va,v1,v2⟩)[i]?=some u)=>(hb.cell (p:=⟨b,off+k*8+i,none⟩) hbl).trans (hc i u hi)
   have HA:=hid fun (W:World) (hb:Below w.heap.size w W)=>(hat.below hb (Nat.le_refl _)).mono hb.size
   have hx:=hid hx
   clear hcells hc
   have hfalse:Hid (CH.fewVer x=false→R=false):=hid fun h=>by
    rw [← hR.out]
    unfold CH.few
    rw [CH.eP _ l k x hx.out h]
    rfl
   obtain⟨p1,hp1⟩:∃ p,Hid (CH.fewActs x.acts 5=p):=⟨_,hid rfl⟩
   obtain⟨m,hm⟩:∃ m,Hid (x.prev.length=m):=⟨_,hid rfl⟩
   obtain⟨p3,hp3⟩:∃ p,Hid (CH.dM x.sel.sig 30=p):=⟨_,hid rfl⟩
   obtain⟨p4,hp4⟩:∃ p,Hid (CH.dM x.sel.path 30=p):=⟨_,hid rfl⟩
   obtain⟨p2,hp2⟩:∃ p,Hid (decide (m≤60)=p):=⟨_,hid rfl⟩
   have hact:Hid (CH.fewVer x=(p1&&(p2&&(p3&&p4)))):=hid (by rw [← hp1.out,← hp2.out,← hp3.out,← hp4.out,← hm.out];rfl)
   have F1:=hid fun (W:World) (hb:Below w.heap.size w W)=>hp1.out ▸ fewActs_any va x.acts W (HA.out W hb).acts
   have F3:=hid fun (W:World) (hb:Below w.heap.size w W)=>hp3.out ▸ Gs v1 x.sel.sig 30 W (HA.out W hb).sig
   have F4:=hid fun (W:World) (hb:Below w.heap.size w W)=>hp4.out ▸ Gs v2 x.sel.path 30 W (HA.out W hb).path
   obtain⟨xa,ya,e1⟩:=hat.acts.form
   obtain⟨x1,y1,e2,_,_⟩:=hat.sig.form
   obtain⟨x2,y2,e3,_,_⟩:=hat.path.form
   change va=_ at e1
   change v1=_ at e2
   change v2=_ at e3
   subst e1 e2 e3
   clear hat HA
   generalize x.acts.length=na at *
   generalize x.sel.sig.length=n1 at *
   generalize x.sel.path.length=n2 at *
   have k4:=KC.out wr hBr.out 4 _ rfl
   try dsimp only at k4
   go_wp2_with fail
   refine (F1.out wr hBr.out).mono ?_
   rintro e w3 ⟨rfl,hb3⟩
   have hB3:Below w.heap.size w w3:=hBr.out.trans (hb3.mono hBr.out.size)
   clear F1 hb3 k4
   cases p1 with
   | false =>
    go_wp2
    go_ret
    exact⟨by rw [hfalse.out (by rw [hact.out];rfl)];rfl,hB3⟩
   | true =>
    have k3:=KC.out w3 hB3 3 _ rfl
    try dsimp only at k3
    have q60:decide ((60:Int)<(x.prev.length:Int))=!p2:=by
     rw [← hp2.out,hm.out]
     exact gt60 m
    cases p2 with
    | false =>
     go_wp2
     go_ret
     exact⟨by rw [hfalse.out (by rw [hact.out];rfl)];rfl,hB3⟩
    | true =>
     have k6:=KC.out w3 hB3 6 _ rfl
     try dsimp only at k6
     go_wp2_with fail
     refine (F3.out w3 hB3).mono ?_
     rintro e w4 ⟨rfl,hb4⟩
     have hB4:Below w.heap.size w w4:=hB3.trans (hb4.mono hB3.size)
     clear F3 hb4 k3 k6
     cases p3 with
     | false =>
      go_wp2
      go_ret
      exact⟨by rw [hfalse.out (by rw [hact.out];rfl)];rfl,hB4⟩
     | true =>
      have k7:=KC.out w4 hB4 7 _ rfl
      try dsimp only at k7
      go_wp2_with fail
      refine (F4.out w4 hB4).mono ?_
      rintro e w5 ⟨rfl,hb5⟩
      have hB5:Below w.heap.size w w5:=hB4.trans (hb5.mono hB4.size)
      clear F4 hb5 k7
      cases p4 with
      | false =>
       go_wp2
       go_ret
       exact⟨by rw [hfalse.out (by rw [hact.out];rfl)];rfl,hB5⟩
      | true =>
       have hI':Hid ((l.take (k+1)).all CH.fewVer=true):=hid (by rw [CH.dV _ l k x hx.out,hI.out,hact.out];rfl)
       have hB':Hid (Below w.heap.size w w5):=hid hB5
       clear q60
       go_wp2
       go_roundw
       case rel=>exact⟨k+1,by omega,by go_num,hB',hI'⟩
       case measure=>simp [RowKit.intOf];omega
  ·obtain rfl:k=N:=by omega
   have hall:l.all CH.fewVer=true:=by have:=hI.out;rwa [← hN.out,List.take_length] at this
   go_wp2
   go_ret
   have hk5:decide ((k:Int)≤8)=R:=by
    rw [← hR.out]
    unfold CH.few
    rw [hall,hN.out,Bool.true_and,decide_eq_decide]
    omega
   exact⟨by rw [← hk5];rfl,hBr.out⟩
end Go.Proofs.YtjaeapaeaiiieaaGreatDoor
namespace Go.Proofs.YtjaeapaeaiiieaaGreatDoor
section
open Go.Lib Go.Proofs.Tryz Go.RowKit Go.Shelf Go.Sort
theorem Ds {ls:List (List UInt8)} {n:Nat} (h:CH.dM ls n=true) (hn:n≤100000):Short ls:=by
 unfold CH.dM at h
 simp only [Bool.and_eq_true,List.all_eq_true,decide_eq_true_eq] at h
 exact⟨by omega,fun l hl=>by have:=h.1 l hl;omega⟩
mutual
theorem shortF_of:∀ (f:CH.Formula),f.names100→Ci f
 | .mk _ _ _ _ kids,h=>by
  unfold CH.Formula.names100 at h
  unfold Ci
  exact⟨by omega,Lm kids h.2⟩
theorem Lm:∀ (l:List CH.Formula),CH.eu l→Cr l
 | [],_=>by unfold Cr;trivial
 | f::l,h=>by
  unfold CH.eu at h
  unfold Cr
  exact⟨shortF_of f h.1,Lm l h.2⟩
end
mutual
theorem Ic:∀ (f:CH.Formula),f.depth≤f.count
 | .mk _ _ _ _ kids=>by
  unfold CH.Formula.depth CH.Formula.count
  have:=Lx kids
  omega
theorem Lx:∀ (l:List CH.Formula),CH.aS l≤CH.aG l
 | []=>by unfold CH.aS CH.aG;omega
 | f::l=>by
  unfold CH.aS CH.aG
  have h1:=Ic f
  have h2:=Lx l
  omega
end
theorem smallF_use {f:CH.Formula} (h:CH.smallF f 60=true):Ci f∧f.count≤60∧f.depth≤60:=by
 unfold CH.smallF at h
 have h1:=of_decide_eq_true h
 obtain⟨h2,h3⟩:=CH.sizeF_small f 60 (by omega) h1
 have h4:=Ic f
 refine⟨shortF_of f h3,?_,?_⟩ <;> omega
theorem Mi {c:CH.Change} (h:CH.iH c=true):gZ c:=by
 unfold CH.iH CH.fewEntry at h
 simp only [Bool.and_eq_true,decide_eq_true_eq,List.all_eq_true] at h
 obtain⟨h1,h2,h3,h4⟩:=h
 refine⟨by omega,⟨by omega,by omega,fun n hn=>?_⟩⟩
 have hn':n∈c.entry.names.take 10:=by rw [List.take_of_length_le (by omega)];exact hn
 have:=h2 n hn'
 unfold CH.iy at this
 simp only [Bool.and_eq_true,decide_eq_true_eq,List.all_eq_true] at this
 refine⟨by omega,fun l hl=>?_⟩
 have hl':l∈n.words.take 20:=by rw [List.take_of_length_le (by omega)];exact hl
 have:=this.1 l hl'
 omega
theorem fewHold_small {h:CH.aY} (hf:CH.fewHold h=true):iI h:=by
 unfold CH.fewHold at hf
 simp only [Bool.and_eq_true,decide_eq_true_eq,List.all_eq_true] at hf
 obtain⟨⟨h1,h2,h3,h4,h5,h6⟩,h7⟩:=hf
 exact⟨by omega,by omega,by omega,by omega,by omega,⟨by omega,fun l hl=>by have:=h7 l hl;omega⟩⟩
theorem act_small {B:Nat} {w:World} {a:CH.Act} {s:ActV} (h:gG B w a s) (hn:ActNums a) (hf:CH.fewAct a=true):eY B w a s:=by
 unfold CH.fewAct at hf
 simp only [Bool.and_eq_true] at hf
 obtain⟨h1,h2,h3,h4,h5,h6⟩:=hf
 obtain⟨q1,q2,q3⟩:=smallF_use h2
 have s3:=Ds h3 (by omega)
 have q5:=s3.2 a.id (by simp)
 have q6:=s3.2 a.measure.id (by simp)
 have q7:=s3.2 a.measure.authority (by simp)
 have q8:=s3.2 a.measure.target (by simp)
 have q9:=s3.2 a.licence.id (by simp)
 exact⟨h.names,⟨h.kids,hn.meas,q6,q7,q8,q1,by omega,by omega⟩,h.lm,h.lp,h.hj,⟨Mi h1,hn.pos,q9,Ds h4 (by omega),Ds h5 (by omega),fewHold_small h6,q5,hn.kind,hn.n⟩⟩
theorem acts_small {B:Nat} {w:World} {v:Value} {l:List CH.Act} (h:Dr B w v l) (hn:∀ a∈l,ActNums a) (hf:∀ a∈l,CH.fewAct a=true):Cj B w v l:=by
 obtain⟨a,cap,h1,h2,h3,h4⟩:=h
 refine⟨a,cap,h1,h2,h3,fun hne=>?_⟩
 obtain⟨b,off,e,hlt,hx⟩:=h4 hne
 refine⟨b,off,e,hlt,fun j x hj=>?_⟩
 obtain⟨s,c1,c2⟩:=hx j x hj
 have hm:=List.mem_of_getElem? hj
 exact⟨s,c1,act_small c2 (hn x hm) (hf x hm)⟩
theorem ver_small {B:Nat} {w:World} {v:CH.Version} {s:bF} (h:gK B w v s) (hn:VerNums v) (hf:CH.fewVer v=true):aK B w v s:=by
 unfold CH.fewVer CH.fewActs at hf
 simp only [Bool.and_eq_true,decide_eq_true_eq,List.all_eq_true] at hf
 obtain⟨⟨h1,h2⟩,h3,h4,h5⟩:=hf
 exact⟨acts_small h.acts hn.acts h1,h.sig,h.path,⟨hn.authority,hn.number,hn.pos,by omega,hn.index,Ds h4 (by omega),Ds h5 (by omega)⟩⟩
theorem Eh.below {B B':Nat} {w w':World} {v:Value} {ls:List CH.Version} (h:Eh B w v ls) (hb:Below B' w w') (hB:B≤B'):Eh B w' v ls:=by
 obtain⟨a,cap,h1,h2,h3,h4⟩:=h
 refine⟨a,cap,h1,h2,h3,fun hne=>?_⟩
 obtain⟨b,off,e,hlt,hx⟩:=h4 hne
 refine⟨b,off,e,hlt,fun j x hj=>?_⟩
 obtain⟨s,c1,c2⟩:=hx j x hj
 exact⟨s,fun i u hi=>(hb.cell (p:=⟨b,off+j*8+i,none⟩) (nL hlt hB)).trans (c1 i u hi),c2.below hb hB⟩
theorem Eh.mono {B B':Nat} {w:World} {v:Value} {ls:List CH.Version} (h:Eh B w v ls) (hB:B≤B'):Eh B' w v ls:=by
 obtain⟨a,cap,h1,h2,h3,h4⟩:=h
 refine⟨a,cap,h1,h2,h3,fun hne=>?_⟩
 obtain⟨b,off,e,hlt,hx⟩:=h4 hne
 refine⟨b,off,e,nL hlt hB,fun j x hj=>?_⟩
 obtain⟨s,c1,c2⟩:=hx j x hj
 exact⟨s,c1,c2.mono hB⟩
theorem vers_small {B:Nat} {w:World} {v:Value} {l:List CH.Version} (h:Eh B w v l) (hn:∀ a∈l,VerNums a) (hf:∀ a∈l,CH.fewVer a=true):Dx B w v l:=by
 obtain⟨a,cap,h1,h2,h3,h4⟩:=h
 refine⟨a,cap,h1,h2,h3,fun hne=>?_⟩
 obtain⟨b,off,e,hlt,hx⟩:=h4 hne
 refine⟨b,off,e,hlt,fun j x hj=>?_⟩
 obtain⟨s,c1,c2⟩:=hx j x hj
 exact⟨s,c1,ver_small c2 (hn x (List.mem_of_getElem? hj)) (hf x (List.mem_of_getElem? hj))⟩
end
section
open Go.Lib Go.Proofs.Tryz Go.RowKit Go.Shelf Go.Sort
attribute [local irreducible] wpQuiet
theorem Hj (v v':Value) (ls:List (List UInt8)) (w:World) (hv:Strs w.heap.size w v ls) (hv':Strs w.heap.size w v' ls) :
  Calls prog 98 #[v,v'] w (Ret w (.bool true)):=by
 obtain⟨a,cap,rfl,hl,hcap,hne⟩:=hv
 obtain⟨a',cap',rfl,hl',hcap',hne'⟩:=hv'
 have hne:=hid hne
 have hne':=hid hne'
 obtain⟨N,hN⟩:∃ N,ls.length=N:=⟨_,rfl⟩
 rw [hN] at hl hl' ⊢
 have hN:=hid hN
 go_enter func98,ntmps98
 go_wp2_with fail
 go_loopw [5] (fun i wr=>∃ k:Nat,k≤N∧i=.int .i64 k∧Hid (Below w.heap.size w wr)) (fun i _=>N - (RowKit.intOf i).toNat)
 case atStart=>exact⟨0,Nat.zero_le _,rfl,hid (Below.refl _ _)⟩
 case round =>
  obtain⟨k,hk,rfl,hBr⟩:=hrel
  by_cases hlt:k<N
  ·obtain⟨b,off,rfl,hbl,hcells⟩:=hne.out (by intro h;have:=hN.out;simp [h] at this;omega)
   obtain⟨b',off',rfl,fB,hcells'⟩:=hne'.out (by intro h;have:=hN.out;simp [h] at this;omega)
   obtain⟨l,hl'⟩:∃ l,ls[k]?=some l:=⟨_,lZ (by rw [hN.out];exact hlt)⟩
   have e1:wr.cell? ⟨b,off+k,none⟩=some (.string ⟨l.toArray⟩):=(hBr.out.cell (p:=⟨b,off+k,none⟩) hbl).trans (hcells k l hl')
   have e2:wr.cell? ⟨b',off'+k,none⟩=some (.string ⟨l.toArray⟩):=(hBr.out.cell (p:=⟨b',off'+k,none⟩) fB).trans (hcells' k l hl')
   clear hcells hcells' hl'
   have z0:(0:Int)≤(k:Int):=by omega
   have zk:((k:Int)).toNat=k:=by omega
   have hk':(k:Int)<(N:Int):=by omega
   have g1:∀ (d:Nat) (os:Array Obj),(grow (redrawn wr d) os).cell? ⟨b,off+k,none⟩=some (.string ⟨l.toArray⟩):=cell_regrown e1
   have g2:∀ (d:Nat) (os:Array Obj),(grow (redrawn wr d) os).cell? ⟨b',off'+k,none⟩=some (.string ⟨l.toArray⟩):=cell_regrown e2
   go_wp2_with fail
   refine wp_region_quiet_below (by kernel_rfl) (by kernel_rfl) ?_
   repeat (quiet_step (fail))
   refine wpQuiet_nil ?_
   intro wq hbq
   replace hbq:=Af hbq
   clear g1 g2
   have hB2:Hid (Below w.heap.size w wq):=hid (hBr.out.trans (hbq.mono hBr.out.size))
   clear hbq e1 e2
   go_wp2
   go_roundw
   case rel=>exact⟨k+1,by omega,by go_num,hB2⟩
   case measure=>simp [RowKit.intOf];omega
  ·obtain rfl:k=N:=by omega
   go_wp2
   go_ret
   exact⟨rfl,hBr.out⟩
theorem L3 (v v':Value) (ls:List (List UInt8)) (w:World) (hv:Strs w.heap.size w v ls) (hv':Strs w.heap.size w v' ls) :
  Calls prog 236 #[v,v'] w (Ret w (.bool true)):=by
 obtain⟨a,cap,rfl,hl,hcap,hne⟩:=hv
 obtain⟨a',cap',rfl,hl',hcap',hne'⟩:=hv'
 have hne:=hid hne
 have hne':=hid hne'
 obtain⟨N,hN⟩:∃ N,ls.length=N:=⟨_,rfl⟩
 rw [hN] at hl hl' ⊢
 have hN:=hid hN
 go_enter func236,ntmps236
 go_wp2_with fail
 go_loopw [5] (fun i wr=>∃ k:Nat,k≤N∧i=.int .i64 k∧Hid (Below w.heap.size w wr)) (fun i _=>N - (RowKit.intOf i).toNat)
 case atStart=>exact⟨0,Nat.zero_le _,rfl,hid (Below.refl _ _)⟩
 case round =>
  obtain⟨k,hk,rfl,hBr⟩:=hrel
  by_cases hlt:k<N
  ·obtain⟨b,off,rfl,hbl,hcells⟩:=hne.out (by intro h;have:=hN.out;simp [h] at this;omega)
   obtain⟨b',off',rfl,fB,hcells'⟩:=hne'.out (by intro h;have:=hN.out;simp [h] at this;omega)
   obtain⟨l,hl'⟩:∃ l,ls[k]?=some l:=⟨_,lZ (by rw [hN.out];exact hlt)⟩
   have e1:wr.cell? ⟨b,off+k,none⟩=some (.string ⟨l.toArray⟩):=(hBr.out.cell (p:=⟨b,off+k,none⟩) hbl).trans (hcells k l hl')
   have e2:wr.cell? ⟨b',off'+k,none⟩=some (.string ⟨l.toArray⟩):=(hBr.out.cell (p:=⟨b',off'+k,none⟩) fB).trans (hcells' k l hl')
   clear hcells hcells' hl'
   have z0:(0:Int)≤(k:Int):=by omega
   have zk:((k:Int)).toNat=k:=by omega
   have hk':(k:Int)<(N:Int):=by omega
   have g1:∀ (d:Nat) (os:Array Obj),(grow (redrawn wr d) os).cell? ⟨b,off+k,none⟩=some (.string ⟨l.toArray⟩):=cell_regrown e1
   have g2:∀ (d:Nat) (os:Array Obj),(grow (redrawn wr d) os).cell? ⟨b',off'+k,none⟩=some (.string ⟨l.toArray⟩):=cell_regrown e2
   go_wp2_with fail
   refine wp_region_quiet_below (by kernel_rfl) (by kernel_rfl) ?_
   repeat (quiet_step (fail))
   refine wpQuiet_nil ?_
   intro wq hbq
   replace hbq:=Af hbq
   clear g1 g2
   have hB2:Hid (Below w.heap.size w wq):=hid (hBr.out.trans (hbq.mono hBr.out.size))
   clear hbq e1 e2
   go_wp2
   go_roundw
   case rel=>exact⟨k+1,by omega,by go_num,hB2⟩
   case measure=>simp [RowKit.intOf];omega
  ·obtain rfl:k=N:=by omega
   go_wp2
   go_ret
   exact⟨rfl,hBr.out⟩
theorem L2 (v v':Value) (ls:List (List UInt8)) (w:World) (hv:Strs w.heap.size w v ls) (hv':Strs w.heap.size w v' ls) :
  Calls prog 154 #[v,v'] w (Ret w (.bool true)):=by
 obtain⟨a,cap,rfl,hl,hcap,hne⟩:=hv
 obtain⟨a',cap',rfl,hl',hcap',hne'⟩:=hv'
 have hne:=hid hne
 have hne':=hid hne'
 obtain⟨N,hN⟩:∃ N,ls.length=N:=⟨_,rfl⟩
 rw [hN] at hl hl' ⊢
 have hN:=hid hN
 go_enter func154,ntmps154
 go_wp2_with fail
 go_loopw [5] (fun i wr=>∃ k:Nat,k≤N∧i=.int .i64 k∧Hid (Below w.heap.size w wr)) (fun i _=>N - (RowKit.intOf i).toNat)
 case atStart=>exact⟨0,Nat.zero_le _,rfl,hid (Below.refl _ _)⟩
 case round =>
  obtain⟨k,hk,rfl,hBr⟩:=hrel
  by_cases hlt:k<N
  ·obtain⟨b,off,rfl,hbl,hcells⟩:=hne.out (by intro h;have:=hN.out;simp [h] at this;omega)
   obtain⟨b',off',rfl,fB,hcells'⟩:=hne'.out (by intro h;have:=hN.out;simp [h] at this;omega)
   obtain⟨l,hl'⟩:∃ l,ls[k]?=some l:=⟨_,lZ (by rw [hN.out];exact hlt)⟩
   have e1:wr.cell? ⟨b,off+k,none⟩=some (.string ⟨l.toArray⟩):=(hBr.out.cell (p:=⟨b,off+k,none⟩) hbl).trans (hcells k l hl')
   have e2:wr.cell? ⟨b',off'+k,none⟩=some (.string ⟨l.toArray⟩):=(hBr.out.cell (p:=⟨b',off'+k,none⟩) fB).trans (hcells' k l hl')
   clear hcells hcells' hl'
   have z0:(0:Int)≤(k:Int):=by omega
   have zk:((k:Int)).toNat=k:=by omega
   have hk':(k:Int)<(N:Int):=by omega
   have g1:∀ (d:Nat) (os:Array Obj),(grow (redrawn wr d) os).cell? ⟨b,off+k,none⟩=some (.string ⟨l.toArray⟩):=cell_regrown e1
   have g2:∀ (d:Nat) (os:Array Obj),(grow (redrawn wr d) os).cell? ⟨b',off'+k,none⟩=some (.string ⟨l.toArray⟩):=cell_regrown e2
   go_wp2_with fail
   refine wp_region_quiet_below (by kernel_rfl) (by kernel_rfl) ?_
   repeat (quiet_step (fail))
   refine wpQuiet_nil ?_
   intro wq hbq
   replace hbq:=Af hbq
   clear g1 g2
   have hB2:Hid (Below w.heap.size w wq):=hid (hBr.out.trans (hbq.mono hBr.out.size))
   clear hbq e1 e2
   go_wp2
   go_roundw
   case rel=>exact⟨k+1,by omega,by go_num,hB2⟩
   case measure=>simp [RowKit.intOf];omega
  ·obtain rfl:k=N:=by omega
   go_wp2
   go_ret
   exact⟨rfl,hBr.out⟩
theorem Hi (v v':Value) (ls:List (List UInt8)) (w:World) (hv:Strs w.heap.size w v ls) (hv':Strs w.heap.size w v' ls) :
  Calls prog 153 #[v,v'] w (Ret w (.bool true)):=by
 obtain⟨a,cap,rfl,hl,hcap,hne⟩:=hv
 obtain⟨a',cap',rfl,hl',hcap',hne'⟩:=hv'
 have hne:=hid hne
 have hne':=hid hne'
 obtain⟨N,hN⟩:∃ N,ls.length=N:=⟨_,rfl⟩
 rw [hN] at hl hl' ⊢
 have hN:=hid hN
 go_enter func153,ntmps153
 go_wp2_with fail
 go_loopw [5] (fun i wr=>∃ k:Nat,k≤N∧i=.int .i64 k∧Hid (Below w.heap.size w wr)) (fun i _=>N - (RowKit.intOf i).toNat)
 case atStart=>exact⟨0,Nat.zero_le _,rfl,hid (Below.refl _ _)⟩
 case round =>
  obtain⟨k,hk,rfl,hBr⟩:=hrel
  by_cases hlt:k<N
  ·obtain⟨b,off,rfl,hbl,hcells⟩:=hne.out (by intro h;have:=hN.out;simp [h] at this;omega)
   obtain⟨b',off',rfl,fB,hcells'⟩:=hne'.out (by intro h;have:=hN.out;simp [h] at this;omega)
   obtain⟨l,hl'⟩:∃ l,ls[k]?=some l:=⟨_,lZ (by rw [hN.out];exact hlt)⟩
   have e1:wr.cell? ⟨b,off+k,none⟩=some (.string ⟨l.toArray⟩):=(hBr.out.cell (p:=⟨b,off+k,none⟩) hbl).trans (hcells k l hl')
   have e2:wr.cell? ⟨b',off'+k,none⟩=some (.string ⟨l.toArray⟩):=(hBr.out.cell (p:=⟨b',off'+k,none⟩) fB).trans (hcells' k l hl')
   clear hcells hcells' hl'
   have z0:(0:Int)≤(k:Int):=by omega
   have zk:((k:Int)).toNat=k:=by omega
   have hk':(k:Int)<(N:Int):=by omega
   have g1:∀ (d:Nat) (os:Array Obj),(grow (redrawn wr d) os).cell? ⟨b,off+k,none⟩=some (.string ⟨l.toArray⟩):=cell_regrown e1
   have g2:∀ (d:Nat) (os:Array Obj),(grow (redrawn wr d) os).cell? ⟨b',off'+k,none⟩=some (.string ⟨l.toArray⟩):=cell_regrown e2
   go_wp2_with fail
   refine wp_region_quiet_below (by kernel_rfl) (by kernel_rfl) ?_
   repeat (quiet_step (fail))
   refine wpQuiet_nil ?_
   intro wq hbq
   replace hbq:=Af hbq
   clear g1 g2
   have hB2:Hid (Below w.heap.size w wq):=hid (hBr.out.trans (hbq.mono hBr.out.size))
   clear hbq e1 e2
   go_wp2
   go_roundw
   case rel=>exact⟨k+1,by omega,by go_num,hB2⟩
   case measure=>simp [RowKit.intOf];omega
  ·obtain rfl:k=N:=by omega
   go_wp2
   go_ret
   exact⟨rfl,hBr.out⟩
theorem Ei.grow {w W:World} {v:Value} {ns:List CH.Name} (h:Ei w.heap.size w v ns) (hb:Below w.heap.size w W):Ei W.heap.size W v ns:=by
 obtain⟨a,cap,h1,h2,h3,h4⟩:=h
 refine⟨a,cap,h1,h2,h3,fun hne=>?_⟩
 obtain⟨b,off,e,hlt,hc⟩:=h4 hne
 refine⟨b,off,e,nL hlt hb.size,fun j n hj=>?_⟩
 obtain⟨vw,c1,c2,c3⟩:=hc j n hj
 exact⟨vw,(hb.cell (p:=⟨b,off+j*2,none⟩) hlt).trans c1,(hb.cell (p:=⟨b,off+j*2+1,none⟩) hlt).trans c2,(c3.below hb nR).mono hb.size⟩
theorem Gz (w:World) (o1 o2:Obj):((w.alloc o1).alloc o2).heap[w.heap.size]?=some o1∧((w.alloc o1).alloc o2).heap[w.heap.size+1]?=some o2 :=
 ⟨(((Below.refl _ (w.alloc o1)).alloc nR o2).block w.heap.size (by simp)).trans (heap_alloc_last w o1),by have:=heap_alloc_last (w.alloc o1) o2;simpa using this⟩
theorem sameName_any (sc:Int) (v v':Value) (ls:List (List UInt8)) (w:World) (hv:Strs w.heap.size w v ls) (hv':Strs w.heap.size w v' ls) :
  Calls prog 198 #[.agg #[.int .i64 sc,v],.agg #[.int .i64 sc,v']] w (Ret w (.bool true)):=by
 have T:=hid fun (W:World) (hb:Below w.heap.size w W)=>L3 v v' ls W ((hv.below hb nR).mono hb.size) ((hv'.below hb nR).mono hb.size)
 have hB0:=hid fun o o2=>((Below.refl _ w).alloc nR o).alloc (by simp) o2
 obtain⟨a,cap,rfl,_,_,_⟩:=hv
 obtain⟨a',cap',rfl,_,_,_⟩:=hv'
 generalize ls.length=n at *
 go_enter func198,ntmps198
 go_wp2_with fail
 refine (T.out _ (hB0.out _ _)).mono ?_
 rintro e w1 ⟨rfl,hb1⟩
 have hB1:=(hB0.out _ _).trans (hb1.mono (hB0.out _ _).size)
 clear T
 go_wp2
 go_ret
 exact⟨rfl,hB1⟩
theorem sameEntry_any (e:CH.Entry) (v v':Value) (w:World) (hv:Ei w.heap.size w v e.names) (hv':Ei w.heap.size w v' e.names) :
  Calls prog 151 #[.agg #[.string ⟨e.id.toArray⟩,v],.agg #[.string ⟨e.id.toArray⟩,v']] w (Ret w (.bool true)):=by
 obtain⟨id,ls⟩:=e
 obtain⟨a,cap,rfl,hl,hcap,hne⟩:=hv
 obtain⟨a',cap',rfl,hl',hcap',hne'⟩:=hv'
 dsimp only at *
 have hne:=hid hne
 have hne':=hid hne'
 obtain⟨N,hN⟩:∃ N,ls.length=N:=⟨_,rfl⟩
 rw [hN] at hl hl' ⊢
 have hN:=hid hN
 have hB0:=fun o o2=>((Below.refl _ w).alloc nR o).alloc (by simp) o2
 have A2:=Gz w
 go_enter func151,ntmps151
 go_wp2_with fail
 generalize hWd:(w.alloc _).alloc _=W at *
 have c1:W.cell? ⟨w.heap.size,1,none⟩=some (.slice a N cap):=by rw [← hWd];exact Aa (A2 _ _).1 1
 have c1':W.cell? ⟨w.heap.size+1,1,none⟩=some (.slice a' N cap'):=by rw [← hWd];exact Aa (A2 _ _).2 1
 have hBW:Below w.heap.size w W:=by rw [← hWd];exact hB0 _ _
 have hlW:w.heap.size+1<W.heap.size:=by rw [← hWd];simp
 clear hWd hB0 A2
 go_loopw [5] (fun i wr=>∃ k:Nat,k≤N∧i=.int .i64 k∧Hid (Below W.heap.size W wr)) (fun i _=>N - (RowKit.intOf i).toNat)
 case atStart=>exact⟨0,Nat.zero_le _,rfl,hid (Below.refl _ _)⟩
 case round =>
  obtain⟨k,hk,rfl,hBr⟩:=hrel
  have k1:=(hBr.out.cell (p:=⟨w.heap.size,1,none⟩) (by show w.heap.size<_;omega)).trans c1
  have k1':=(hBr.out.cell (p:=⟨w.heap.size+1,1,none⟩) hlW).trans c1'
  have hBw:Below w.heap.size w wr:=hBW.trans (hBr.out.mono hBW.size)
  by_cases hlt:k<N
  ·obtain⟨b,off,rfl,hbl,hcells⟩:=hne.out (by intro h;have:=hN.out;simp [h] at this;omega)
   obtain⟨b',off',rfl,fB,hcells'⟩:=hne'.out (by intro h;have:=hN.out;simp [h] at this;omega)
   obtain⟨n,hn'⟩:∃ n,ls[k]?=some n:=⟨_,lZ (by rw [hN.out];exact hlt)⟩
   obtain⟨vw,d1,d2,d3⟩:=hcells k n hn'
   obtain⟨vw',d1',d2',d3'⟩:=hcells' k n hn'
   have e1:=(hBw.cell (p:=⟨b,off+k*2,none⟩) hbl).trans d1
   have e2:=(hBw.cell (p:=⟨b,off+k*2+1,none⟩) hbl).trans d2
   have e1':=(hBw.cell (p:=⟨b',off'+k*2,none⟩) fB).trans d1'
   have e2':=(hBw.cell (p:=⟨b',off'+k*2+1,none⟩) fB).trans d2'
   have F:=hid fun (W:World) (hb:Below wr.heap.size wr W)=>sameName_any n.script vw vw' n.words W ((d3.below (hBw.trans (hb.mono hBw.size)) nR).mono (nT hBw.size hb.size)) ((d3'.below (hBw.trans (hb.mono hBw.size)) nR).mono (nT hBw.size hb.size))
   clear hcells hcells' d1 d2 d1' d2' hn'
   obtain⟨vwa,vwc,rfl,_,_⟩:=d3
   obtain⟨vwa',vwc',rfl,_,_⟩:=d3'
   generalize n.words.length=nw at *
   have z0:(0:Int)≤(k:Int):=by omega
   have zk:((k:Int)).toNat=k:=by omega
   have hk':(k:Int)<(N:Int):=by omega
   have g0:∀ (d:Nat) (os:Array Obj),(grow (redrawn wr d) os).cell? ⟨w.heap.size,1,none⟩=some (.slice (some ⟨b,off,none⟩) N cap):=cell_regrown k1
   have g0':∀ (d:Nat) (os:Array Obj),(grow (redrawn wr d) os).cell? ⟨w.heap.size+1,1,none⟩=some (.slice (some ⟨b',off',none⟩) N cap'):=cell_regrown k1'
   have g1:∀ (d:Nat) (os:Array Obj),(grow (redrawn wr d) os).cell? ⟨b,off+k*2,none⟩=some (.int .i64 n.script):=cell_regrown e1
   have g2:∀ (d:Nat) (os:Array Obj),(grow (redrawn wr d) os).cell? ⟨b,off+k*2+1,none⟩=some (.slice vwa nw vwc):=cell_regrown e2
   have g1':∀ (d:Nat) (os:Array Obj),(grow (redrawn wr d) os).cell? ⟨b',off'+k*2,none⟩=some (.int .i64 n.script):=cell_regrown e1'
   have g2':∀ (d:Nat) (os:Array Obj),(grow (redrawn wr d) os).cell? ⟨b',off'+k*2+1,none⟩=some (.slice vwa' nw vwc'):=cell_regrown e2'
   go_wp2_with fail
   refine wp_region_quiet_below (by kernel_rfl) (by kernel_rfl) ?_
   repeat (quiet_step ((with_reducible exact Calls.regrown_of (F.out _ (below_regrown _ _ _)))))
   refine wpQuiet_nil ?_
   intro wq hbq
   replace hbq:=Af hbq
   clear F g0 g0' g1 g2 g1' g2' e1 e2 e1' e2' k1 k1'
   have hb1:=hbq
   have hB1:Hid (Below W.heap.size W wq):=hid (hBr.out.trans (hb1.mono hBr.out.size))
   go_wp2
   go_roundw
   case rel=>exact⟨k+1,by omega,by go_num,hB1⟩
   case measure=>simp [RowKit.intOf];omega
  ·obtain rfl:k=N:=by omega
   go_wp2
   go_ret
   exact⟨rfl,hBw⟩
theorem M3 (c:CH.Change) (v v':Value) (w:World) (hv:Ei w.heap.size w v c.entry.names) (hv':Ei w.heap.size w v' c.entry.names) :
  Calls prog 99 #[.agg #[.int .i64 c.kind,.string ⟨c.id.toArray⟩,.string ⟨c.entry.id.toArray⟩,v,.int .i64 c.pos],.agg #[.int .i64 c.kind,.string ⟨c.id.toArray⟩,.string ⟨c.entry.id.toArray⟩,v',.int .i64 c.pos]] w (Ret w (.bool true)):=by
 have hB0:=hid fun o o2=>((Below.refl _ w).alloc nR o).alloc (by simp) o2
 have F:=hid fun (W:World) (hb:Below w.heap.size w W)=>sameEntry_any c.entry v v' W (hv.grow hb) (hv'.grow hb)
 have A2:=Gz w
 obtain⟨a,cap,rfl,hl,hcap,_⟩:=hv
 obtain⟨a',cap',rfl,hl',hcap',_⟩:=hv'
 generalize c.entry.names.length=N at *
 go_enter func99,ntmps99
 go_wp2_with fail
 have B:=hB0.out
 generalize hWd:(w.alloc _).alloc _=W at *
 have c4:W.cell? ⟨w.heap.size,4,none⟩=some (.int .i64 c.pos):=by rw [← hWd];exact Aa (A2 _ _).1 4
 have c4':W.cell? ⟨w.heap.size+1,4,none⟩=some (.int .i64 c.pos):=by rw [← hWd];exact Aa (A2 _ _).2 4
 have hBW:Below w.heap.size w W:=by rw [← hWd];exact B _ _
 have hlW:w.heap.size+1<W.heap.size:=by rw [← hWd];simp
 clear hWd hB0 A2 B
 refine (F.out _ hBW).mono ?_
 rintro e w1 ⟨rfl,hb1⟩
 have k4:=(hb1.cell (p:=⟨w.heap.size,4,none⟩) (by show w.heap.size<_;omega)).trans c4
 have k4':=(hb1.cell (p:=⟨w.heap.size+1,4,none⟩) hlW).trans c4'
 have hB1:=hBW.trans (hb1.mono hBW.size)
 clear F
 go_wp2
 go_ret
 exact⟨rfl,hB1⟩
end
section
open Go.Lib Go.Proofs.Tryz Go.RowKit Go.Shelf Go.Sort
attribute [local irreducible] wpQuiet
theorem Ip {w W:World} {C C':List Value} {T T':TypeId} (hW:(w.alloc (.cells C.toArray T)).alloc (.cells C'.toArray T')=W) (W':World) (hb:Below W.heap.size W W') :
  (∀ i u,C[i]?=some u→W'.cell? ⟨w.heap.size,i,none⟩=some u)∧(∀ i u,C'[i]?=some u→W'.cell? ⟨w.heap.size+1,i,none⟩=some u):=by
 subst hW
 have h1:=(hb.block w.heap.size (by simp;omega)).trans (Gz w _ _).1
 have h2:=(hb.block (w.heap.size+1) (by simp)).trans (Gz w _ _).2
 exact⟨fun i u hi=>(Aa h1 i).trans (by simpa using hi),fun i u hi=>(Aa h2 i).trans (by simpa using hi)⟩
theorem sameF_any:∀ (d:Nat) (f:CH.Formula) (vk vk':Value) (w:World),f.depth≤d→Am w.heap.size w f vk→Am w.heap.size w f vk' →
  Calls prog 152 #[.agg (Ah f vk),.agg (Ah f vk')] w (Ret w (.bool true))
 | 0,f,vk,vk',w,hd,hK,hK'=>by
  rw [Dv] at hd
  omega
 | d+1,.mk op name cmp fn kids,vk,vk',w,hd,hK,hK'=>by
  obtain⟨a,cap,rfl,hl,hcap,hne⟩:=hK.form
  obtain⟨a',cap',rfl,hl',hcap',hne'⟩:=hK'.form
  dsimp only [Ah,CH.Formula.op,CH.Formula.name,CH.Formula.cmp,CH.Formula.n,CH.Formula.kids] at *
  rw [Dv] at hd
  dsimp only [CH.Formula.kids] at hd
  have IH:=hid (sameF_any d)
  have hdk:=hid hd
  clear hd hK hK'
  have hne:=hid hne
  have hne':=hid hne'
  obtain⟨N,hN⟩:∃ N,kids.length=N:=⟨_,rfl⟩
  rw [hN] at hl hl' ⊢
  have hN:=hid hN
  have hB0:=fun o o2=>((Below.refl _ w).alloc nR o).alloc (by simp) o2
  have A2:=Gz w
  go_enter func152,ntmps152
  go_wp2_with fail
  generalize hWd:(w.alloc _).alloc _=W at *
  have c4:W.cell? ⟨w.heap.size,4,none⟩=some (.slice a N cap):=by rw [← hWd];exact Aa (A2 _ _).1 4
  have c4':W.cell? ⟨w.heap.size+1,4,none⟩=some (.slice a' N cap'):=by rw [← hWd];exact Aa (A2 _ _).2 4
  have hBW:Below w.heap.size w W:=by rw [← hWd];exact hB0 _ _
  have hlW:w.heap.size+1<W.heap.size:=by rw [← hWd];simp
  clear hWd hB0 A2
  go_loopw [5] (fun i wr=>∃ j:Nat,j≤N∧i=.int .i64 j∧Hid (Below W.heap.size W wr)) (fun i _=>N - (RowKit.intOf i).toNat)
  case atStart=>exact⟨0,Nat.zero_le _,rfl,hid (Below.refl _ _)⟩
  case round =>
   obtain⟨j,hj,rfl,hBr⟩:=hrel
   have k4:=(hBr.out.cell (p:=⟨w.heap.size,4,none⟩) (by show w.heap.size<_;omega)).trans c4
   have k4':=(hBr.out.cell (p:=⟨w.heap.size+1,4,none⟩) hlW).trans c4'
   have hBw:Below w.heap.size w wr:=hBW.trans (hBr.out.mono hBW.size)
   by_cases hlt:j<N
   ·obtain⟨f,hget⟩:∃ f,kids[j]?=some f:=⟨_,lZ (by rw [hN.out];exact hlt)⟩
    obtain⟨b,off,rfl,hbl,hrow⟩:=hne.out (by intro h;have:=hN.out;simp [h] at this;omega)
    obtain⟨b',off',rfl,fB,hrow'⟩:=hne'.out (by intro h;have:=hN.out;simp [h] at this;omega)
    obtain⟨vf,e0,e1,e2,e3,e4,hkf⟩:=bD.get kids b off j f hrow hget
    obtain⟨vf',e0',e1',e2',e3',e4',hkf'⟩:=bD.get kids b' off' j f hrow' hget
    have k0:=(hBw.cell (p:=⟨b,off+j*5,none⟩) hbl).trans e0
    have k1:=(hBw.cell (p:=⟨b,off+j*5+1,none⟩) hbl).trans e1
    have k2:=(hBw.cell (p:=⟨b,off+j*5+2,none⟩) hbl).trans e2
    have k3:=(hBw.cell (p:=⟨b,off+j*5+3,none⟩) hbl).trans e3
    have k5:=(hBw.cell (p:=⟨b,off+j*5+4,none⟩) hbl).trans e4
    have k0':=(hBw.cell (p:=⟨b',off'+j*5,none⟩) fB).trans e0'
    have k1':=(hBw.cell (p:=⟨b',off'+j*5+1,none⟩) fB).trans e1'
    have k2':=(hBw.cell (p:=⟨b',off'+j*5+2,none⟩) fB).trans e2'
    have k3':=(hBw.cell (p:=⟨b',off'+j*5+3,none⟩) fB).trans e3'
    have k5':=(hBw.cell (p:=⟨b',off'+j*5+4,none⟩) fB).trans e4'
    have C:=hid fun (W':World) (hb:Below wr.heap.size wr W')=>IH.out f vf vf' W' (by have:=Gw (List.mem_of_getElem? hget);have:=hdk.out;omega) (Am.mono (nT hBw.size hb.size) _ _ (Am.below (hBw.trans (hb.mono hBw.size)) nR _ _ hkf)) (Am.mono (nT hBw.size hb.size) _ _ (Am.below (hBw.trans (hb.mono hBw.size)) nR _ _ hkf'))
    obtain⟨af,cf,rfl,_,_,_⟩:=hkf.form
    obtain⟨af',cf',rfl,_,_,_⟩:=hkf'.form
    clear e0 e1 e2 e3 e4 e0' e1' e2' e3' e4' hrow hrow' hget hkf hkf' IH
    dsimp only [Ah] at C
    generalize f.kids.length=nf at *
    generalize f.name=fname at *
    generalize f.op=fop at *
    generalize f.cmp=fcmp at *
    generalize f.n=ffn at *
    have z0:(0:Int)≤(j:Int):=by omega
    have zk:((j:Int)).toNat=j:=by omega
    have hk':(j:Int)<(N:Int):=by omega
    have gk4:∀ (d:Nat) (os:Array Obj),(grow (redrawn wr d) os).cell? ⟨w.heap.size,4,none⟩=some (.slice (some ⟨b,off,none⟩) N cap):=cell_regrown k4
    have gk4':∀ (d:Nat) (os:Array Obj),(grow (redrawn wr d) os).cell? ⟨w.heap.size+1,4,none⟩=some (.slice (some ⟨b',off',none⟩) N cap'):=cell_regrown k4'
    have gk0:∀ (d:Nat) (os:Array Obj),(grow (redrawn wr d) os).cell? ⟨b,off+j*5,none⟩=some (.int .i64 fop):=cell_regrown k0
    have gk1:∀ (d:Nat) (os:Array Obj),(grow (redrawn wr d) os).cell? ⟨b,off+j*5+1,none⟩=some (.string ⟨fname.toArray⟩):=cell_regrown k1
    have gk2:∀ (d:Nat) (os:Array Obj),(grow (redrawn wr d) os).cell? ⟨b,off+j*5+2,none⟩=some (.int .i64 fcmp):=cell_regrown k2
    have gk3:∀ (d:Nat) (os:Array Obj),(grow (redrawn wr d) os).cell? ⟨b,off+j*5+3,none⟩=some (.int .i64 ffn):=cell_regrown k3
    have gk5:∀ (d:Nat) (os:Array Obj),(grow (redrawn wr d) os).cell? ⟨b,off+j*5+4,none⟩=some (.slice af nf cf):=cell_regrown k5
    have gk0':∀ (d:Nat) (os:Array Obj),(grow (redrawn wr d) os).cell? ⟨b',off'+j*5,none⟩=some (.int .i64 fop):=cell_regrown k0'
    have gk1':∀ (d:Nat) (os:Array Obj),(grow (redrawn wr d) os).cell? ⟨b',off'+j*5+1,none⟩=some (.string ⟨fname.toArray⟩):=cell_regrown k1'
    have gk2':∀ (d:Nat) (os:Array Obj),(grow (redrawn wr d) os).cell? ⟨b',off'+j*5+2,none⟩=some (.int .i64 fcmp):=cell_regrown k2'
    have gk3':∀ (d:Nat) (os:Array Obj),(grow (redrawn wr d) os).cell? ⟨b',off'+j*5+3,none⟩=some (.int .i64 ffn):=cell_regrown k3'
    have gk5':∀ (d:Nat) (os:Array Obj),(grow (redrawn wr d) os).cell? ⟨b',off'+j*5+4,none⟩=some (.slice af' nf cf'):=cell_regrown k5'
    go_wp2_with fail
    refine wp_region_quiet_below (by kernel_rfl) (by kernel_rfl) ?_
    repeat (quiet_step ((with_reducible exact Calls.regrown_of (C.out _ (below_regrown _ _ _)))))
    refine wpQuiet_nil ?_
    intro wq hbq
    replace hbq:=Af hbq
    clear C gk4 gk4' gk0 gk1 gk2 gk3 gk5 gk0' gk1' gk2' gk3' gk5' k4 k4' k0 k1 k2 k3 k5 k0' k1' k2' k3' k5'
    have hB1:Hid (Below W.heap.size W wq):=hid (hBr.out.trans (hbq.mono hBr.out.size))
    go_wp2
    go_roundw
    case rel=>exact⟨j+1,by omega,by go_num,hB1⟩
    case measure=>simp [RowKit.intOf];omega
   ·obtain rfl:j=N:=by omega
    go_wp2
    go_ret
    exact⟨rfl,hBw⟩
theorem Ma (m:CH.bG) (vk vk':Value) (w:World) (hK:Am w.heap.size w m.aC vk) (hK':Am w.heap.size w m.aC vk') :
  Calls prog 100 #[.agg (As m vk).toArray,.agg (As m vk').toArray] w (Ret w (.bool true)):=by
 have hB0:=hid fun o o2=>((Below.refl _ w).alloc nR o).alloc (by simp) o2
 have F:=hid fun (W:World) (hb:Below w.heap.size w W)=>sameF_any m.aC.depth m.aC vk vk' W nR (Am.mono hb.size _ _ (Am.below hb nR _ _ hK)) (Am.mono hb.size _ _ (Am.below hb nR _ _ hK'))
 obtain⟨a,cap,rfl,_,_,_⟩:=hK.form
 obtain⟨a',cap',rfl,_,_,_⟩:=hK'.form
 clear hK hK'
 generalize m.aC.kids.length=N at *
 dsimp only [As,Ah] at *
 go_enter func100,ntmps100
 go_wp2_with fail
 refine (F.out _ (hB0.out _ _)).mono ?_
 rintro e w1 ⟨rfl,hb1⟩
 have hB1:=(hB0.out _ _).trans (hb1.mono (hB0.out _ _).size)
 clear F
 go_wp2
 go_ret
 exact⟨rfl,hB1⟩
theorem Mb (l:CH.gV) (vm vp vm' vp':Value) (w:World) (h1:Strs w.heap.size w vm l.measures) (h2:Strs w.heap.size w vp l.aN) (h1':Strs w.heap.size w vm' l.measures) (h2':Strs w.heap.size w vp' l.aN) :
  Calls prog 101 #[.agg (Bt l vm vp).toArray,.agg (Bt l vm' vp').toArray] w (Ret w (.bool true)):=by
 have hB0:=hid fun o o2=>((Below.refl _ w).alloc nR o).alloc (by simp) o2
 have T1:=hid fun (W:World) (hb:Below w.heap.size w W)=>Hi vm vm' l.measures W ((h1.below hb nR).mono hb.size) ((h1'.below hb nR).mono hb.size)
 have T2:=hid fun (W:World) (hb:Below w.heap.size w W)=>Hi vp vp' l.aN W ((h2.below hb nR).mono hb.size) ((h2'.below hb nR).mono hb.size)
 obtain⟨_,_,rfl,_,_⟩:=h1.form
 obtain⟨_,_,rfl,_,_⟩:=h2.form
 obtain⟨_,_,rfl,_,_⟩:=h1'.form
 obtain⟨_,_,rfl,_,_⟩:=h2'.form
 clear h1 h2 h1' h2'
 generalize l.measures.length=n1 at *
 generalize l.aN.length=n2 at *
 dsimp only [Bt] at *
 go_enter func101,ntmps101
 go_wp2_with fail
 have B:=hB0.out
 generalize hWd:(w.alloc _).alloc _=W at *
 have hBW:Below w.heap.size w W:=by rw [← hWd];exact B _ _
 have K:=hid (Ip hWd)
 clear hWd hB0 B
 refine (T1.out _ hBW).mono ?_
 rintro e w1 ⟨rfl,hb1⟩
 have hB1:=hBW.trans (hb1.mono hBW.size)
 have k2:=(K.out w1 hb1).1 2 _ rfl
 have k2':=(K.out w1 hb1).2 2 _ rfl
 clear T1
 go_wp2_with fail
 refine (T2.out _ hB1).mono ?_
 rintro e w2 ⟨rfl,hb2⟩
 have hB2:=hB1.trans (hb2.mono hB1.size)
 have hb2:=hb1.trans (hb2.mono hb1.size)
 have k3:=(K.out w2 hb2).1 3 _ rfl
 have k3':=(K.out w2 hb2).2 3 _ rfl
 have k4:=(K.out w2 hb2).1 4 _ rfl
 have k4':=(K.out w2 hb2).2 4 _ rfl
 have k5:=(K.out w2 hb2).1 5 _ rfl
 have k5':=(K.out w2 hb2).2 5 _ rfl
 have k6:=(K.out w2 hb2).1 6 _ rfl
 have k6':=(K.out w2 hb2).2 6 _ rfl
 clear T2 K k2 k2'
 go_wp2
 go_ret
 exact⟨rfl,hB2⟩
theorem sameHold_any (h:CH.aY) (vj vj':Value) (w:World) (h1:Strs w.heap.size w vj h.joint) (h1':Strs w.heap.size w vj' h.joint) :
  Calls prog 102 #[.agg (Au h vj).toArray,.agg (Au h vj').toArray] w (Ret w (.bool true)):=by
 have hB0:=hid fun o o2=>((Below.refl _ w).alloc nR o).alloc (by simp) o2
 have T1:=hid fun (W:World) (hb:Below w.heap.size w W)=>L2 vj vj' h.joint W ((h1.below hb nR).mono hb.size) ((h1'.below hb nR).mono hb.size)
 obtain⟨_,_,rfl,_,_⟩:=h1.form
 obtain⟨_,_,rfl,_,_⟩:=h1'.form
 clear h1 h1'
 generalize h.joint.length=n1 at *
 dsimp only [Au] at *
 go_enter func102,ntmps102
 go_wp2_with fail
 have B:=hB0.out
 generalize hWd:(w.alloc _).alloc _=W at *
 have hBW:Below w.heap.size w W:=by rw [← hWd];exact B _ _
 have K:=hid (Ip hWd)
 clear hWd hB0 B
 refine (T1.out _ hBW).mono ?_
 rintro e w1 ⟨rfl,hb1⟩
 have hB1:=hBW.trans (hb1.mono hBW.size)
 have k6:=(K.out w1 hb1).1 6 _ rfl
 have k6':=(K.out w1 hb1).2 6 _ rfl
 have k7:=(K.out w1 hb1).1 7 _ rfl
 have k7':=(K.out w1 hb1).2 7 _ rfl
 have k8:=(K.out w1 hb1).1 8 _ rfl
 have k8':=(K.out w1 hb1).2 8 _ rfl
 have k9:=(K.out w1 hb1).1 9 _ rfl
 have k9':=(K.out w1 hb1).2 9 _ rfl
 dsimp only [ah,aJ] at k6 k6' k7 k7' k8 k8' k9 k9'
 clear T1 K
 go_wp2
 go_ret
 exact⟨rfl,hB1⟩
theorem sameSeal_any (x:CH.Seal) (v1 v2 v1' v2':Value) (w:World) (h1:Strs w.heap.size w v1 x.sig) (h2:Strs w.heap.size w v2 x.path) (h1':Strs w.heap.size w v1' x.sig) (h2':Strs w.heap.size w v2' x.path) :
  Calls prog 51 #[.agg #[.int .i64 x.index,v1,v2],.agg #[.int .i64 x.index,v1',v2']] w (Ret w (.bool true)):=by
 have hB0:=hid fun o o2=>((Below.refl _ w).alloc nR o).alloc (by simp) o2
 have T1:=hid fun (W:World) (hb:Below w.heap.size w W)=>Hj v1 v1' x.sig W ((h1.below hb nR).mono hb.size) ((h1'.below hb nR).mono hb.size)
 have T2:=hid fun (W:World) (hb:Below w.heap.size w W)=>Hj v2 v2' x.path W ((h2.below hb nR).mono hb.size) ((h2'.below hb nR).mono hb.size)
 obtain⟨_,_,rfl,_,_⟩:=h1.form
 obtain⟨_,_,rfl,_,_⟩:=h2.form
 obtain⟨_,_,rfl,_,_⟩:=h1'.form
 obtain⟨_,_,rfl,_,_⟩:=h2'.form
 clear h1 h2 h1' h2'
 generalize x.sig.length=n1 at *
 generalize x.path.length=n2 at *
 go_enter func51,ntmps51
 go_wp2_with fail
 have B:=hB0.out
 generalize hWd:(w.alloc _).alloc _=W at *
 have hBW:Below w.heap.size w W:=by rw [← hWd];exact B _ _
 have K:=hid (Ip hWd)
 clear hWd hB0 B
 refine (T1.out _ hBW).mono ?_
 rintro e w1 ⟨rfl,hb1⟩
 have hB1:=hBW.trans (hb1.mono hBW.size)
 have k2:=(K.out w1 hb1).1 2 _ rfl
 have k2':=(K.out w1 hb1).2 2 _ rfl
 clear T1 K
 go_wp2_with fail
 refine (T2.out _ hB1).mono ?_
 rintro e w2 ⟨rfl,hb2⟩
 have hB2:=hB1.trans (hb2.mono hB1.size)
 clear T2
 go_wp2
 go_ret
 exact⟨rfl,hB2⟩
end
section
open Go.Lib Go.Proofs.Tryz Go.RowKit Go.Shelf Go.Sort
theorem pD {α:Type} (l:List α) (i:Nat) (h:i<l.toArray.size):l.toArray[i]=l[i]'(by simpa using h):=rfl
theorem pE {α:Type} (a:α) (l:List α) (h:0<(a::l).length):(a::l)[0]=a:=rfl
theorem pF {α:Type} (a:α) (l:List α) (n:Nat) (h:n+1<(a::l).length):(a::l)[n+1]=l[n]'(Nat.lt_of_succ_lt_succ h):=rfl
theorem eY.raw {B:Nat} {w:World} {a:CH.Act} {s:ActV} (h:eY B w a s):gG B w a s:=⟨h.names,h.meas.kids,h.lm,h.lp,h.hj⟩
theorem Cj.raw {B:Nat} {w:World} {v:Value} {l:List CH.Act} (h:Cj B w v l):Dr B w v l:=by
 obtain⟨a,cap,h1,h2,h3,h4⟩:=h
 refine⟨a,cap,h1,h2,h3,fun hne=>?_⟩
 obtain⟨b,off,e,hlt,hx⟩:=h4 hne
 refine⟨b,off,e,hlt,fun j x hj=>?_⟩
 obtain⟨s,c1,c2⟩:=hx j x hj
 exact⟨s,c1,c2.raw⟩
theorem aK.raw {B:Nat} {w:World} {v:CH.Version} {s:bF} (h:aK B w v s):gK B w v s:=⟨h.acts.raw,h.sig,h.path⟩
theorem act_parts {W:World} {b o:Nat} {a:CH.Act} {s:ActV} (h:W.rangeAt b o (At a s)) :
  W.cell? ⟨b,o,none⟩=some (.int .i64 a.kind)∧W.rangeAt b (o+1) (A4 a.change s.vn)∧W.rangeAt b (o+6) (As a.measure s.vk)∧W.rangeAt b (o+18) (Bt a.licence s.vm s.vp)∧W.rangeAt b (o+25) (Au a.holding s.vj) ∧
   W.cell? ⟨b,o+35,none⟩=some (.string ⟨a.id.toArray⟩)∧W.cell? ⟨b,o+36,none⟩=some (.int .i64 a.n):=by
 have r1:W.rangeAt b (o+1) (A4 a.change s.vn++(As a.measure s.vk++(Bt a.licence s.vm s.vp++(Au a.holding s.vj++[ah a.id,aJ a.n])))):=Bp (l:=[aJ a.kind]) h (o+1) rfl
 have r6:=Bp r1 (o+6) rfl
 have r18:=Bp r6 (o+18) rfl
 have r25:=Bp r18 (o+25) rfl
 have r35:=Bp r25 (o+35) rfl
 exact⟨h 0 _ rfl,Cq r1,Cq r6,Cq r18,Cq r25,r35 0 _ rfl,r35 1 _ rfl⟩
theorem sameAct_any (a:CH.Act) (s s':ActV) (w:World) (h:gG w.heap.size w a s) (h':gG w.heap.size w a s') :
  Calls prog 52 #[.agg (At a s).toArray,.agg (At a s').toArray] w (Ret w (.bool true)):=by
 have HA:=hid fun (W:World) (hb:Below w.heap.size w W)=>(h.below hb nR).mono hb.size
 have HA':=hid fun (W:World) (hb:Below w.heap.size w W)=>(h'.below hb nR).mono hb.size
 have T1:Hid (∀ (W:World),Below w.heap.size w W→Calls prog 99 #[.agg (A4 a.change s.vn).toArray,.agg (A4 a.change s'.vn).toArray] W (Ret W (.bool true))):=hid fun W hb=>M3 a.change s.vn s'.vn W (HA.out W hb).names (HA'.out W hb).names
 have T2:=hid fun (W:World) (hb:Below w.heap.size w W)=>Ma a.measure s.vk s'.vk W (HA.out W hb).kids (HA'.out W hb).kids
 have T3:=hid fun (W:World) (hb:Below w.heap.size w W)=>Mb a.licence s.vm s.vp s'.vm s'.vp W (HA.out W hb).lm (HA.out W hb).lp (HA'.out W hb).lm (HA'.out W hb).lp
 have T4:=hid fun (W:World) (hb:Below w.heap.size w W)=>sameHold_any a.holding s.vj s'.vj W (HA.out W hb).hj (HA'.out W hb).hj
 have P:=hid fun (W:World) (b:Nat) (hr:W.rangeAt b 0 (At a s))=>act_parts hr
 have P':=hid fun (W:World) (b:Nat) (hr:W.rangeAt b 0 (At a s'))=>act_parts hr
 clear h h' HA HA'
 have i1:(prog.info? 58).map (·.size)=some (A4 a.change s.vn).length:=by kernel_rfl
 have i2:(prog.info? 63).map (·.size)=some (As a.measure s.vk).length:=by kernel_rfl
 have i3:(prog.info? 65).map (·.size)=some (Bt a.licence s.vm s.vp).length:=by kernel_rfl
 have i4:(prog.info? 53).map (·.size)=some (Au a.holding s.vj).length:=by kernel_rfl
 have i1':(prog.info? 58).map (·.size)=some (A4 a.change s'.vn).length:=by kernel_rfl
 have i2':(prog.info? 63).map (·.size)=some (As a.measure s'.vk).length:=by kernel_rfl
 have i3':(prog.info? 65).map (·.size)=some (Bt a.licence s'.vm s'.vp).length:=by kernel_rfl
 have i4':(prog.info? 53).map (·.size)=some (Au a.holding s'.vj).length:=by kernel_rfl
 generalize A4 a.change s.vn=C1 at *
 generalize As a.measure s.vk=C2 at *
 generalize Bt a.licence s.vm s.vp=C3 at *
 generalize Au a.holding s.vj=C4 at *
 generalize A4 a.change s'.vn=C1' at *
 generalize As a.measure s'.vk=C2' at *
 generalize Bt a.licence s'.vm s'.vp=C3' at *
 generalize Au a.holding s'.vj=C4' at *
 generalize At a s=C at *
 generalize At a s'=C' at *
 generalize a.kind=ak at *
 generalize a.id=aid at *
 generalize a.n=an at *
 have hB0:=hid fun o o2=>((Below.refl _ w).alloc nR o).alloc (by simp) o2
 have hr0:=hid (rng_alloc (Br w C 67) (.cells C'.toArray 67))
 have hr0':Hid (((w.alloc (.cells C.toArray 67)).alloc (.cells C'.toArray 67)).rangeAt (w.heap.size+1) 0 C'):=hid (by
  have:=Br (w.alloc (.cells C.toArray 67)) C' 67
  rwa [World.size_alloc] at this)
 obtain⟨k0,r1,_⟩:=P.out _ _ hr0.out
 obtain⟨k0',r1',_⟩:=P'.out _ _ hr0'.out
 have r1:=hid r1
 have r1':=hid r1'
 go_enter func52,ntmps52
 go_wp2_with (first|refine Av rfl 58 _ rfl w.heap.size (0+1) rfl C1 _ r1.out underlying58 rfl i1 ?_|refine Av rfl 58 _ rfl (w.heap.size+1) (0+1) rfl C1' _ r1'.out underlying58 rfl i1' ?_)
 have B:=hB0.out (.cells C.toArray 67) (.cells C'.toArray 67)
 have hlt:w.heap.size+1<((w.alloc (.cells C.toArray 67)).alloc (.cells C'.toArray 67)).heap.size:=by simp
 clear hB0
 generalize (w.alloc (.cells C.toArray 67)).alloc (.cells C'.toArray 67)=W at *
 have R:=hid fun (W':World) (hb:Below W.heap.size W W')=>P.out W' _ (Ck hr0.out hb (by omega))
 have R':=hid fun (W':World) (hb:Below W.heap.size W W')=>P'.out W' _ (Ck hr0'.out hb hlt)
 clear P P' hr0 hr0'
 refine (T1.out _ B).mono ?_
 rintro e w1 ⟨rfl,hb1⟩
 have B1:=B.trans (hb1.mono B.size)
 clear T1 r1 r1' k0 k0' i1 i1'
 obtain⟨_,_,r2,_⟩:=R.out w1 hb1
 obtain⟨_,_,r2',_⟩:=R'.out w1 hb1
 have r2:=hid r2
 have r2':=hid r2'
 go_wp2_with (first|refine Av rfl 63 _ rfl w.heap.size (0+6) rfl C2 _ r2.out underlying63 rfl i2 ?_|refine Av rfl 63 _ rfl (w.heap.size+1) (0+6) rfl C2' _ r2'.out underlying63 rfl i2' ?_)
 refine (T2.out _ B1).mono ?_
 rintro e w2 ⟨rfl,hb⟩
 have B2:=B1.trans (hb.mono B1.size)
 have hb2:=hb1.trans (hb.mono hb1.size)
 clear T2 r2 r2' hb i2 i2'
 obtain⟨_,_,_,r3,_⟩:=R.out w2 hb2
 obtain⟨_,_,_,r3',_⟩:=R'.out w2 hb2
 have r3:=hid r3
 have r3':=hid r3'
 go_wp2_with (first|refine Av rfl 65 _ rfl w.heap.size (0+18) rfl C3 _ r3.out underlying65 rfl i3 ?_|refine Av rfl 65 _ rfl (w.heap.size+1) (0+18) rfl C3' _ r3'.out underlying65 rfl i3' ?_)
 refine (T3.out _ B2).mono ?_
 rintro e w3 ⟨rfl,hb⟩
 have B3:=B2.trans (hb.mono B2.size)
 have hb3:=hb2.trans (hb.mono hb2.size)
 clear T3 r3 r3' hb i3 i3'
 obtain⟨_,_,_,_,r4,_⟩:=R.out w3 hb3
 obtain⟨_,_,_,_,r4',_⟩:=R'.out w3 hb3
 have r4:=hid r4
 have r4':=hid r4'
 go_wp2_with (first|refine Av rfl 53 _ rfl w.heap.size (0+25) rfl C4 _ r4.out underlying53 rfl i4 ?_|refine Av rfl 53 _ rfl (w.heap.size+1) (0+25) rfl C4' _ r4'.out underlying53 rfl i4' ?_)
 refine (T4.out _ B3).mono ?_
 rintro e w4 ⟨rfl,hb⟩
 have B4:=B3.trans (hb.mono B3.size)
 have hb4:=hb3.trans (hb.mono hb3.size)
 clear T4 r4 r4' hb i4 i4'
 obtain⟨_,_,_,_,_,k35,k36⟩:=R.out w4 hb4
 obtain⟨_,_,_,_,_,k35',k36'⟩:=R'.out w4 hb4
 clear R R'
 simp only [Nat.zero_add] at k35 k36 k35' k36'
 go_wp2
 go_ret
 exact⟨rfl,B4⟩
theorem sameVer_any (x:CH.Version) (s s':bF) (w:World) (h:gK w.heap.size w x s) (h':gK w.heap.size w x s') :
  Calls prog 25 #[.agg (Ab x s).toArray,.agg (Ab x s').toArray] w (Ret w (.bool true)):=by
 have S:=hid fun (W:World) (hb:Below w.heap.size w W)=>sameSeal_any x.sel s.v1 s.v2 s'.v1 s'.v2 W ((h.sig.below hb nR).mono hb.size) ((h.path.below hb nR).mono hb.size) ((h'.sig.below hb nR).mono hb.size) ((h'.path.below hb nR).mono hb.size)
 obtain⟨va,v1,v2⟩:=s
 obtain⟨va',v1',v2'⟩:=s'
 obtain⟨a,cap,e,hl,hcap,hne⟩:=h.acts
 obtain⟨a',cap',e',hl',hcap',hne'⟩:=h'.acts
 change va=_ at e
 change va'=_ at e'
 subst e e'
 obtain⟨_,_,e,_,_⟩:=h.sig.form
 change v1=_ at e
 subst e
 obtain⟨_,_,e,_,_⟩:=h.path.form
 change v2=_ at e
 subst e
 obtain⟨_,_,e,_,_⟩:=h'.sig.form
 change v1'=_ at e
 subst e
 obtain⟨_,_,e,_,_⟩:=h'.path.form
 change v2'=_ at e
 subst e
 clear h h'
 generalize x.sel.sig.length=n1 at *
 generalize x.sel.path.length=n2 at *
 have hne:=hid hne
 have hne':=hid hne'
 obtain⟨N,hN⟩:∃ N,x.acts.length=N:=⟨_,rfl⟩
 rw [hN] at hl hl' ⊢
 have hN:=hid hN
 have hB0:=hid fun o o2=>((Below.refl _ w).alloc nR o).alloc (by simp) o2
 have hi37:(prog.info? 67).map (·.size)=some 37:=by kernel_rfl
 dsimp only [Ab] at *
 go_enter func25,ntmps25
 go_wp2_with fail
 have B:=hB0.out
 generalize hWd:(w.alloc _).alloc _=W at *
 have hBW:Below w.heap.size w W:=by rw [← hWd];exact B _ _
 have K:=hid (Ip hWd)
 have hlW:w.heap.size+1<W.heap.size:=by rw [← hWd];simp
 clear hWd hB0 B
 refine (S.out _ hBW).mono ?_
 rintro e w1 ⟨rfl,hb1⟩
 have hB1:=hBW.trans (hb1.mono hBW.size)
 clear S
 go_wp2_with fail
 go_loopw [5] (fun i wr=>∃ k:Nat,k≤N∧i=.int .i64 k∧Hid (Below w.heap.size w wr)∧Hid (Below W.heap.size W wr)) (fun i _=>N - (RowKit.intOf i).toNat)
 case atStart=>exact⟨0,Nat.zero_le _,rfl,hid hB1,hid hb1⟩
 case round =>
  obtain⟨k,hk,rfl,hBr,hbr⟩:=hrel
  have k4:=(K.out wr hbr.out).1 4 _ rfl
  have k4':=(K.out wr hbr.out).2 4 _ rfl
  by_cases hlt:k<N
  ·obtain⟨b,off,rfl,hbl,hcells⟩:=hne.out (by intro h;have:=hN.out;simp [h] at this;omega)
   obtain⟨b',off',rfl,fB,hcells'⟩:=hne'.out (by intro h;have:=hN.out;simp [h] at this;omega)
   obtain⟨y,hy⟩:∃ y,x.acts[k]?=some y:=⟨_,lZ (by rw [hN.out];exact hlt)⟩
   obtain⟨sy,hc,hat⟩:=hcells k y hy
   obtain⟨sy',hc',hat'⟩:=hcells' k y hy
   have hrg:wr.rangeAt b (off+k*37) (At y sy):=fun j u hj=>(hBr.out.cell (p:=⟨b,off+k*37+j,none⟩) hbl).trans (hc j u hj)
   have hrg':wr.rangeAt b' (off'+k*37) (At y sy'):=fun j u hj=>(hBr.out.cell (p:=⟨b',off'+k*37+j,none⟩) fB).trans (hc' j u hj)
   have F:=hid fun (W':World) (hb:Below wr.heap.size wr W')=>sameAct_any y sy sy' W' ((hat.below (hBr.out.trans (hb.mono hBr.out.size)) nR).mono (nT hBr.out.size hb.size)) ((hat'.below (hBr.out.trans (hb.mono hBr.out.size)) nR).mono (nT hBr.out.size hb.size))
   have hl1:(prog.info? 67).map (·.size)=some (At y sy).length:=hi37
   have hl2:(prog.info? 67).map (·.size)=some (At y sy').length:=hi37
   clear hcells hcells' hc hc' hat hat' hy
   generalize At y sy=C at *
   generalize At y sy'=C' at *
   have z0:(0:Int)≤(k:Int):=by omega
   have zk:((k:Int)).toNat=k:=by omega
   have hk':(k:Int)<(N:Int):=by omega
   have hs1:w.heap.size<wr.heap.size:=nL (by omega) hbr.out.size
   have hs2:w.heap.size+1<wr.heap.size:=nL hlW hbr.out.size
   have hs3:b<wr.heap.size:=nL hbl hBr.out.size
   have hs4:b'<wr.heap.size:=nL fB hBr.out.size
   have SS:=hid fun (W':World) (hb:Below wr.heap.size wr W')=>(⟨(hb.cell (p:=⟨w.heap.size,4,none⟩) hs1).trans k4,(hb.cell (p:=⟨w.heap.size+1,4,none⟩) hs2).trans k4',Ck hrg hb hs3,Ck hrg' hb hs4⟩:W'.cell? ⟨w.heap.size,4,none⟩=some (.slice (some ⟨b,off,none⟩) N cap)∧W'.cell? ⟨w.heap.size+1,4,none⟩=some (.slice (some ⟨b',off',none⟩) N cap')∧W'.rangeAt b (off+k*37) C∧W'.rangeAt b' (off'+k*37) C')
   have hD:Below wr.heap.size wr wr.drew:=(Below.refl _ wr).drew
   clear hrg hrg'
   go_wp2_with fail
   refine wp_region_held_drew (S:=(fun W'=>W'.cell? ⟨w.heap.size,4,none⟩=some (.slice (some ⟨b,off,none⟩) N cap)∧W'.cell? ⟨w.heap.size+1,4,none⟩=some (.slice (some ⟨b',off',none⟩) N cap')∧W'.rangeAt b (off+k*37) C∧W'.rangeAt b' (off'+k*37) C')) (by kernel_rfl) (SS.out _ hD) (fun hHeld=>?_)
   refine tk 0 (v:=?_) rfl (by rfl) hHeld ?_ ?_
   rotate_left
   ·(intro w hSw;(try dsimp only at hSw);go_simp;try with_reducible rfl)
   (try simp only [Act.put,pD,pE,pF,pA,pB,pC])
   refine tk 1 (v:=?_) rfl (by rfl) hHeld ?_ ?_
   rotate_left
   ·(intro w hSw;(try dsimp only at hSw);go_simp;try with_reducible rfl)
   (try simp only [Act.put,pD,pE,pF,pA,pB,pC])
   refine tk 2 (v:=?_) rfl (by rfl) hHeld ?_ ?_
   rotate_left
   ·(intro w hSw;(try dsimp only at hSw);go_simp;try with_reducible rfl)
   (try simp only [Act.put,pD,pE,pF,pA,pB,pC])
   refine tk 3 (v:=?_) rfl (by rfl) hHeld ?_ ?_
   rotate_left
   ·(intro w hSw;(try dsimp only at hSw);go_simp;try with_reducible rfl)
   (try simp only [Act.put,pD,pE,pF,pA,pB,pC])
   refine wpAnyH_take (i:=4) (v:=.agg C.toArray) rfl (by kernel_rfl) (by kernel_rfl) (by kernel_rfl) (fun _ _ _ h=>h) ?_ hHeld ?_
   ·exact yieldsIf_load_mid (by rfl) _ _ rfl _ _ rfl C _ (fun W hSw=>hSw.2.2.1) underlying67 rfl hl1
   (try simp only [Act.put,pD,pE,pF,pA,pB,pC])
   refine tk 5 (v:=?_) rfl (by rfl) hHeld ?_ ?_
   rotate_left
   ·(intro w hSw;(try dsimp only at hSw);go_simp;try with_reducible rfl)
   (try simp only [Act.put,pD,pE,pF,pA,pB,pC])
   refine tk 6 (v:=?_) rfl (by rfl) hHeld ?_ ?_
   rotate_left
   ·(intro w hSw;(try dsimp only at hSw);go_simp;try with_reducible rfl)
   (try simp only [Act.put,pD,pE,pF,pA,pB,pC])
   refine tk 7 (v:=?_) rfl (by rfl) hHeld ?_ ?_
   rotate_left
   ·(intro w hSw;(try dsimp only at hSw);go_simp;try with_reducible rfl)
   (try simp only [Act.put,pD,pE,pF,pA,pB,pC])
   refine tk 8 (v:=?_) rfl (by rfl) hHeld ?_ ?_
   rotate_left
   ·(intro w hSw;(try dsimp only at hSw);go_simp;try with_reducible rfl)
   (try simp only [Act.put,pD,pE,pF,pA,pB,pC])
   refine wpAnyH_take (i:=9) (v:=.agg C'.toArray) rfl (by kernel_rfl) (by kernel_rfl) (by kernel_rfl) (fun _ _ _ h=>h) ?_ hHeld ?_
   ·exact yieldsIf_load_mid (by rfl) _ _ rfl _ _ rfl C' _ (fun W hSw=>hSw.2.2.2) underlying67 rfl hl2
   (try simp only [Act.put,pD,pE,pF,pA,pB,pC])
   refine rk 10 rfl (fun K hK=>?_)
   go_simp
   refine (F.out _ hD).mono ?_
   rintro e w2 ⟨rfl,hb2⟩
   have hE:Below wr.heap.size wr w2:=hD.trans (hb2.mono hD.size)
   go_wp2_with fail
   refine hK.out _ _ (SS.out _ hE) (fun hHeld=>?_)
   clear hK K
   (try simp only [Act.put,pD,pE,pF,pA,pB,pC])
   refine tk 11 (v:=?_) rfl (by rfl) hHeld ?_ ?_
   rotate_left
   ·(intro w hSw;(try dsimp only at hSw);go_simp;try with_reducible rfl)
   (try simp only [Act.put,pD,pE,pF,pA,pB,pC])
   refine wpAnyH_done (by kernel_rfl) ?_ _
   have hb2:=hE
   have hB2:Hid (Below w.heap.size w w2):=hid (hBr.out.trans (hb2.mono hBr.out.size))
   have hb2:Hid (Below W.heap.size W w2):=hid (hbr.out.trans (hb2.mono hbr.out.size))
   clear F SS k4 k4'
   go_wp2
   go_roundw
   case rel=>exact⟨k+1,by omega,by go_num,hB2,hb2⟩
   case measure=>simp [RowKit.intOf];omega
  ·obtain rfl:k=N:=by omega
   go_wp2
   go_ret
   exact⟨rfl,hBr.out⟩
theorem Ka (v v':Value) (l:List CH.Version) (w:World) (h:Dx w.heap.size w v l) (h':Dx w.heap.size w v' l) :
  Calls prog 9 #[v,v'] w (Ret w (.bool true)):=by
 obtain⟨a,cap,rfl,hl,hcap,hne⟩:=h
 obtain⟨a',cap',rfl,hl',hcap',hne'⟩:=h'
 have hne:=hid hne
 have hne':=hid hne'
 obtain⟨N,hN⟩:∃ N,l.length=N:=⟨_,rfl⟩
 rw [hN] at hl hl' ⊢
 have hN:=hid hN
 have hi8:(prog.info? 30).map (·.size)=some 8:=by kernel_rfl
 go_enter func9,ntmps9
 go_wp2_with fail
 go_loopw [5] (fun i wr=>∃ k:Nat,k≤N∧i=.int .i64 k∧Hid (Below w.heap.size w wr)) (fun i _=>N - (RowKit.intOf i).toNat)
 case atStart=>exact⟨0,Nat.zero_le _,rfl,hid (Below.refl _ _)⟩
 case round =>
  obtain⟨k,hk,rfl,hBr⟩:=hrel
  by_cases hlt:k<N
  ·obtain⟨b,off,rfl,hbl,hcells⟩:=hne.out (by intro h;have:=hN.out;simp [h] at this;omega)
   obtain⟨b',off',rfl,fB,hcells'⟩:=hne'.out (by intro h;have:=hN.out;simp [h] at this;omega)
   obtain⟨y,hy⟩:∃ y,l[k]?=some y:=⟨_,lZ (by rw [hN.out];exact hlt)⟩
   obtain⟨sy,hc,hat⟩:=hcells k y hy
   obtain⟨sy',hc',hat'⟩:=hcells' k y hy
   have hrg:wr.rangeAt b (off+k*8) (Ab y sy):=fun j u hj=>(hBr.out.cell (p:=⟨b,off+k*8+j,none⟩) hbl).trans (hc j u hj)
   have hrg':wr.rangeAt b' (off'+k*8) (Ab y sy'):=fun j u hj=>(hBr.out.cell (p:=⟨b',off'+k*8+j,none⟩) fB).trans (hc' j u hj)
   have F:=hid fun (W':World) (hb:Below wr.heap.size wr W')=>sameVer_any y sy sy' W' ((hat.raw.below (hBr.out.trans (hb.mono hBr.out.size)) nR).mono (nT hBr.out.size hb.size)) ((hat'.raw.below (hBr.out.trans (hb.mono hBr.out.size)) nR).mono (nT hBr.out.size hb.size))
   have hl1:(prog.info? 30).map (·.size)=some (Ab y sy).length:=hi8
   have hl2:(prog.info? 30).map (·.size)=some (Ab y sy').length:=hi8
   clear hcells hcells' hc hc' hat hat' hy
   generalize Ab y sy=C at *
   generalize Ab y sy'=C' at *
   have z0:(0:Int)≤(k:Int):=by omega
   have zk:((k:Int)).toNat=k:=by omega
   have hk':(k:Int)<(N:Int):=by omega
   have hs3:b<wr.heap.size:=nL hbl hBr.out.size
   have hs4:b'<wr.heap.size:=nL fB hBr.out.size
   have SS:=hid fun (W':World) (hb:Below wr.heap.size wr W')=>(⟨Ck hrg hb hs3,Ck hrg' hb hs4⟩:W'.rangeAt b (off+k*8) C∧W'.rangeAt b' (off'+k*8) C')
   have hD:Below wr.heap.size wr wr.drew:=(Below.refl _ wr).drew
   clear hrg hrg'
   go_wp2_with fail
   refine wp_region_held_drew (S:=(fun W'=>W'.rangeAt b (off+k*8) C∧W'.rangeAt b' (off'+k*8) C')) (by kernel_rfl) (SS.out _ hD) (fun hHeld=>?_)
   refine tk 0 (v:=?_) rfl (by rfl) hHeld ?_ ?_
   rotate_left
   ·(intro w hSw;(try dsimp only at hSw);go_simp;try with_reducible rfl)
   (try simp only [Act.put,pD,pE,pF,pA,pB,pC])
   refine tk 1 (v:=?_) rfl (by rfl) hHeld ?_ ?_
   rotate_left
   ·(intro w hSw;(try dsimp only at hSw);go_simp;try with_reducible rfl)
   (try simp only [Act.put,pD,pE,pF,pA,pB,pC])
   refine tk 2 (v:=?_) rfl (by rfl) hHeld ?_ ?_
   rotate_left
   ·(intro w hSw;(try dsimp only at hSw);go_simp;try with_reducible rfl)
   (try simp only [Act.put,pD,pE,pF,pA,pB,pC])
   refine wpAnyH_take (i:=3) (v:=.agg C.toArray) rfl (by kernel_rfl) (by kernel_rfl) (by kernel_rfl) (fun _ _ _ h=>h) ?_ hHeld ?_
   ·exact yieldsIf_load_mid (by rfl) _ _ rfl _ _ rfl C _ (fun W hSw=>hSw.1) underlying30 rfl hl1
   (try simp only [Act.put,pD,pE,pF,pA,pB,pC])
   refine tk 4 (v:=?_) rfl (by rfl) hHeld ?_ ?_
   rotate_left
   ·(intro w hSw;(try dsimp only at hSw);go_simp;try with_reducible rfl)
   (try simp only [Act.put,pD,pE,pF,pA,pB,pC])
   refine tk 5 (v:=?_) rfl (by rfl) hHeld ?_ ?_
   rotate_left
   ·(intro w hSw;(try dsimp only at hSw);go_simp;try with_reducible rfl)
   (try simp only [Act.put,pD,pE,pF,pA,pB,pC])
   refine tk 6 (v:=?_) rfl (by rfl) hHeld ?_ ?_
   rotate_left
   ·(intro w hSw;(try dsimp only at hSw);go_simp;try with_reducible rfl)
   (try simp only [Act.put,pD,pE,pF,pA,pB,pC])
   refine wpAnyH_take (i:=7) (v:=.agg C'.toArray) rfl (by kernel_rfl) (by kernel_rfl) (by kernel_rfl) (fun _ _ _ h=>h) ?_ hHeld ?_
   ·exact yieldsIf_load_mid (by rfl) _ _ rfl _ _ rfl C' _ (fun W hSw=>hSw.2) underlying30 rfl hl2
   (try simp only [Act.put,pD,pE,pF,pA,pB,pC])
   refine rk 8 rfl (fun K hK=>?_)
   go_simp
   refine (F.out _ hD).mono ?_
   rintro e w2 ⟨rfl,hb2⟩
   have hE:Below wr.heap.size wr w2:=hD.trans (hb2.mono hD.size)
   go_wp2_with fail
   refine hK.out _ _ (SS.out _ hE) (fun hHeld=>?_)
   clear hK K
   (try simp only [Act.put,pD,pE,pF,pA,pB,pC])
   refine tk 9 (v:=?_) rfl (by rfl) hHeld ?_ ?_
   rotate_left
   ·(intro w hSw;(try dsimp only at hSw);go_simp;try with_reducible rfl)
   (try simp only [Act.put,pD,pE,pF,pA,pB,pC])
   refine wpAnyH_done (by kernel_rfl) ?_ _
   have hB2:Hid (Below w.heap.size w w2):=hid (hBr.out.trans (hE.mono hBr.out.size))
   clear F SS
   go_wp2
   go_roundw
   case rel=>exact⟨k+1,by omega,by go_num,hB2⟩
   case measure=>simp [RowKit.intOf];omega
  ·obtain rfl:k=N:=by omega
   go_wp2
   go_ret
   exact⟨rfl,hBr.out⟩
end
end Go.Proofs.YtjaeapaeaiiieaaGreatDoor
namespace CH
section
def own (a:Int) (l:List Version):List Version:=l.filter fun v=>v.authority==a
theorem Ff {β:Type} (p:Int × Int):∀ (l m:List ((Int × Int) × β)),aX p (l++m)=(aX p l).or (aX p m)
 | [],_=>rfl
 |(q,x)::l,m=>by
  rw [List.cons_append,aX,aX]
  split
  ·rfl
  ·exact Ff p l m
theorem addV_look {chk:Version→Str→Bool} {keys:List Str} {k k':Known} {f f':Forks} {v:Version} (h:∀ n,aX (v.authority,n) k=aX (v.authority,n) k') (n:Int) :
  aX (v.authority,n) (fQ chk keys k f v).2.1=aX (v.authority,n) (fQ chk keys k' f' v).2.1:=by
 unfold fQ
 split
 ·exact h n
 ·split
  ·exact h n
  ·split
   ·exact h n
   ·rw [← h v.number]
    split
    ·dsimp only
     rw [Ff,Ff,h n]
    ·split <;> exact h n
theorem addV_look_ne {chk:Version→Str→Bool} {keys:List Str} {k:Known} {f:Forks} {v:Version} {a:Int} (ha:v.authority≠a) (n:Int):aX (a,n) (fQ chk keys k f v).2.1=aX (a,n) k :=
 He (P:=fun r=>aX (a,n) r.2.1=aX (a,n) k) chk keys k f v (fun _ _=>rfl) fun _ _ _ _ _=>by
  dsimp only
  rw [Ff,aX,if_neg (by simp;intro h;exact absurd h.symm ha),aX]
  simp
theorem Ik {chk:Version→Str→Bool} {keys:List Str} {a:Int}:∀ (l:List Version) (k k':Known) (f f':Forks),(∀ n,aX (a,n) k=aX (a,n) k')→∀ n,aX (a,n) (dL chk keys l k f).1=aX (a,n) (dL chk keys (own a l) k' f').1
 | [],_,_,_,_,h,n=>h n
 | v::l,k,k',f,f',h,n=>by
  unfold own
  by_cases hv:v.authority=a
  ·rw [List.filter_cons_of_pos (by simp [hv]),dL,dL]
   subst hv
   exact Ik l _ _ _ _ (addV_look h) n
  ·rw [List.filter_cons_of_neg (by simp [hv]),dL]
   exact Ik l _ _ _ _ (fun m=>(addV_look_ne hv m).trans (h m)) n
theorem Lw {msg:Version→Str} {k k':Known} {a:Int} (h:∀ n,aX (a,n) k=aX (a,n) k'):∀ (f:Nat) (out:List Version) (hd:Str) (last:Int),follow msg k a f out hd last=follow msg k' a f out hd last
 | 0,_,_,_=>rfl
 | f+1,out,hd,last=>by
  rw [follow,follow,h]
  split
  ·rfl
  ·split
   ·rfl
   ·exact Lw h f _ _ _
theorem fol_own (msg:Version→Str) (chk:Version→Str→Bool) (keys:List Str) (a:Int) (l:List Version):fol msg (dL chk keys l [] []).1 a=fol msg (dL chk keys (own a l) [] []).1 a :=
 Lw (Ik l [] [] [] [] fun _=>rfl) _ _ _ _
theorem addAll_all {chk:Version→Str→Bool} {keys:List Str} {P:Version→Prop}:∀ (l:List Version) (k:Known) (f:Forks),(∀ v∈l,P v)→(∀ p v,(p,v)∈k→P v)→∀ p v,(p,v)∈(dL chk keys l k f).1→P v
 | [],_,_,_,h=>h
 | v::l,k,f,hl,h=>addAll_all l _ _ (fun u hu=>hl u (by simp [hu])) (He (P:=fun r=>∀ p u,(p,u)∈r.2.1→P u) chk keys k f v (fun _ _=>h) fun _ _ _ _ _ p u hp=>by
   rcases List.mem_append.1 hp with hp|hp
   ·exact h p u hp
   ·cases List.mem_singleton.1 hp
    exact hl v (by simp))
theorem others_law (msg:Version→Str) (chk:Version→Str→Bool) (keys:List Str) (a:Nat) (ha:a<keys.length) (l:List Version) :
  (versions msg (dL chk keys l [] []).1 keys.length).filter (fun v=>v.authority==(a:Int))=versions msg (dL chk keys (own a l) [] []).1 keys.length:=by
 have g1:=gX (chk:=chk) (keys:=keys) l [] [] (good_nil chk keys)
 have g2:=gX (chk:=chk) (keys:=keys) (own a l) [] [] (good_nil chk keys)
 have hall:(versions msg (dL chk keys (own a l) [] []).1 keys.length).filter (fun v=>v.authority==(a:Int))=versions msg (dL chk keys (own a l) [] []).1 keys.length:=by
  rw [List.filter_eq_self]
  intro v hv
  obtain⟨p,hp⟩:=Hb _ v (versions_mem g2 _ v hv)
  refine addAll_all (P:=fun u=>(u.authority==(a:Int))=true) (own a l) [] [] (fun u hu=>?_) (fun _ _ h=>by cases h) p v hp
  exact (List.mem_filter.1 hu).2
 rw [(Ex g1 _).filter,Ep g1 a _ ha,fol_own,← hall,(Ex g2 _).filter,Ep g2 a _ ha]
end
end CH
