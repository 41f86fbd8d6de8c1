/-
  ChainSeals: the proof, part 10 of 15.
-/
import Derived.Test.YtjepldaciejieaaGreatDoorP08
import Derived.Deep.RegionHeld3
set_option linter.unusedSimpArgs false
set_option linter.unusedVariables false
set_option maxHeartbeats 40000000
set_option maxRecDepth 100000
namespace Go.Proofs.YtjepldaciejieaaGreatDoor
section
open Go.Lib Go.Proofs.Tryz Go.RowKit Go.Shelf Go.Sort
theorem make_err1 (v:CH.Version) (h er:Int) (secret:List UInt8) (va:Value) (w:World) (hG:Gc w) (hA:VerAt w.heap.size w v ⟨va,.slice none 0 0,.slice none 0 0⟩) (hv:v.sel=⟨0,[],[]⟩) (hm:CH.message v=.error er) (her:er≠0) :
  Calls prog 6 #[.int .i64 v.authority,.int .i64 v.number,.int .i64 v.pos,.string ⟨v.prev.toArray⟩,va,.string ⟨secret.toArray⟩,.int .i64 h] w (Ret w (.tuple #[.agg A7.toArray,.int .i64 er])):=by
 have hB00:=fun o o'=>((Below.refl _ w).alloc nR o).alloc (by simp) o'
 have M:=fun (W:World) (hb:Below w.heap.size w W)=>Cj v _ W (hG.below hb) ((hA.below hb nR).mono hb.size)
 rw [hm] at M
 obtain⟨aa,ca,e,_,_⟩:=hA.acts.form
 change va=_ at e
 subst e
 clear hA
 generalize v.acts.length=N at *
 dsimp only [Ac,resV] at M
 rw [hv] at M
 dsimp only at M
 replace M:=hid M
 have q1:(er==0)=false:=by simpa using her
 have q2:(er != 0)=true:=by simpa using her
 have hi8:(prog.info? 29).map (·.size)=some 8:=by kernel_rfl
 go_enter func6,ntmps6
 go_wp2_with fail
 refine (M.out _ (hB00 _ _)).mono ?_
 rintro e w1 ⟨rfl,hb1⟩
 clear M
 have hB1:Below w.heap.size w w1:=(hB00 _ _).trans (hb1.mono (by simp;omega))
 have hblk0:=(hb1.block w.heap.size (by simp;omega)).trans (alloc2_fst _ _ _)
 have h0:w1.rangeAt w.heap.size 0 A7:=fun j u hj=>by rw [Nat.zero_add,cell_of hblk0 j];simpa [A7] using hj
 have hth:w1.there w.heap.size 0 8:=fun j hj=>⟨by
  obtain⟨u,hu⟩:∃ u,A7[j]?=some u:=⟨_,lZ hj⟩
  rw [h0 j u hu];rfl,Aj hblk0 _⟩
 have hrF:=hid (World.rangeAt_setCells_same w1 w.heap.size 0 A7 hth)
 have hBF:=hid (Au hB1 nR A7 0)
 have hth:=hid hth
 clear h0 hblk0 hb1 hB1
 go_wp2_with (refine wpList_store_mid rfl 29 _ _ rfl w.heap.size 0 A7.toArray rfl rfl hth.out hi8 zero_one ?_)
 refine bodyPost_ret (Bo rfl _ _ ⟨w.heap.size,0,none⟩ _ rfl (run_loadVar_mid _ w.heap.size 0 29 A7 _ hrF.out underlying29 rfl hi8)) rfl ?_
 exact⟨rfl,hBF.out⟩
theorem make_err2 (v:CH.Version) (h:Int) (i:Nat) (secret m:List UInt8) (va:Value) (w:World) (hG:Gc w) (hA:VerAt w.heap.size w v ⟨va,.slice none 0 0,.slice none 0 0⟩) (hv:v.sel=⟨0,[],[]⟩) (hn:v.number=(i:Int)+1) (hi:i≤1000) (hm:CH.message v=.ok m)
  (hbad:h<0∨∃ k:Nat,h=k∧k≤8∧2 ^ k≤i) :
  Calls prog 6 #[.int .i64 v.authority,.int .i64 v.number,.int .i64 v.pos,.string ⟨v.prev.toArray⟩,va,.string ⟨secret.toArray⟩,.int .i64 h] w (Ret w (.tuple #[.agg A7.toArray,.int .i64 1])):=by
 have hB00:=fun o o'=>((Below.refl _ w).alloc nR o).alloc (by simp) o'
 have M:=fun (W:World) (hb:Below w.heap.size w W)=>Cj v _ W (hG.below hb) ((hA.below hb nR).mono hb.size)
 rw [hm] at M
 have S:=hid fun (W:World)=>signErr_any secret m h i W hbad
 obtain⟨aa,ca,e,_,_⟩:=hA.acts.form
 change va=_ at e
 subst e
 clear hA hbad
 generalize v.acts.length=N at *
 have hsub:(v.number - 1:Int)=(i:Int):=by omega
 dsimp only [Ac,resV] at M
 rw [hv] at M
 dsimp only at M
 replace M:=hid M
 have hng:1≤v.number∧v.number≤1001:=by omega
 clear hn
 have hi8:(prog.info? 29).map (·.size)=some 8:=by kernel_rfl
 have hi3:(prog.info? 27).map (·.size)=some 3:=by kernel_rfl
 go_enter func6,ntmps6
 go_wp2_with fail
 refine (M.out _ (hB00 _ _)).mono ?_
 rintro e w1 ⟨rfl,hb1⟩
 clear M
 have hB1:Below w.heap.size w w1:=(hB00 _ _).trans (hb1.mono (by simp;omega))
 have hblk:=(hb1.block (w.heap.size+1) (by simp)).trans (alloc2_snd _ _ _)
 have hblk0:=(hb1.block w.heap.size (by simp;omega)).trans (alloc2_fst _ _ _)
 have hlt:w.heap.size+1<w1.heap.size:=(aZ hblk)
 go_wp2_with fail
 refine (S.out _).mono ?_
 rintro e w2 ⟨rfl,hb2⟩
 clear S
 have hB2:Below w.heap.size w w2:=hB1.trans (hb2.mono hB1.size)
 have hblk2:=(hb2.block (w.heap.size+1) hlt).trans hblk
 have hblk02:=(hb2.block w.heap.size (by omega)).trans hblk0
 have hth1:w2.there (w.heap.size+1) 5 3:=fun j hj=>⟨by
  rcases (by omega:j=0∨j=1∨j=2) with rfl|rfl|rfl
  ·rw [cell_of hblk2 5];rfl
  ·rw [cell_of hblk2 6];rfl
  ·rw [cell_of hblk2 7];rfl,Aj hblk2 _⟩
 have h0:w2.rangeAt w.heap.size 0 A7:=fun j u hj=>by rw [Nat.zero_add,cell_of hblk02 j];simpa [A7] using hj
 have h0X:(w2.setCells (w.heap.size+1) 5 [.int .i64 0,.slice none 0 0,.slice none 0 0]).rangeAt w.heap.size 0 A7:=World.rangeAt_setCells_apart h0 _ _ _ (.inl (by omega))
 have h0f:∀ j,(w2.setCells (w.heap.size+1) 5 [.int .i64 0,.slice none 0 0,.slice none 0 0]).frozen? ⟨w.heap.size,j,none⟩=false:=fun j=>by rw [World.frozen?_setCells];exact Aj hblk02 j
 have hBX:=Au hB2 (Nat.le_succ _) [.int .i64 0,.slice none 0 0,.slice none 0 0] 5
 have hall:(#[.int .i64 0,.slice none 0 0,.slice none 0 0]:Array Value).all (·.oneCell')=true:=all_oneCell_toArray (cs:=[.int .i64 0,.slice none 0 0,.slice none 0 0]) (by
  intro u hu
  simp only [List.mem_cons,List.not_mem_nil,or_false] at hu
  rcases hu with rfl|rfl|rfl <;> rfl)
 have hth:(w2.setCells (w.heap.size+1) 5 [.int .i64 0,.slice none 0 0,.slice none 0 0]).there w.heap.size 0 8:=fun j hj=>⟨by
  obtain⟨u,hu⟩:∃ u,A7[j]?=some u:=⟨_,lZ hj⟩
  rw [h0X j u hu];rfl,h0f _⟩
 have hrF:=hid (World.rangeAt_setCells_same _ w.heap.size 0 A7 hth)
 have hBF:=hid (Au hBX nR A7 0)
 have hth:=hid hth
 have hth1:=hid hth1
 have hall:=hid hall
 clear h0 h0X h0f hblk hblk0 hblk2 hblk02 hb1 hb2 hB1 hB2 hBX
 go_wp2_with (first|refine wpList_store_mid rfl 27 _ _ rfl (w.heap.size+1) 5 #[.int .i64 0,.slice none 0 0,.slice none 0 0] rfl rfl hth1.out hi3 hall.out ?_|refine wpList_store_mid rfl 29 _ _ rfl w.heap.size 0 A7.toArray rfl rfl hth.out hi8 zero_one ?_)
 refine bodyPost_ret (Bo rfl _ _ ⟨w.heap.size,0,none⟩ _ rfl (run_loadVar_mid _ w.heap.size 0 29 A7 _ hrF.out underlying29 rfl hi8)) rfl ?_
 exact⟨rfl,hBF.out⟩
abbrev Al (p:Int × Int):Value:=.agg #[.int .i64 p.1,.int .i64 p.2]
theorem place_equal (a b:Int × Int) (w:World):(Op.equal 89 (Al a) (Al b)).run prog w=.ok (a==b) w:=by
 obtain⟨a1,a2⟩:=a
 obtain⟨b1,b2⟩:=b
 have hi:=underlying3
 have key:(Op.equalIn (9998+1+1) 89 (Al (a1,a2)) (Al (b1,b2))).run prog w=.ok ((a1,a2)==(b1,b2)) w:=by
  go_simp
  have e:((a1,a2)==(b1,b2))=(a1==b1&&a2==b2):=rfl
  rw [e]
  by_cases h1:a1=b1
  ·by_cases h2:a2=b2
   ·simp [h1,h2]
   ·simp [h1,h2]
  ·simp [h1]
 exact key
theorem place_asking (w:World) (k:Int × Int):∀ (kvs:List ((Int × Int) × Value)) (es:List MapEntry) (i:Nat),es.map (fun e=>(e.key,e.val))=kvs.map (fun p=>(Al p.1,p.2))→(Instr.findAsking 89 (Al k) es i).run prog w=.ok (Ax k kvs i) w:=by
 intro kvs
 induction kvs with
 | nil =>
  intro es i h
  have:es=[]:=by simpa using h
  subst this
  simp [Instr.findAsking,Ax]
 | cons p l ih =>
  intro es i h
  obtain⟨a,v⟩:=p
  cases es with
  | nil=>simp at h
  | cons e es =>
   simp only [List.map_cons,List.cons.injEq,Prod.mk.injEq] at h
   obtain⟨⟨hk,hv⟩,hr⟩:=h
   rw [Instr.findAsking,Sem.run_bind,hk,place_equal,Ax]
   cases hb:(k==a) with
   | true=>simp [hv]
   | false=>simpa using ih es (i+1) hr
theorem place_find (w:World) (k:Int × Int) (kvs:List ((Int × Int) × Value)) (es:List MapEntry) (h:es.map (fun e=>(e.key,e.val))=kvs.map (fun p=>(Al p.1,p.2))):(Instr.findKey 89 (Al k) es).run prog w=.ok (Ax k kvs 0) w:=by
 have ha:=place_asking w k kvs es 0 h
 unfold Instr.findKey
 rw [Sem.run_bind,run_underlying underlying89]
 simp only [Result.andThen_ok]
 cases es with
 | nil =>
  cases kvs with
  | nil=>simp [Instr.findNow,Ax]
  | cons _ _=>simp at h
 | cons e es =>
  cases kvs with
  | nil=>simp at h
  | cons p l =>
   simp only [Instr.findNow,Instr.sameNow]
   exact ha
theorem Eh (w:World) (e:Bool) (a:Int × Int):(Instr.checkKey e 10000 89 (Al a)).run prog w=.ok () w:=by kernel_rfl
theorem Dw {T E:TypeId} (hT:prog.underlying T=some (.map 89 E)) (z:Value) (hz:∀ w,(zeroValue E).run prog w=.ok z w)
  {r:Nat} {w:World} {kvs:List ((Int × Int) × Value)} (h:A6 Al r w kvs) (k:Int × Int) :
  (Instr.lookup T (.map (some r)) (Al k) true).run prog w=.ok (.tuple #[((Ax k kvs 0).map (·.2)).getD z,.bool (Ax k kvs 0).isSome]) w:=by
 obtain⟨es,clock,hb,hes,_⟩:=h
 have hf:=place_find w k kvs es.toList hes
 cases hq:Ax k kvs 0 with
 | none =>
  rw [hq] at hf
  simp [Instr.lookup,run_underlying hT,MapKept.run_getObj_map hb,Eh,hf,hz,Result.andThen]
 | some p =>
  rw [hq] at hf
  simp [Instr.lookup,run_underlying hT,MapKept.run_getObj_map hb,Eh,hf,Result.andThen]
theorem place_lookup1 {T E:TypeId} (hT:prog.underlying T=some (.map 89 E)) (z:Value) (hz:∀ w,(zeroValue E).run prog w=.ok z w)
  {r:Nat} {w:World} {kvs:List ((Int × Int) × Value)} (h:A6 Al r w kvs) (k:Int × Int) :
  (Instr.lookup T (.map (some r)) (Al k) false).run prog w=.ok (((Ax k kvs 0).map (·.2)).getD z) w:=by
 obtain⟨es,clock,hb,hes,_⟩:=h
 have hf:=place_find w k kvs es.toList hes
 cases hq:Ax k kvs 0 with
 | none =>
  rw [hq] at hf
  simp [Instr.lookup,run_underlying hT,MapKept.run_getObj_map hb,Eh,hf,hz,Result.andThen]
 | some p =>
  rw [hq] at hf
  simp [Instr.lookup,run_underlying hT,MapKept.run_getObj_map hb,Eh,hf,Result.andThen]
theorem place_update {T E:TypeId} (hT:prog.underlying T=some (.map 89 E))
  {r:Nat} {w:World} {kvs:List ((Int × Int) × Value)} (h:A6 Al r w kvs) (k:Int × Int) (v:Value) (hn:Ax k kvs 0=none) :
  ∃ o,(Instr.mapUpdate T (.map (some r)) (Al k) v).run prog w=.ok () (w.putObj r o)∧A6 Al r (w.putObj r o) (kvs++[(k,v)])∧∃ es c,o=.map es c:=by
 obtain⟨es,clock,hb,hes,hold,hnd⟩:=h
 have hf:=place_find w k kvs es.toList hes
 rw [hn] at hf
 have hlt:r<w.heap.size:=(aZ hb)
 refine⟨.map (es.push { key:=Al k,val:=v,born:=clock }) (clock+1),?_,⟨es.push { key:=Al k,val:=v,born:=clock },clock+1,World.putObj_heap_same hlt,?_,?_,?_⟩,_,_,rfl⟩
 ·simp [Instr.mapUpdate,run_underlying hT,MapKept.run_getObj_map hb,Eh,hf,Result.andThen,MapKept.run_setObj_map _ hb]
  rfl
 ·simp [hes]
 ·intro x hx
  rw [Array.toList_push,List.mem_append,List.mem_singleton] at hx
  rcases hx with hx|rfl
  ·have:=hold x hx;omega
  ·exact Nat.lt_succ_self _
 ·rw [Array.toList_push,List.map_append,List.nodup_append]
  refine⟨hnd,by simp,?_⟩
  intro a ha b hb' e
  obtain⟨x,hx,rfl⟩:=List.mem_map.1 ha
  simp only [List.map_cons,List.map_nil,List.mem_singleton] at hb'
  have:=hold x hx
  omega
def KVs (B:Nat) (w:World):List ((Int × Int) × Value)→List ((Int × Int) × CH.Version)→Prop
 | [],[]=>True
 |(p,x)::l,(q,v)::m=>(p=q∧∃ s,x=.agg (Ac v s).toArray∧VerAt B w v s)∧KVs B w l m
 | _,_=>False
theorem KVs.imp {B B':Nat} {w w':World} (f:∀ v s,VerAt B w v s→VerAt B' w' v s):∀ {l:List ((Int × Int) × Value)} {m:List ((Int × Int) × CH.Version)},KVs B w l m→KVs B' w' l m
 | [],[],_=>trivial
 |(p,x)::l,(q,v)::m,h=>by
  obtain⟨⟨h1,s,h2,h3⟩,h4⟩:=h
  exact⟨⟨h1,s,h2,f v s h3⟩,KVs.imp f h4⟩
 | [],_::_,h=>h.elim
 | _::_,[],h=>h.elim
theorem KVs.snoc {B:Nat} {w:World} {p:Int × Int} {v:CH.Version} {s:VerV} (hv:VerAt B w v s):∀ {l:List ((Int × Int) × Value)} {m:List ((Int × Int) × CH.Version)},KVs B w l m→KVs B w (l++[(p,.agg (Ac v s).toArray)]) (m++[(p,v)])
 | [],[],_=>⟨⟨rfl,s,rfl,hv⟩,trivial⟩
 |(p,x)::l,(q,v)::m,h=>⟨h.1,KVs.snoc hv h.2⟩
 | [],_::_,h=>h.elim
 | _::_,[],h=>h.elim
theorem KVs.none {B:Nat} {w:World} {p:Int × Int}:∀ {l:List ((Int × Int) × Value)} {m:List ((Int × Int) × CH.Version)} (i:Nat),KVs B w l m→CH.lookK p m=none→Ax p l i=none
 | [],[],_,_,_=>rfl
 |(a,x)::l,(q,v)::m,i,h,hn=>by
  obtain⟨⟨rfl,_⟩,h4⟩:=h
  rw [CH.lookK] at hn
  rw [Ax]
  split at hn
  ·cases hn
  ·rename_i e
   rw [if_neg e]
   exact KVs.none (i+1) h4 hn
 | [],_::_,_,h,_=>h.elim
 | _::_,[],_,h,_=>h.elim
theorem KVs.some {B:Nat} {w:World} {p:Int × Int} {v:CH.Version}:∀ {l:List ((Int × Int) × Value)} {m:List ((Int × Int) × CH.Version)} (i:Nat),KVs B w l m→CH.lookK p m=some v→∃ j s,Ax p l i=some (j,.agg (Ac v s).toArray)∧VerAt B w v s
 | [],[],_,_,hn=>by cases hn
 |(a,x)::l,(q,u)::m,i,h,hn=>by
  obtain⟨⟨rfl,s,rfl,hs⟩,h4⟩:=h
  rw [CH.lookK] at hn
  rw [Ax]
  split at hn
  ·rename_i e
   cases hn
   rw [if_pos e]
   exact⟨i,s,rfl,hs⟩
  ·rename_i e
   rw [if_neg e]
   exact KVs.some (i+1) h4 hn
 | [],_::_,_,h,_=>h.elim
 | _::_,[],_,h,_=>h.elim
def SlV (s:VerV):Prop:=∃ a1 n1 c1 a2 n2 c2 a3 n3 c3,s=⟨.slice a1 n1 c1,.slice a2 n2 c2,.slice a3 n3 c3⟩
theorem VerAt.sl {B:Nat} {w:World} {v:CH.Version} {s:VerV} (h:VerAt B w v s):SlV s:=by
 obtain⟨va,v1,v2⟩:=s
 obtain⟨_,_,e1,_,_⟩:=h.acts.form
 obtain⟨_,_,e2,_,_⟩:=h.sig.form
 obtain⟨_,_,e3,_,_⟩:=h.path.form
 change va=_ at e1
 change v1=_ at e2
 change v2=_ at e3
 subst e1 e2 e3
 exact⟨_,_,_,_,_,_,_,_,_,rfl⟩
def PairAt (B:Nat) (w:World) (x:Value) (f:CH.Version × CH.Version):Prop:=∃ s s',x=.agg (Ac f.1 s++Ac f.2 s').toArray∧VerAt B w f.1 s∧VerAt B w f.2 s'
def FKVs (B:Nat) (w:World):List ((Int × Int) × Value)→CH.Forks→Prop
 | [],[]=>True
 |(p,x)::l,(q,f)::m=>(p=q∧PairAt B w x f)∧FKVs B w l m
 | _,_=>False
theorem FKVs.imp {B B':Nat} {w w':World} (f:∀ v s,VerAt B w v s→VerAt B' w' v s):∀ {l:List ((Int × Int) × Value)} {m:CH.Forks},FKVs B w l m→FKVs B' w' l m
 | [],[],_=>trivial
 |(p,x)::l,(q,v)::m,h=>by
  obtain⟨⟨h1,s,s',h2,h3,h3'⟩,h4⟩:=h
  exact⟨⟨h1,s,s',h2,f _ _ h3,f _ _ h3'⟩,FKVs.imp f h4⟩
 | [],_::_,h=>h.elim
 | _::_,[],h=>h.elim
theorem FKVs.snoc {B:Nat} {w:World} {p:Int × Int} {x:Value} {f:CH.Version × CH.Version} (hv:PairAt B w x f):∀ {l:List ((Int × Int) × Value)} {m:CH.Forks},FKVs B w l m→FKVs B w (l++[(p,x)]) (m++[(p,f)])
 | [],[],_=>⟨⟨rfl,hv⟩,trivial⟩
 |(_,_)::l,(_,_)::m,h=>⟨h.1,FKVs.snoc hv h.2⟩
 | [],_::_,h=>h.elim
 | _::_,[],h=>h.elim
theorem FKVs.none {B:Nat} {w:World} {p:Int × Int}:∀ {l:List ((Int × Int) × Value)} {m:CH.Forks} (i:Nat),FKVs B w l m→CH.lookK p m=none→Ax p l i=none
 | [],[],_,_,_=>rfl
 |(a,x)::l,(q,v)::m,i,h,hn=>by
  obtain⟨⟨rfl,_⟩,h4⟩:=h
  rw [CH.lookK] at hn
  rw [Ax]
  split at hn
  ·cases hn
  ·rename_i e
   rw [if_neg e]
   exact FKVs.none (i+1) h4 hn
 | [],_::_,_,h,_=>h.elim
 | _::_,[],_,h,_=>h.elim
theorem FKVs.some {B:Nat} {w:World} {p:Int × Int} {f:CH.Version × CH.Version}:∀ {l:List ((Int × Int) × Value)} {m:CH.Forks} (i:Nat),FKVs B w l m→CH.lookK p m=some f→∃ j x,Ax p l i=some (j,x)∧PairAt B w x f
 | [],[],_,_,hn=>by cases hn
 |(a,x)::l,(q,u)::m,i,h,hn=>by
  obtain⟨⟨rfl,hx⟩,h4⟩:=h
  rw [CH.lookK] at hn
  rw [Ax]
  split at hn
  ·rename_i e
   cases hn
   rw [if_pos e]
   exact⟨i,x,rfl,hx⟩
  ·rename_i e
   rw [if_neg e]
   exact FKVs.some (i+1) h4 hn
 | [],_::_,_,h,_=>h.elim
 | _::_,[],_,h,_=>h.elim
structure ChainAt (w:World) (c r1 r2:Nat) (keys:List (List UInt8)) (known:List ((Int × Int) × CH.Version)) (forks:CH.Forks):Prop where
 ex:∃ vk,w.heap[c]?=some (.cells #[vk,.map (some r1),.map (some r2)] 87 (0,0))∧Strs w.heap.size w vk keys
 known:∃ kvs,A6 Al r1 w kvs∧KVs w.heap.size w kvs known
 forks:∃ kvs,A6 Al r2 w kvs∧FKVs w.heap.size w kvs forks
 ne:r1≠r2
theorem ChainAt.below {w w':World} {c r1 r2:Nat} {keys:List (List UInt8)} {known:List ((Int × Int) × CH.Version)} {forks:CH.Forks} (h:ChainAt w c r1 r2 keys known forks) (hb:Below w.heap.size w w'):ChainAt w' c r1 r2 keys known forks:=by
 obtain⟨vk,h1,h2⟩:=h.ex
 obtain⟨k1,h3,h4⟩:=h.known
 obtain⟨k2,h5,h6⟩:=h.forks
 exact⟨⟨vk,(hb.block c (aZ h1)).trans h1,(h2.below hb nR).mono hb.size⟩,⟨k1,h3.below hb,h4.imp fun _ _ h=>h.grow hb⟩,⟨k2,h5.below hb,h6.imp fun _ _ h=>h.grow hb⟩,h.ne⟩
theorem verZero (w:World):(zeroValue 29).run prog w=.ok (.agg #[.int .i64 0,.int .i64 0,.int .i64 0,.string ⟨#[]⟩,.slice none 0 0,.int .i64 0,.slice none 0 0,.slice none 0 0]) w:=by kernel_rfl
theorem putOld_any (c o r:Nat) (p:Int × Int) (v old:CH.Version) (s so:VerV) (kvs:List ((Int × Int) × Value)) (j:Nat) (w:World) (hc:w.cell? ⟨c,o,none⟩=some (.map (some r))) (hm:A6 Al r w kvs) (hf:Ax p kvs 0=some (j,.agg (Ac old so).toArray)) (ho:VerAt w.heap.size w old so) (hv:VerAt w.heap.size w v s) :
  Calls prog 32 #[.pointer (some ⟨c,o,none⟩),Al p,.agg (Ac v s).toArray] w (Ret w (.tuple #[.agg (Ac old so).toArray,.bool false])):=by
 have L:=fun (W:World) (hb:Below w.heap.size w W)=>Dw underlying80 _ verZero (hm.below hb) p
 simp only [hf,Option.map_some,Option.getD_some,Option.isSome_some] at L
 obtain⟨p1,p2⟩:=p
 obtain⟨va,v1,v2⟩:=s
 obtain⟨ua,u1,u2⟩:=so
 obtain⟨x1,y1,e1,_,_⟩:=ho.acts.form
 obtain⟨x2,y2,e2,_,_⟩:=ho.sig.form
 obtain⟨x3,y3,e3,_,_⟩:=ho.path.form
 change ua=_ at e1
 change u1=_ at e2
 change u2=_ at e3
 subst e1 e2 e3
 clear ho hv
 generalize old.acts.length=n0 at *
 generalize old.sel.sig.length=n1 at *
 generalize old.sel.path.length=n2 at *
 dsimp only [Ac,Al] at *
 have hclt:=World.block_lt_of_cell? w _ hc
 go_enter func32,ntmps32
 go_wp2_with fail
 rename_i K hK
 have hB0:Below w.heap.size w (((w.alloc (.cells #[.int .i64 p1,.int .i64 p2] 89)).alloc (.cells #[.int .i64 v.authority,.int .i64 v.number,.int .i64 v.pos,.string ⟨v.prev.toArray⟩,va,.int .i64 v.sel.index,v1,v2] 29)).alloc (.cells #[.int .i64 0,.int .i64 0,.int .i64 0,.string ⟨#[]⟩,.slice none 0 0,.int .i64 0,.slice none 0 0,.slice none 0 0] 29)):=(((Below.refl _ w).alloc nR _).alloc (by simp) _).alloc (by simp;omega) _
 have hblk:(((w.alloc (.cells #[.int .i64 p1,.int .i64 p2] 89)).alloc (.cells #[.int .i64 v.authority,.int .i64 v.number,.int .i64 v.pos,.string ⟨v.prev.toArray⟩,va,.int .i64 v.sel.index,v1,v2] 29)).alloc (.cells #[.int .i64 0,.int .i64 0,.int .i64 0,.string ⟨#[]⟩,.slice none 0 0,.int .i64 0,.slice none 0 0,.slice none 0 0] 29)).heap[w.heap.size]?=some (.cells #[.int .i64 p1,.int .i64 p2] 89 (0,0)):=by
  simp only [World.alloc,Array.getElem?_push,Array.size_push]
  rw [if_neg (by omega),if_neg (by omega),if_pos trivial]
 have hblk2:(((w.alloc (.cells #[.int .i64 p1,.int .i64 p2] 89)).alloc (.cells #[.int .i64 v.authority,.int .i64 v.number,.int .i64 v.pos,.string ⟨v.prev.toArray⟩,va,.int .i64 v.sel.index,v1,v2] 29)).alloc (.cells #[.int .i64 0,.int .i64 0,.int .i64 0,.string ⟨#[]⟩,.slice none 0 0,.int .i64 0,.slice none 0 0,.slice none 0 0] 29)).heap[w.heap.size+1+1]?=some (.cells #[.int .i64 0,.int .i64 0,.int .i64 0,.string ⟨#[]⟩,.slice none 0 0,.int .i64 0,.slice none 0 0,.slice none 0 0] 29 (0,0)):=by
  simp only [World.alloc,Array.getElem?_push,Array.size_push]
  rw [if_pos trivial]
 have hsz:(((w.alloc (.cells #[.int .i64 p1,.int .i64 p2] 89)).alloc (.cells #[.int .i64 v.authority,.int .i64 v.number,.int .i64 v.pos,.string ⟨v.prev.toArray⟩,va,.int .i64 v.sel.index,v1,v2] 29)).alloc (.cells #[.int .i64 0,.int .i64 0,.int .i64 0,.string ⟨#[]⟩,.slice none 0 0,.int .i64 0,.slice none 0 0,.slice none 0 0] 29)).heap.size=w.heap.size+3:=by simp
 generalize ((w.alloc (.cells #[.int .i64 p1,.int .i64 p2] 89)).alloc (.cells #[.int .i64 v.authority,.int .i64 v.number,.int .i64 v.pos,.string ⟨v.prev.toArray⟩,va,.int .i64 v.sel.index,v1,v2] 29)).alloc (.cells #[.int .i64 0,.int .i64 0,.int .i64 0,.string ⟨#[]⟩,.slice none 0 0,.int .i64 0,.slice none 0 0,.slice none 0 0] 29)=W0 at *
 have SS:∀ W',Below W0.heap.size W0 W'→W'.cell? ⟨c,o,none⟩=some (.map (some r))∧W'.cell? ⟨w.heap.size,0,none⟩=some (.int .i64 p1)∧W'.cell? ⟨w.heap.size,1,none⟩=some (.int .i64 p2)∧(Instr.lookup 80 (.map (some r)) (.agg #[.int .i64 p1,.int .i64 p2]) true).run prog W'=_:=fun W' hb =>
  ⟨((hB0.trans (hb.mono hB0.size)).cell (p:=⟨c,o,none⟩) hclt).trans hc,(hb.cell (p:=⟨w.heap.size,0,none⟩) (by show w.heap.size<_;omega)).trans (cell_of hblk 0),(hb.cell (p:=⟨w.heap.size,1,none⟩) (by show w.heap.size<_;omega)).trans (cell_of hblk 1),L W' (hB0.trans (hb.mono hB0.size))⟩
 have hBd:Below W0.heap.size W0 W0.drew:=(Below.refl _ W0).drew
 clear L
 go_region_held3 (fun W'=>W'.cell? ⟨c,o,none⟩=some (.map (some r))∧W'.cell? ⟨w.heap.size,0,none⟩=some (.int .i64 p1)∧W'.cell? ⟨w.heap.size,1,none⟩=some (.int .i64 p2)∧(Instr.lookup 80 (.map (some r)) (.agg #[.int .i64 p1,.int .i64 p2]) true).run prog W'=.ok (.tuple #[.agg #[.int .i64 old.authority,.int .i64 old.number,.int .i64 old.pos,.string ⟨old.prev.toArray⟩,.slice x1 n0 y1,.int .i64 old.sel.index,.slice x2 n1 y2,.slice x3 n2 y3],.bool true]) W') ((refine SS _ ?_;repeat (first|exact hBd|exact Below.refl _ _|refine Below.drew ?_|refine Below.alloc ?_ (by simp <;> omega) _|refine Below.setCell ?_ (by simp <;> omega) _))) (first|fail)
 all_goals
  have hBX:Below W0.heap.size W0 (W0.alloc (.cells #[.int .i64 old.authority,.int .i64 old.number,.int .i64 old.pos,.string ⟨old.prev.toArray⟩,.slice x1 n0 y1,.int .i64 old.sel.index,.slice x2 n1 y2,.slice x3 n2 y3] 29)).drew:=((Below.refl _ W0).alloc nR _).drew
  have hrX:(W0.alloc (.cells #[.int .i64 old.authority,.int .i64 old.number,.int .i64 old.pos,.string ⟨old.prev.toArray⟩,.slice x1 n0 y1,.int .i64 old.sel.index,.slice x2 n1 y2,.slice x3 n2 y3] 29)).drew.rangeAt (w.heap.size+3) 0 [.int .i64 old.authority,.int .i64 old.number,.int .i64 old.pos,.string ⟨old.prev.toArray⟩,.slice x1 n0 y1,.int .i64 old.sel.index,.slice x2 n1 y2,.slice x3 n2 y3]:=by
   rw [← hsz]
   exact fun j u hj=>Bl W0 [.int .i64 old.authority,.int .i64 old.number,.int .i64 old.pos,.string ⟨old.prev.toArray⟩,.slice x1 n0 y1,.int .i64 old.sel.index,.slice x2 n1 y2,.slice x3 n2 y3] 29 j u hj
  have hth:(W0.alloc (.cells #[.int .i64 old.authority,.int .i64 old.number,.int .i64 old.pos,.string ⟨old.prev.toArray⟩,.slice x1 n0 y1,.int .i64 old.sel.index,.slice x2 n1 y2,.slice x3 n2 y3] 29)).drew.there (w.heap.size+1+1) 0 8:=fun j hj=>by
   have h2:=(hBX.block (w.heap.size+1+1) (by omega)).trans hblk2
   refine⟨?_,Aj h2 _⟩
   rw [Nat.zero_add,cell_of h2 j]
   rcases (by omega:j=0∨j=1∨j=2∨j=3∨j=4∨j=5∨j=6∨j=7) with rfl|rfl|rfl|rfl|rfl|rfl|rfl|rfl <;> rfl
  have hi8:(prog.info? 29).map (·.size)=some 8:=by kernel_rfl
  have hall:(#[.int .i64 old.authority,.int .i64 old.number,.int .i64 old.pos,.string ⟨old.prev.toArray⟩,.slice x1 n0 y1,.int .i64 old.sel.index,.slice x2 n1 y2,.slice x3 n2 y3]:Array Value).all (·.oneCell')=true:=all_oneCell_toArray (cs:=[.int .i64 old.authority,.int .i64 old.number,.int .i64 old.pos,.string ⟨old.prev.toArray⟩,.slice x1 n0 y1,.int .i64 old.sel.index,.slice x2 n1 y2,.slice x3 n2 y3]) (by
   intro u hu
   simp only [List.mem_cons,List.not_mem_nil,or_false] at hu
   rcases hu with rfl|rfl|rfl|rfl|rfl|rfl|rfl|rfl <;> rfl)
  have hBw:=hB0.trans (hBX.mono hB0.size)
  clear SS hBd hBX hblk hblk2
  generalize (W0.alloc (.cells #[.int .i64 old.authority,.int .i64 old.number,.int .i64 old.pos,.string ⟨old.prev.toArray⟩,.slice x1 n0 y1,.int .i64 old.sel.index,.slice x2 n1 y2,.slice x3 n2 y3] 29)).drew=X at *
  have hrF:=hid (World.rangeAt_setCells_same X (w.heap.size+1+1) 0 [.int .i64 old.authority,.int .i64 old.number,.int .i64 old.pos,.string ⟨old.prev.toArray⟩,.slice x1 n0 y1,.int .i64 old.sel.index,.slice x2 n1 y2,.slice x3 n2 y3] hth)
  have hBF:=hid (Au (b:=w.heap.size+1+1) hBw (by omega) [.int .i64 old.authority,.int .i64 old.number,.int .i64 old.pos,.string ⟨old.prev.toArray⟩,.slice x1 n0 y1,.int .i64 old.sel.index,.slice x2 n1 y2,.slice x3 n2 y3] 0)
  replace hrX:=hid hrX
  replace hth:=hid hth
  replace hall:=hid hall
  simp only [Exit.then]
  refine hK _ _ ?_
  clear hK
  go_wp2_with (refine wpList_load_mid rfl 29 _ rfl (w.heap.size+3) 0 rfl [.int .i64 old.authority,.int .i64 old.number,.int .i64 old.pos,.string ⟨old.prev.toArray⟩,.slice x1 n0 y1,.int .i64 old.sel.index,.slice x2 n1 y2,.slice x3 n2 y3] _ hrX.out underlying29 rfl hi8 ?_;refine wpList_store_mid rfl 29 _ _ rfl (w.heap.size+1+1) 0 #[.int .i64 old.authority,.int .i64 old.number,.int .i64 old.pos,.string ⟨old.prev.toArray⟩,.slice x1 n0 y1,.int .i64 old.sel.index,.slice x2 n1 y2,.slice x3 n2 y3] rfl rfl hth.out hi8 hall.out ?_)
  refine bodyPost_ret (Bo rfl _ _ ⟨w.heap.size+1+1,0,none⟩ _ rfl (run_loadVar_mid _ (w.heap.size+1+1) 0 29 [.int .i64 old.authority,.int .i64 old.number,.int .i64 old.pos,.string ⟨old.prev.toArray⟩,.slice x1 n0 y1,.int .i64 old.sel.index,.slice x2 n1 y2,.slice x3 n2 y3] _ hrF.out underlying29 rfl hi8)) rfl ?_
  exact⟨rfl,hBF.out⟩
theorem pairZero (w:World):(zeroValue 92).run prog w=.ok (.agg #[.int .i64 0,.int .i64 0,.int .i64 0,.string ⟨#[]⟩,.slice none 0 0,.int .i64 0,.slice none 0 0,.slice none 0 0,.int .i64 0,.int .i64 0,.int .i64 0,.string ⟨#[]⟩,.slice none 0 0,.int .i64 0,.slice none 0 0,.slice none 0 0]) w:=by kernel_rfl
theorem putOldF_any (c o r:Nat) (p:Int × Int) (v vv old oldd:CH.Version) (va v1 v2 vb v3 v4:Value) (x1 x2 x3 x4 x5 x6:Option Addr) (n0 n1 n2 n3 n4 n5 y1 y2 y3 y4 y5 y6:Nat) (kvs:List ((Int × Int) × Value)) (j:Nat) (w:World) (hc:w.cell? ⟨c,o,none⟩=some (.map (some r))) (hm:A6 Al r w kvs)
  (hf:Ax p kvs 0=some (j,.agg #[.int .i64 old.authority,.int .i64 old.number,.int .i64 old.pos,.string ⟨old.prev.toArray⟩,.slice x1 n0 y1,.int .i64 old.sel.index,.slice x2 n1 y2,.slice x3 n2 y3,.int .i64 oldd.authority,.int .i64 oldd.number,.int .i64 oldd.pos,.string ⟨oldd.prev.toArray⟩,.slice x4 n3 y4,.int .i64 oldd.sel.index,.slice x5 n4 y5,.slice x6 n5 y6])) :
  Calls prog 33 #[.pointer (some ⟨c,o,none⟩),Al p,.agg #[.int .i64 v.authority,.int .i64 v.number,.int .i64 v.pos,.string ⟨v.prev.toArray⟩,va,.int .i64 v.sel.index,v1,v2,.int .i64 vv.authority,.int .i64 vv.number,.int .i64 vv.pos,.string ⟨vv.prev.toArray⟩,vb,.int .i64 vv.sel.index,v3,v4]] w (Ret w (.tuple #[.agg #[.int .i64 old.authority,.int .i64 old.number,.int .i64 old.pos,.string ⟨old.prev.toArray⟩,.slice x1 n0 y1,.int .i64 old.sel.index,.slice x2 n1 y2,.slice x3 n2 y3,.int .i64 oldd.authority,.int .i64 oldd.number,.int .i64 oldd.pos,.string ⟨oldd.prev.toArray⟩,.slice x4 n3 y4,.int .i64 oldd.sel.index,.slice x5 n4 y5,.slice x6 n5 y6],.bool false])):=by
 have L:=fun (W:World) (hb:Below w.heap.size w W)=>Dw underlying83 _ pairZero (hm.below hb) p
 simp only [hf,Option.map_some,Option.getD_some,Option.isSome_some] at L
 obtain⟨p1,p2⟩:=p
 dsimp only [Al] at *
 have hclt:=World.block_lt_of_cell? w _ hc
 go_enter func33,ntmps33
 go_wp2_with fail
 rename_i K hK
 have hB0:Below w.heap.size w (((w.alloc (.cells #[.int .i64 p1,.int .i64 p2] 89)).alloc (.cells #[.int .i64 v.authority,.int .i64 v.number,.int .i64 v.pos,.string ⟨v.prev.toArray⟩,va,.int .i64 v.sel.index,v1,v2,.int .i64 vv.authority,.int .i64 vv.number,.int .i64 vv.pos,.string ⟨vv.prev.toArray⟩,vb,.int .i64 vv.sel.index,v3,v4] 92)).alloc (.cells #[.int .i64 0,.int .i64 0,.int .i64 0,.string ⟨#[]⟩,.slice none 0 0,.int .i64 0,.slice none 0 0,.slice none 0 0,.int .i64 0,.int .i64 0,.int .i64 0,.string ⟨#[]⟩,.slice none 0 0,.int .i64 0,.slice none 0 0,.slice none 0 0] 92)):=(((Below.refl _ w).alloc nR _).alloc (by simp) _).alloc (by simp;omega) _
 have hblk:(((w.alloc (.cells #[.int .i64 p1,.int .i64 p2] 89)).alloc (.cells #[.int .i64 v.authority,.int .i64 v.number,.int .i64 v.pos,.string ⟨v.prev.toArray⟩,va,.int .i64 v.sel.index,v1,v2,.int .i64 vv.authority,.int .i64 vv.number,.int .i64 vv.pos,.string ⟨vv.prev.toArray⟩,vb,.int .i64 vv.sel.index,v3,v4] 92)).alloc (.cells #[.int .i64 0,.int .i64 0,.int .i64 0,.string ⟨#[]⟩,.slice none 0 0,.int .i64 0,.slice none 0 0,.slice none 0 0,.int .i64 0,.int .i64 0,.int .i64 0,.string ⟨#[]⟩,.slice none 0 0,.int .i64 0,.slice none 0 0,.slice none 0 0] 92)).heap[w.heap.size]?=some (.cells #[.int .i64 p1,.int .i64 p2] 89 (0,0)):=by
  simp only [World.alloc,Array.getElem?_push,Array.size_push]
  rw [if_neg (by omega),if_neg (by omega),if_pos trivial]
 have hblk2:(((w.alloc (.cells #[.int .i64 p1,.int .i64 p2] 89)).alloc (.cells #[.int .i64 v.authority,.int .i64 v.number,.int .i64 v.pos,.string ⟨v.prev.toArray⟩,va,.int .i64 v.sel.index,v1,v2,.int .i64 vv.authority,.int .i64 vv.number,.int .i64 vv.pos,.string ⟨vv.prev.toArray⟩,vb,.int .i64 vv.sel.index,v3,v4] 92)).alloc (.cells #[.int .i64 0,.int .i64 0,.int .i64 0,.string ⟨#[]⟩,.slice none 0 0,.int .i64 0,.slice none 0 0,.slice none 0 0,.int .i64 0,.int .i64 0,.int .i64 0,.string ⟨#[]⟩,.slice none 0 0,.int .i64 0,.slice none 0 0,.slice none 0 0] 92)).heap[w.heap.size+1+1]?=some (.cells #[.int .i64 0,.int .i64 0,.int .i64 0,.string ⟨#[]⟩,.slice none 0 0,.int .i64 0,.slice none 0 0,.slice none 0 0,.int .i64 0,.int .i64 0,.int .i64 0,.string ⟨#[]⟩,.slice none 0 0,.int .i64 0,.slice none 0 0,.slice none 0 0] 92 (0,0)):=by
  simp only [World.alloc,Array.getElem?_push,Array.size_push]
  rw [if_pos trivial]
 have hsz:(((w.alloc (.cells #[.int .i64 p1,.int .i64 p2] 89)).alloc (.cells #[.int .i64 v.authority,.int .i64 v.number,.int .i64 v.pos,.string ⟨v.prev.toArray⟩,va,.int .i64 v.sel.index,v1,v2,.int .i64 vv.authority,.int .i64 vv.number,.int .i64 vv.pos,.string ⟨vv.prev.toArray⟩,vb,.int .i64 vv.sel.index,v3,v4] 92)).alloc (.cells #[.int .i64 0,.int .i64 0,.int .i64 0,.string ⟨#[]⟩,.slice none 0 0,.int .i64 0,.slice none 0 0,.slice none 0 0,.int .i64 0,.int .i64 0,.int .i64 0,.string ⟨#[]⟩,.slice none 0 0,.int .i64 0,.slice none 0 0,.slice none 0 0] 92)).heap.size=w.heap.size+3:=by simp
 generalize ((w.alloc (.cells #[.int .i64 p1,.int .i64 p2] 89)).alloc (.cells #[.int .i64 v.authority,.int .i64 v.number,.int .i64 v.pos,.string ⟨v.prev.toArray⟩,va,.int .i64 v.sel.index,v1,v2,.int .i64 vv.authority,.int .i64 vv.number,.int .i64 vv.pos,.string ⟨vv.prev.toArray⟩,vb,.int .i64 vv.sel.index,v3,v4] 92)).alloc (.cells #[.int .i64 0,.int .i64 0,.int .i64 0,.string ⟨#[]⟩,.slice none 0 0,.int .i64 0,.slice none 0 0,.slice none 0 0,.int .i64 0,.int .i64 0,.int .i64 0,.string ⟨#[]⟩,.slice none 0 0,.int .i64 0,.slice none 0 0,.slice none 0 0] 92)=W0 at *
 have SS:∀ W',Below W0.heap.size W0 W'→W'.cell? ⟨c,o,none⟩=some (.map (some r))∧W'.cell? ⟨w.heap.size,0,none⟩=some (.int .i64 p1)∧W'.cell? ⟨w.heap.size,1,none⟩=some (.int .i64 p2)∧(Instr.lookup 83 (.map (some r)) (.agg #[.int .i64 p1,.int .i64 p2]) true).run prog W'=_:=fun W' hb =>
  ⟨((hB0.trans (hb.mono hB0.size)).cell (p:=⟨c,o,none⟩) hclt).trans hc,(hb.cell (p:=⟨w.heap.size,0,none⟩) (by show w.heap.size<_;omega)).trans (cell_of hblk 0),(hb.cell (p:=⟨w.heap.size,1,none⟩) (by show w.heap.size<_;omega)).trans (cell_of hblk 1),L W' (hB0.trans (hb.mono hB0.size))⟩
 have hBd:Below W0.heap.size W0 W0.drew:=(Below.refl _ W0).drew
 clear L
 go_region_held3 (fun W'=>W'.cell? ⟨c,o,none⟩=some (.map (some r))∧W'.cell? ⟨w.heap.size,0,none⟩=some (.int .i64 p1)∧W'.cell? ⟨w.heap.size,1,none⟩=some (.int .i64 p2)∧(Instr.lookup 83 (.map (some r)) (.agg #[.int .i64 p1,.int .i64 p2]) true).run prog W'=.ok (.tuple #[.agg #[.int .i64 old.authority,.int .i64 old.number,.int .i64 old.pos,.string ⟨old.prev.toArray⟩,.slice x1 n0 y1,.int .i64 old.sel.index,.slice x2 n1 y2,.slice x3 n2 y3,.int .i64 oldd.authority,.int .i64 oldd.number,.int .i64 oldd.pos,.string ⟨oldd.prev.toArray⟩,.slice x4 n3 y4,.int .i64 oldd.sel.index,.slice x5 n4 y5,.slice x6 n5 y6],.bool true]) W') ((refine SS _ ?_;repeat (first|exact hBd|exact Below.refl _ _|refine Below.drew ?_|refine Below.alloc ?_ (by simp <;> omega) _|refine Below.setCell ?_ (by simp <;> omega) _))) (first|fail)
 all_goals
  have hBX:Below W0.heap.size W0 (W0.alloc (.cells #[.int .i64 old.authority,.int .i64 old.number,.int .i64 old.pos,.string ⟨old.prev.toArray⟩,.slice x1 n0 y1,.int .i64 old.sel.index,.slice x2 n1 y2,.slice x3 n2 y3,.int .i64 oldd.authority,.int .i64 oldd.number,.int .i64 oldd.pos,.string ⟨oldd.prev.toArray⟩,.slice x4 n3 y4,.int .i64 oldd.sel.index,.slice x5 n4 y5,.slice x6 n5 y6] 92)).drew:=((Below.refl _ W0).alloc nR _).drew
  have hrX:(W0.alloc (.cells #[.int .i64 old.authority,.int .i64 old.number,.int .i64 old.pos,.string ⟨old.prev.toArray⟩,.slice x1 n0 y1,.int .i64 old.sel.index,.slice x2 n1 y2,.slice x3 n2 y3,.int .i64 oldd.authority,.int .i64 oldd.number,.int .i64 oldd.pos,.string ⟨oldd.prev.toArray⟩,.slice x4 n3 y4,.int .i64 oldd.sel.index,.slice x5 n4 y5,.slice x6 n5 y6] 92)).drew.rangeAt (w.heap.size+3) 0 [.int .i64 old.authority,.int .i64 old.number,.int .i64 old.pos,.string ⟨old.prev.toArray⟩,.slice x1 n0 y1,.int .i64 old.sel.index,.slice x2 n1 y2,.slice x3 n2 y3,.int .i64 oldd.authority,.int .i64 oldd.number,.int .i64 oldd.pos,.string ⟨oldd.prev.toArray⟩,.slice x4 n3 y4,.int .i64 oldd.sel.index,.slice x5 n4 y5,.slice x6 n5 y6]:=by
   rw [← hsz]
   exact fun j u hj=>Bl W0 [.int .i64 old.authority,.int .i64 old.number,.int .i64 old.pos,.string ⟨old.prev.toArray⟩,.slice x1 n0 y1,.int .i64 old.sel.index,.slice x2 n1 y2,.slice x3 n2 y3,.int .i64 oldd.authority,.int .i64 oldd.number,.int .i64 oldd.pos,.string ⟨oldd.prev.toArray⟩,.slice x4 n3 y4,.int .i64 oldd.sel.index,.slice x5 n4 y5,.slice x6 n5 y6] 92 j u hj
  have hth:(W0.alloc (.cells #[.int .i64 old.authority,.int .i64 old.number,.int .i64 old.pos,.string ⟨old.prev.toArray⟩,.slice x1 n0 y1,.int .i64 old.sel.index,.slice x2 n1 y2,.slice x3 n2 y3,.int .i64 oldd.authority,.int .i64 oldd.number,.int .i64 oldd.pos,.string ⟨oldd.prev.toArray⟩,.slice x4 n3 y4,.int .i64 oldd.sel.index,.slice x5 n4 y5,.slice x6 n5 y6] 92)).drew.there (w.heap.size+1+1) 0 16:=fun j hj=>by
   have h2:=(hBX.block (w.heap.size+1+1) (by omega)).trans hblk2
   refine⟨?_,Aj h2 _⟩
   rw [Nat.zero_add,cell_of h2 j]
   rcases (by omega:j=0∨j=1∨j=2∨j=3∨j=4∨j=5∨j=6∨j=7∨j=8∨j=9∨j=10∨j=11∨j=12∨j=13∨j=14∨j=15) with rfl|rfl|rfl|rfl|rfl|rfl|rfl|rfl|rfl|rfl|rfl|rfl|rfl|rfl|rfl|rfl <;> rfl
  have hi8:(prog.info? 92).map (·.size)=some 16:=by kernel_rfl
  have hall:(#[.int .i64 old.authority,.int .i64 old.number,.int .i64 old.pos,.string ⟨old.prev.toArray⟩,.slice x1 n0 y1,.int .i64 old.sel.index,.slice x2 n1 y2,.slice x3 n2 y3,.int .i64 oldd.authority,.int .i64 oldd.number,.int .i64 oldd.pos,.string ⟨oldd.prev.toArray⟩,.slice x4 n3 y4,.int .i64 oldd.sel.index,.slice x5 n4 y5,.slice x6 n5 y6]:Array Value).all (·.oneCell')=true:=all_oneCell_toArray (cs:=[.int .i64 old.authority,.int .i64 old.number,.int .i64 old.pos,.string ⟨old.prev.toArray⟩,.slice x1 n0 y1,.int .i64 old.sel.index,.slice x2 n1 y2,.slice x3 n2 y3,.int .i64 oldd.authority,.int .i64 oldd.number,.int .i64 oldd.pos,.string ⟨oldd.prev.toArray⟩,.slice x4 n3 y4,.int .i64 oldd.sel.index,.slice x5 n4 y5,.slice x6 n5 y6]) (by
   intro u hu
   simp only [List.mem_cons,List.not_mem_nil,or_false] at hu
   rcases hu with rfl|rfl|rfl|rfl|rfl|rfl|rfl|rfl|rfl|rfl|rfl|rfl|rfl|rfl|rfl|rfl <;> rfl)
  have hBw:=hB0.trans (hBX.mono hB0.size)
  clear SS hBd hBX hblk hblk2
  generalize (W0.alloc (.cells #[.int .i64 old.authority,.int .i64 old.number,.int .i64 old.pos,.string ⟨old.prev.toArray⟩,.slice x1 n0 y1,.int .i64 old.sel.index,.slice x2 n1 y2,.slice x3 n2 y3,.int .i64 oldd.authority,.int .i64 oldd.number,.int .i64 oldd.pos,.string ⟨oldd.prev.toArray⟩,.slice x4 n3 y4,.int .i64 oldd.sel.index,.slice x5 n4 y5,.slice x6 n5 y6] 92)).drew=X at *
  have hrF:=hid (World.rangeAt_setCells_same X (w.heap.size+1+1) 0 [.int .i64 old.authority,.int .i64 old.number,.int .i64 old.pos,.string ⟨old.prev.toArray⟩,.slice x1 n0 y1,.int .i64 old.sel.index,.slice x2 n1 y2,.slice x3 n2 y3,.int .i64 oldd.authority,.int .i64 oldd.number,.int .i64 oldd.pos,.string ⟨oldd.prev.toArray⟩,.slice x4 n3 y4,.int .i64 oldd.sel.index,.slice x5 n4 y5,.slice x6 n5 y6] hth)
  have hBF:=hid (Au (b:=w.heap.size+1+1) hBw (by omega) [.int .i64 old.authority,.int .i64 old.number,.int .i64 old.pos,.string ⟨old.prev.toArray⟩,.slice x1 n0 y1,.int .i64 old.sel.index,.slice x2 n1 y2,.slice x3 n2 y3,.int .i64 oldd.authority,.int .i64 oldd.number,.int .i64 oldd.pos,.string ⟨oldd.prev.toArray⟩,.slice x4 n3 y4,.int .i64 oldd.sel.index,.slice x5 n4 y5,.slice x6 n5 y6] 0)
  replace hrX:=hid hrX
  replace hth:=hid hth
  replace hall:=hid hall
  simp only [Exit.then]
  refine hK _ _ ?_
  clear hK
  go_wp2_with (refine wpList_load_mid rfl 92 _ rfl (w.heap.size+3) 0 rfl [.int .i64 old.authority,.int .i64 old.number,.int .i64 old.pos,.string ⟨old.prev.toArray⟩,.slice x1 n0 y1,.int .i64 old.sel.index,.slice x2 n1 y2,.slice x3 n2 y3,.int .i64 oldd.authority,.int .i64 oldd.number,.int .i64 oldd.pos,.string ⟨oldd.prev.toArray⟩,.slice x4 n3 y4,.int .i64 oldd.sel.index,.slice x5 n4 y5,.slice x6 n5 y6] _ hrX.out underlying92 rfl hi8 ?_;refine wpList_store_mid rfl 92 _ _ rfl (w.heap.size+1+1) 0 #[.int .i64 old.authority,.int .i64 old.number,.int .i64 old.pos,.string ⟨old.prev.toArray⟩,.slice x1 n0 y1,.int .i64 old.sel.index,.slice x2 n1 y2,.slice x3 n2 y3,.int .i64 oldd.authority,.int .i64 oldd.number,.int .i64 oldd.pos,.string ⟨oldd.prev.toArray⟩,.slice x4 n3 y4,.int .i64 oldd.sel.index,.slice x5 n4 y5,.slice x6 n5 y6] rfl rfl hth.out hi8 hall.out ?_)
  refine bodyPost_ret (Bo rfl _ _ ⟨w.heap.size+1+1,0,none⟩ _ rfl (run_loadVar_mid _ (w.heap.size+1+1) 0 92 [.int .i64 old.authority,.int .i64 old.number,.int .i64 old.pos,.string ⟨old.prev.toArray⟩,.slice x1 n0 y1,.int .i64 old.sel.index,.slice x2 n1 y2,.slice x3 n2 y3,.int .i64 oldd.authority,.int .i64 oldd.number,.int .i64 oldd.pos,.string ⟨oldd.prev.toArray⟩,.slice x4 n3 y4,.int .i64 oldd.sel.index,.slice x5 n4 y5,.slice x6 n5 y6] _ hrF.out underlying92 rfl hi8)) rfl ?_
  exact⟨rfl,hBF.out⟩
def PutNew (w:World) (r:Nat) (p:Int × Int) (x:Value) (kvs:List ((Int × Int) × Value)) (e:Ending) (w':World):Prop :=
 e=.returned (.tuple #[x,.bool true])∧Held [r] w w'∧A6 Al r w' (kvs++[(p,x)])
theorem putNew_any (c o r:Nat) (p:Int × Int) (v:CH.Version) (s:VerV) (kvs:List ((Int × Int) × Value)) (w:World) (hc:w.cell? ⟨c,o,none⟩=some (.map (some r))) (hm:A6 Al r w kvs) (hf:Ax p kvs 0=none) (hv:VerAt w.heap.size w v s) :
  Calls prog 32 #[.pointer (some ⟨c,o,none⟩),Al p,.agg (Ac v s).toArray] w (PutNew w r p (.agg (Ac v s).toArray) kvs):=by
 have L:=fun (W:World) (hb:Below w.heap.size w W)=>Dw underlying80 _ verZero (hm.below hb) p
 simp only [hf,Option.map_none,Option.getD_none,Option.isSome_none] at L
 have UP:=fun (W:World) (hb:Below w.heap.size w W)=>place_update underlying80 (hm.below hb) p (.agg (Ac v s).toArray) hf
 obtain⟨p1,p2⟩:=p
 obtain⟨va,v1,v2⟩:=s
 have hoc:∀ u∈([.int .i64 v.authority,.int .i64 v.number,.int .i64 v.pos,.string ⟨v.prev.toArray⟩,va,.int .i64 v.sel.index,v1,v2]:List Value),u.oneCell'=true:=by
  obtain⟨_,_,e1,_,_⟩:=hv.acts.form
  obtain⟨_,_,e2,_,_⟩:=hv.sig.form
  obtain⟨_,_,e3,_,_⟩:=hv.path.form
  change va=_ at e1
  change v1=_ at e2
  change v2=_ at e3
  intro u hu
  simp only [List.mem_cons,List.not_mem_nil,or_false] at hu
  rcases hu with rfl|rfl|rfl|rfl|rfl|rfl|rfl|rfl
  ·rfl
  ·rfl
  ·rfl
  ·rfl
  ·rw [e1];rfl
  ·rfl
  ·rw [e2];rfl
  ·rw [e3];rfl
 replace hoc:=hid hoc
 have hrlt:=hm.lt
 clear hv
 dsimp only [Ac,Al] at *
 have hclt:=World.block_lt_of_cell? w _ hc
 go_enter func32,ntmps32
 go_wp2_with fail
 rename_i K hK
 have hB0:Below w.heap.size w (((w.alloc (.cells #[.int .i64 p1,.int .i64 p2] 89)).alloc (.cells #[.int .i64 v.authority,.int .i64 v.number,.int .i64 v.pos,.string ⟨v.prev.toArray⟩,va,.int .i64 v.sel.index,v1,v2] 29)).alloc (.cells #[.int .i64 0,.int .i64 0,.int .i64 0,.string ⟨#[]⟩,.slice none 0 0,.int .i64 0,.slice none 0 0,.slice none 0 0] 29)):=(((Below.refl _ w).alloc nR _).alloc (by simp) _).alloc (by simp;omega) _
 have hblk:(((w.alloc (.cells #[.int .i64 p1,.int .i64 p2] 89)).alloc (.cells #[.int .i64 v.authority,.int .i64 v.number,.int .i64 v.pos,.string ⟨v.prev.toArray⟩,va,.int .i64 v.sel.index,v1,v2] 29)).alloc (.cells #[.int .i64 0,.int .i64 0,.int .i64 0,.string ⟨#[]⟩,.slice none 0 0,.int .i64 0,.slice none 0 0,.slice none 0 0] 29)).heap[w.heap.size]?=some (.cells #[.int .i64 p1,.int .i64 p2] 89 (0,0)):=by
  simp only [World.alloc,Array.getElem?_push,Array.size_push]
  rw [if_neg (by omega),if_neg (by omega),if_pos trivial]
 have hblk1:(((w.alloc (.cells #[.int .i64 p1,.int .i64 p2] 89)).alloc (.cells #[.int .i64 v.authority,.int .i64 v.number,.int .i64 v.pos,.string ⟨v.prev.toArray⟩,va,.int .i64 v.sel.index,v1,v2] 29)).alloc (.cells #[.int .i64 0,.int .i64 0,.int .i64 0,.string ⟨#[]⟩,.slice none 0 0,.int .i64 0,.slice none 0 0,.slice none 0 0] 29)).heap[w.heap.size+1]?=some (.cells #[.int .i64 v.authority,.int .i64 v.number,.int .i64 v.pos,.string ⟨v.prev.toArray⟩,va,.int .i64 v.sel.index,v1,v2] 29 (0,0)):=by
  simp only [World.alloc,Array.getElem?_push,Array.size_push]
  rw [if_neg (by omega),if_pos trivial]
 have hblk2:(((w.alloc (.cells #[.int .i64 p1,.int .i64 p2] 89)).alloc (.cells #[.int .i64 v.authority,.int .i64 v.number,.int .i64 v.pos,.string ⟨v.prev.toArray⟩,va,.int .i64 v.sel.index,v1,v2] 29)).alloc (.cells #[.int .i64 0,.int .i64 0,.int .i64 0,.string ⟨#[]⟩,.slice none 0 0,.int .i64 0,.slice none 0 0,.slice none 0 0] 29)).heap[w.heap.size+1+1]?=some (.cells #[.int .i64 0,.int .i64 0,.int .i64 0,.string ⟨#[]⟩,.slice none 0 0,.int .i64 0,.slice none 0 0,.slice none 0 0] 29 (0,0)):=by
  simp only [World.alloc,Array.getElem?_push,Array.size_push]
  rw [if_pos trivial]
 have hsz:(((w.alloc (.cells #[.int .i64 p1,.int .i64 p2] 89)).alloc (.cells #[.int .i64 v.authority,.int .i64 v.number,.int .i64 v.pos,.string ⟨v.prev.toArray⟩,va,.int .i64 v.sel.index,v1,v2] 29)).alloc (.cells #[.int .i64 0,.int .i64 0,.int .i64 0,.string ⟨#[]⟩,.slice none 0 0,.int .i64 0,.slice none 0 0,.slice none 0 0] 29)).heap.size=w.heap.size+3:=by simp
 generalize ((w.alloc (.cells #[.int .i64 p1,.int .i64 p2] 89)).alloc (.cells #[.int .i64 v.authority,.int .i64 v.number,.int .i64 v.pos,.string ⟨v.prev.toArray⟩,va,.int .i64 v.sel.index,v1,v2] 29)).alloc (.cells #[.int .i64 0,.int .i64 0,.int .i64 0,.string ⟨#[]⟩,.slice none 0 0,.int .i64 0,.slice none 0 0,.slice none 0 0] 29)=W0 at *
 have SS:∀ W',Below W0.heap.size W0 W'→W'.cell? ⟨c,o,none⟩=some (.map (some r))∧W'.cell? ⟨w.heap.size,0,none⟩=some (.int .i64 p1)∧W'.cell? ⟨w.heap.size,1,none⟩=some (.int .i64 p2)∧(Instr.lookup 80 (.map (some r)) (.agg #[.int .i64 p1,.int .i64 p2]) true).run prog W'=_:=fun W' hb =>
  ⟨((hB0.trans (hb.mono hB0.size)).cell (p:=⟨c,o,none⟩) hclt).trans hc,(hb.cell (p:=⟨w.heap.size,0,none⟩) (by show w.heap.size<_;omega)).trans (cell_of hblk 0),(hb.cell (p:=⟨w.heap.size,1,none⟩) (by show w.heap.size<_;omega)).trans (cell_of hblk 1),L W' (hB0.trans (hb.mono hB0.size))⟩
 have hBd:Below W0.heap.size W0 W0.drew:=(Below.refl _ W0).drew
 clear L
 go_region_held3 (fun W'=>W'.cell? ⟨c,o,none⟩=some (.map (some r))∧W'.cell? ⟨w.heap.size,0,none⟩=some (.int .i64 p1)∧W'.cell? ⟨w.heap.size,1,none⟩=some (.int .i64 p2)∧(Instr.lookup 80 (.map (some r)) (.agg #[.int .i64 p1,.int .i64 p2]) true).run prog W'=.ok (.tuple #[.agg #[.int .i64 0,.int .i64 0,.int .i64 0,.string ⟨#[]⟩,.slice none 0 0,.int .i64 0,.slice none 0 0,.slice none 0 0],.bool false]) W') ((refine SS _ ?_;repeat (first|exact hBd|exact Below.refl _ _|refine Below.drew ?_|refine Below.alloc ?_ (by simp <;> omega) _|refine Below.setCell ?_ (by simp <;> omega) _))) (first|fail)
 all_goals
  have hBX:Below W0.heap.size W0 (W0.alloc (.cells #[.int .i64 0,.int .i64 0,.int .i64 0,.string ⟨#[]⟩,.slice none 0 0,.int .i64 0,.slice none 0 0,.slice none 0 0] 29)).drew:=((Below.refl _ W0).alloc nR _).drew
  have hrX:(W0.alloc (.cells #[.int .i64 0,.int .i64 0,.int .i64 0,.string ⟨#[]⟩,.slice none 0 0,.int .i64 0,.slice none 0 0,.slice none 0 0] 29)).drew.rangeAt (w.heap.size+3) 0 [.int .i64 0,.int .i64 0,.int .i64 0,.string ⟨#[]⟩,.slice none 0 0,.int .i64 0,.slice none 0 0,.slice none 0 0]:=by
   rw [← hsz]
   exact fun j u hj=>Bl W0 [.int .i64 0,.int .i64 0,.int .i64 0,.string ⟨#[]⟩,.slice none 0 0,.int .i64 0,.slice none 0 0,.slice none 0 0] 29 j u hj
  have hth:(W0.alloc (.cells #[.int .i64 0,.int .i64 0,.int .i64 0,.string ⟨#[]⟩,.slice none 0 0,.int .i64 0,.slice none 0 0,.slice none 0 0] 29)).drew.there (w.heap.size+1+1) 0 8:=fun j hj=>by
   have h2:=(hBX.block (w.heap.size+1+1) (by omega)).trans hblk2
   refine⟨?_,Aj h2 _⟩
   rw [Nat.zero_add,cell_of h2 j]
   rcases (by omega:j=0∨j=1∨j=2∨j=3∨j=4∨j=5∨j=6∨j=7) with rfl|rfl|rfl|rfl|rfl|rfl|rfl|rfl <;> rfl
  have hi8:(prog.info? 29).map (·.size)=some 8:=by kernel_rfl
  have hall:(#[.int .i64 0,.int .i64 0,.int .i64 0,.string ⟨#[]⟩,.slice none 0 0,.int .i64 0,.slice none 0 0,.slice none 0 0]:Array Value).all (·.oneCell')=true:=all_oneCell_toArray (cs:=[.int .i64 0,.int .i64 0,.int .i64 0,.string ⟨#[]⟩,.slice none 0 0,.int .i64 0,.slice none 0 0,.slice none 0 0]) (by
   intro u hu
   simp only [List.mem_cons,List.not_mem_nil,or_false] at hu
   rcases hu with rfl|rfl|rfl|rfl|rfl|rfl|rfl|rfl <;> rfl)
  have hBw:=hB0.trans (hBX.mono hB0.size)
  obtain⟨s1,s2,s3,_⟩:=SS _ hBX
  have hb1X:=(hBX.block (w.heap.size+1) (by omega)).trans hblk1
  have hb2X:=(hBX.block (w.heap.size+1+1) (by omega)).trans hblk2
  have hUP:=UP _ (hBw.drew)
  have hmX:=hm.below hBw
  clear SS hBd hBX hblk hblk1 hblk2 UP hm
  generalize (W0.alloc (.cells #[.int .i64 0,.int .i64 0,.int .i64 0,.string ⟨#[]⟩,.slice none 0 0,.int .i64 0,.slice none 0 0,.slice none 0 0] 29)).drew=X at *
  have hrF:=hid (World.rangeAt_setCells_same X (w.heap.size+1+1) 0 [.int .i64 0,.int .i64 0,.int .i64 0,.string ⟨#[]⟩,.slice none 0 0,.int .i64 0,.slice none 0 0,.slice none 0 0] hth)
  have hBF:=hid (Au (b:=w.heap.size+1+1) hBw (by omega) [.int .i64 0,.int .i64 0,.int .i64 0,.string ⟨#[]⟩,.slice none 0 0,.int .i64 0,.slice none 0 0,.slice none 0 0] 0)
  replace hrX:=hid hrX
  replace hth:=hid hth
  replace hall:=hid hall
  simp only [Exit.then]
  refine hK _ _ ?_
  clear hK
  go_wp2_with fail
  obtain⟨ob,u1,u2,_⟩:=hUP
  have SX:∀ W',Cells X W'→W'.cell? ⟨c,o,none⟩=some (.map (some r))∧W'.cell? ⟨w.heap.size,0,none⟩=some (.int .i64 p1)∧W'.cell? ⟨w.heap.size,1,none⟩=some (.int .i64 p2)∧W'.cell? ⟨w.heap.size+1,0,none⟩=some (.int .i64 v.authority)∧W'.cell? ⟨w.heap.size+1,1,none⟩=some (.int .i64 v.number)∧W'.cell? ⟨w.heap.size+1,2,none⟩=some (.int .i64 v.pos)∧W'.cell? ⟨w.heap.size+1,3,none⟩=some (.string ⟨v.prev.toArray⟩)∧W'.cell? ⟨w.heap.size+1,4,none⟩=some va∧W'.cell? ⟨w.heap.size+1,5,none⟩=some (.int .i64 v.sel.index)∧W'.cell? ⟨w.heap.size+1,6,none⟩=some v1∧W'.cell? ⟨w.heap.size+1,7,none⟩=some v2:=fun W' hb=>⟨hb _ _ s1,hb _ _ s2,hb _ _ s3,hb _ _ (cell_of hb1X 0),hb _ _ (cell_of hb1X 1),hb _ _ (cell_of hb1X 2),hb _ _ (cell_of hb1X 3),hb _ _ (cell_of hb1X 4),hb _ _ (cell_of hb1X 5),hb _ _ (cell_of hb1X 6),hb _ _ (cell_of hb1X 7)⟩
  have hBd:Below X.heap.size X X.drew:=(Below.refl _ X).drew
  have hHX:Held [r] X (X.drew.putObj r ob):=⟨hBd.os,hBd.tape,hBd.output,by simp [World.putObj],fun k hk hr=>(World.putObj_heap_other (by simpa using hr)).trans (hBd.block k hk)⟩
  have hcp:Cells X (X.drew.putObj r ob):=hHX.cells (fun q hq=>by
   cases List.mem_singleton.1 hq
   obtain⟨es,ck,e,_⟩:=hmX
   exact⟨es,ck,e⟩)
  have hcd:Cells X X.drew:=Cells.of_below hBd
  have hcr:Cells X X:=fun _ _ h=>h
  go_region_held3 (fun W'=>W'.cell? ⟨c,o,none⟩=some (.map (some r))∧W'.cell? ⟨w.heap.size,0,none⟩=some (.int .i64 p1)∧W'.cell? ⟨w.heap.size,1,none⟩=some (.int .i64 p2)∧W'.cell? ⟨w.heap.size+1,0,none⟩=some (.int .i64 v.authority)∧W'.cell? ⟨w.heap.size+1,1,none⟩=some (.int .i64 v.number)∧W'.cell? ⟨w.heap.size+1,2,none⟩=some (.int .i64 v.pos)∧W'.cell? ⟨w.heap.size+1,3,none⟩=some (.string ⟨v.prev.toArray⟩)∧W'.cell? ⟨w.heap.size+1,4,none⟩=some va∧W'.cell? ⟨w.heap.size+1,5,none⟩=some (.int .i64 v.sel.index)∧W'.cell? ⟨w.heap.size+1,6,none⟩=some v1∧W'.cell? ⟨w.heap.size+1,7,none⟩=some v2) ((refine SX _ ?_;first|exact hcp|exact hcd|exact hcr)) (first|fail)
  have hXs:w.heap.size≤X.heap.size:=hBw.size
  have hb1Y:=(hHX.block (w.heap.size+1) (aZ hb1X) (by simp;omega)).trans hb1X
  have hb2Y:=(hHX.block (w.heap.size+1+1) (aZ hb2X) (by simp;omega)).trans hb2X
  clear SX hBd hcp hcd hcr u1 hmX hth hrX hrF hBF hall
  have hrY:(X.drew.putObj r ob).rangeAt (w.heap.size+1) 0 [.int .i64 v.authority,.int .i64 v.number,.int .i64 v.pos,.string ⟨v.prev.toArray⟩,va,.int .i64 v.sel.index,v1,v2]:=fun j u hj=>by
   rw [Nat.zero_add,cell_of hb1Y j]
   simpa using hj
  have hthY:(X.drew.putObj r ob).there (w.heap.size+1+1) 0 8:=fun j hj=>by
   refine⟨?_,Aj hb2Y _⟩
   rw [Nat.zero_add,cell_of hb2Y j]
   rcases (by omega:j=0∨j=1∨j=2∨j=3∨j=4∨j=5∨j=6∨j=7) with rfl|rfl|rfl|rfl|rfl|rfl|rfl|rfl <;> rfl
  generalize X.drew.putObj r ob=Y at *
  have hrF:=hid (World.rangeAt_setCells_same Y (w.heap.size+1+1) 0 [.int .i64 v.authority,.int .i64 v.number,.int .i64 v.pos,.string ⟨v.prev.toArray⟩,va,.int .i64 v.sel.index,v1,v2] hthY)
  have hBF:=hid (Au (b:=w.heap.size+1+1) (Below.refl w.heap.size Y) (by omega) [.int .i64 v.authority,.int .i64 v.number,.int .i64 v.pos,.string ⟨v.prev.toArray⟩,va,.int .i64 v.sel.index,v1,v2] 0)
  have hall:=hid (all_oneCell_toArray hoc.out)
  replace hrY:=hid hrY
  replace hthY:=hid hthY
  go_wp2_with (refine wpList_load_mid rfl 29 _ rfl (w.heap.size+1) 0 rfl [.int .i64 v.authority,.int .i64 v.number,.int .i64 v.pos,.string ⟨v.prev.toArray⟩,va,.int .i64 v.sel.index,v1,v2] _ hrY.out underlying29 rfl hi8 ?_;refine wpList_store_mid rfl 29 _ _ rfl (w.heap.size+1+1) 0 #[.int .i64 v.authority,.int .i64 v.number,.int .i64 v.pos,.string ⟨v.prev.toArray⟩,va,.int .i64 v.sel.index,v1,v2] rfl rfl hthY.out hi8 hall.out ?_)
  refine bodyPost_ret (Bo rfl _ _ ⟨w.heap.size+1+1,0,none⟩ _ rfl (run_loadVar_mid _ (w.heap.size+1+1) 0 29 [.int .i64 v.authority,.int .i64 v.number,.int .i64 v.pos,.string ⟨v.prev.toArray⟩,va,.int .i64 v.sel.index,v1,v2] _ hrF.out underlying29 rfl hi8)) rfl ?_
  refine⟨rfl,⟨hBF.out.os.trans (hHX.os.trans hBw.os),hBF.out.tape.trans (hHX.tape.trans hBw.tape),hBF.out.output.trans (hHX.output.trans hBw.output),nT hBw.size (nT hHX.size hBF.out.size),fun k hk hr=>(hBF.out.block k hk).trans ((hHX.block k (nL hk hXs) hr).trans (hBw.block k hk))⟩,?_⟩
  obtain⟨es,ck,e1,e2⟩:=u2
  exact⟨es,ck,(hBF.out.block r hrlt).trans e1,e2⟩
theorem putNewF_any (c o r:Nat) (p:Int × Int) (v vv:CH.Version) (va v1 v2 vb v3 v4:Value) (kvs:List ((Int × Int) × Value)) (w:World) (hc:w.cell? ⟨c,o,none⟩=some (.map (some r))) (hm:A6 Al r w kvs) (hf:Ax p kvs 0=none)
  (hoc:∀ u∈([.int .i64 v.authority,.int .i64 v.number,.int .i64 v.pos,.string ⟨v.prev.toArray⟩,va,.int .i64 v.sel.index,v1,v2,.int .i64 vv.authority,.int .i64 vv.number,.int .i64 vv.pos,.string ⟨vv.prev.toArray⟩,vb,.int .i64 vv.sel.index,v3,v4]:List Value),u.oneCell'=true) :
  Calls prog 33 #[.pointer (some ⟨c,o,none⟩),Al p,.agg #[.int .i64 v.authority,.int .i64 v.number,.int .i64 v.pos,.string ⟨v.prev.toArray⟩,va,.int .i64 v.sel.index,v1,v2,.int .i64 vv.authority,.int .i64 vv.number,.int .i64 vv.pos,.string ⟨vv.prev.toArray⟩,vb,.int .i64 vv.sel.index,v3,v4]] w (PutNew w r p (.agg #[.int .i64 v.authority,.int .i64 v.number,.int .i64 v.pos,.string ⟨v.prev.toArray⟩,va,.int .i64 v.sel.index,v1,v2,.int .i64 vv.authority,.int .i64 vv.number,.int .i64 vv.pos,.string ⟨vv.prev.toArray⟩,vb,.int .i64 vv.sel.index,v3,v4]) kvs):=by
 have L:=fun (W:World) (hb:Below w.heap.size w W)=>Dw underlying83 _ pairZero (hm.below hb) p
 simp only [hf,Option.map_none,Option.getD_none,Option.isSome_none] at L
 have UP:=fun (W:World) (hb:Below w.heap.size w W)=>place_update underlying83 (hm.below hb) p (.agg #[.int .i64 v.authority,.int .i64 v.number,.int .i64 v.pos,.string ⟨v.prev.toArray⟩,va,.int .i64 v.sel.index,v1,v2,.int .i64 vv.authority,.int .i64 vv.number,.int .i64 vv.pos,.string ⟨vv.prev.toArray⟩,vb,.int .i64 vv.sel.index,v3,v4]) hf
 obtain⟨p1,p2⟩:=p
 replace hoc:=hid hoc
 have hrlt:=hm.lt
 dsimp only [Al] at *
 have hclt:=World.block_lt_of_cell? w _ hc
 go_enter func33,ntmps33
 go_wp2_with fail
 rename_i K hK
 have hB0:Below w.heap.size w (((w.alloc (.cells #[.int .i64 p1,.int .i64 p2] 89)).alloc (.cells #[.int .i64 v.authority,.int .i64 v.number,.int .i64 v.pos,.string ⟨v.prev.toArray⟩,va,.int .i64 v.sel.index,v1,v2,.int .i64 vv.authority,.int .i64 vv.number,.int .i64 vv.pos,.string ⟨vv.prev.toArray⟩,vb,.int .i64 vv.sel.index,v3,v4] 92)).alloc (.cells #[.int .i64 0,.int .i64 0,.int .i64 0,.string ⟨#[]⟩,.slice none 0 0,.int .i64 0,.slice none 0 0,.slice none 0 0,.int .i64 0,.int .i64 0,.int .i64 0,.string ⟨#[]⟩,.slice none 0 0,.int .i64 0,.slice none 0 0,.slice none 0 0] 92)):=(((Below.refl _ w).alloc nR _).alloc (by simp) _).alloc (by simp;omega) _
 have hblk:(((w.alloc (.cells #[.int .i64 p1,.int .i64 p2] 89)).alloc (.cells #[.int .i64 v.authority,.int .i64 v.number,.int .i64 v.pos,.string ⟨v.prev.toArray⟩,va,.int .i64 v.sel.index,v1,v2,.int .i64 vv.authority,.int .i64 vv.number,.int .i64 vv.pos,.string ⟨vv.prev.toArray⟩,vb,.int .i64 vv.sel.index,v3,v4] 92)).alloc (.cells #[.int .i64 0,.int .i64 0,.int .i64 0,.string ⟨#[]⟩,.slice none 0 0,.int .i64 0,.slice none 0 0,.slice none 0 0,.int .i64 0,.int .i64 0,.int .i64 0,.string ⟨#[]⟩,.slice none 0 0,.int .i64 0,.slice none 0 0,.slice none 0 0] 92)).heap[w.heap.size]?=some (.cells #[.int .i64 p1,.int .i64 p2] 89 (0,0)):=by
  simp only [World.alloc,Array.getElem?_push,Array.size_push]
  rw [if_neg (by omega),if_neg (by omega),if_pos trivial]
 have hblk1:(((w.alloc (.cells #[.int .i64 p1,.int .i64 p2] 89)).alloc (.cells #[.int .i64 v.authority,.int .i64 v.number,.int .i64 v.pos,.string ⟨v.prev.toArray⟩,va,.int .i64 v.sel.index,v1,v2,.int .i64 vv.authority,.int .i64 vv.number,.int .i64 vv.pos,.string ⟨vv.prev.toArray⟩,vb,.int .i64 vv.sel.index,v3,v4] 92)).alloc (.cells #[.int .i64 0,.int .i64 0,.int .i64 0,.string ⟨#[]⟩,.slice none 0 0,.int .i64 0,.slice none 0 0,.slice none 0 0,.int .i64 0,.int .i64 0,.int .i64 0,.string ⟨#[]⟩,.slice none 0 0,.int .i64 0,.slice none 0 0,.slice none 0 0] 92)).heap[w.heap.size+1]?=some (.cells #[.int .i64 v.authority,.int .i64 v.number,.int .i64 v.pos,.string ⟨v.prev.toArray⟩,va,.int .i64 v.sel.index,v1,v2,.int .i64 vv.authority,.int .i64 vv.number,.int .i64 vv.pos,.string ⟨vv.prev.toArray⟩,vb,.int .i64 vv.sel.index,v3,v4] 92 (0,0)):=by
  simp only [World.alloc,Array.getElem?_push,Array.size_push]
  rw [if_neg (by omega),if_pos trivial]
 have hblk2:(((w.alloc (.cells #[.int .i64 p1,.int .i64 p2] 89)).alloc (.cells #[.int .i64 v.authority,.int .i64 v.number,.int .i64 v.pos,.string ⟨v.prev.toArray⟩,va,.int .i64 v.sel.index,v1,v2,.int .i64 vv.authority,.int .i64 vv.number,.int .i64 vv.pos,.string ⟨vv.prev.toArray⟩,vb,.int .i64 vv.sel.index,v3,v4] 92)).alloc (.cells #[.int .i64 0,.int .i64 0,.int .i64 0,.string ⟨#[]⟩,.slice none 0 0,.int .i64 0,.slice none 0 0,.slice none 0 0,.int .i64 0,.int .i64 0,.int .i64 0,.string ⟨#[]⟩,.slice none 0 0,.int .i64 0,.slice none 0 0,.slice none 0 0] 92)).heap[w.heap.size+1+1]?=some (.cells #[.int .i64 0,.int .i64 0,.int .i64 0,.string ⟨#[]⟩,.slice none 0 0,.int .i64 0,.slice none 0 0,.slice none 0 0,.int .i64 0,.int .i64 0,.int .i64 0,.string ⟨#[]⟩,.slice none 0 0,.int .i64 0,.slice none 0 0,.slice none 0 0] 92 (0,0)):=by
  simp only [World.alloc,Array.getElem?_push,Array.size_push]
  rw [if_pos trivial]
 have hsz:(((w.alloc (.cells #[.int .i64 p1,.int .i64 p2] 89)).alloc (.cells #[.int .i64 v.authority,.int .i64 v.number,.int .i64 v.pos,.string ⟨v.prev.toArray⟩,va,.int .i64 v.sel.index,v1,v2,.int .i64 vv.authority,.int .i64 vv.number,.int .i64 vv.pos,.string ⟨vv.prev.toArray⟩,vb,.int .i64 vv.sel.index,v3,v4] 92)).alloc (.cells #[.int .i64 0,.int .i64 0,.int .i64 0,.string ⟨#[]⟩,.slice none 0 0,.int .i64 0,.slice none 0 0,.slice none 0 0,.int .i64 0,.int .i64 0,.int .i64 0,.string ⟨#[]⟩,.slice none 0 0,.int .i64 0,.slice none 0 0,.slice none 0 0] 92)).heap.size=w.heap.size+3:=by simp
 generalize ((w.alloc (.cells #[.int .i64 p1,.int .i64 p2] 89)).alloc (.cells #[.int .i64 v.authority,.int .i64 v.number,.int .i64 v.pos,.string ⟨v.prev.toArray⟩,va,.int .i64 v.sel.index,v1,v2,.int .i64 vv.authority,.int .i64 vv.number,.int .i64 vv.pos,.string ⟨vv.prev.toArray⟩,vb,.int .i64 vv.sel.index,v3,v4] 92)).alloc (.cells #[.int .i64 0,.int .i64 0,.int .i64 0,.string ⟨#[]⟩,.slice none 0 0,.int .i64 0,.slice none 0 0,.slice none 0 0,.int .i64 0,.int .i64 0,.int .i64 0,.string ⟨#[]⟩,.slice none 0 0,.int .i64 0,.slice none 0 0,.slice none 0 0] 92)=W0 at *
 have SS:∀ W',Below W0.heap.size W0 W'→W'.cell? ⟨c,o,none⟩=some (.map (some r))∧W'.cell? ⟨w.heap.size,0,none⟩=some (.int .i64 p1)∧W'.cell? ⟨w.heap.size,1,none⟩=some (.int .i64 p2)∧(Instr.lookup 83 (.map (some r)) (.agg #[.int .i64 p1,.int .i64 p2]) true).run prog W'=_:=fun W' hb =>
  ⟨((hB0.trans (hb.mono hB0.size)).cell (p:=⟨c,o,none⟩) hclt).trans hc,(hb.cell (p:=⟨w.heap.size,0,none⟩) (by show w.heap.size<_;omega)).trans (cell_of hblk 0),(hb.cell (p:=⟨w.heap.size,1,none⟩) (by show w.heap.size<_;omega)).trans (cell_of hblk 1),L W' (hB0.trans (hb.mono hB0.size))⟩
 have hBd:Below W0.heap.size W0 W0.drew:=(Below.refl _ W0).drew
 clear L
 go_region_held3 (fun W'=>W'.cell? ⟨c,o,none⟩=some (.map (some r))∧W'.cell? ⟨w.heap.size,0,none⟩=some (.int .i64 p1)∧W'.cell? ⟨w.heap.size,1,none⟩=some (.int .i64 p2)∧(Instr.lookup 83 (.map (some r)) (.agg #[.int .i64 p1,.int .i64 p2]) true).run prog W'=.ok (.tuple #[.agg #[.int .i64 0,.int .i64 0,.int .i64 0,.string ⟨#[]⟩,.slice none 0 0,.int .i64 0,.slice none 0 0,.slice none 0 0,.int .i64 0,.int .i64 0,.int .i64 0,.string ⟨#[]⟩,.slice none 0 0,.int .i64 0,.slice none 0 0,.slice none 0 0],.bool false]) W') ((refine SS _ ?_;repeat (first|exact hBd|exact Below.refl _ _|refine Below.drew ?_|refine Below.alloc ?_ (by simp <;> omega) _|refine Below.setCell ?_ (by simp <;> omega) _))) (first|fail)
 all_goals
  have hBX:Below W0.heap.size W0 (W0.alloc (.cells #[.int .i64 0,.int .i64 0,.int .i64 0,.string ⟨#[]⟩,.slice none 0 0,.int .i64 0,.slice none 0 0,.slice none 0 0,.int .i64 0,.int .i64 0,.int .i64 0,.string ⟨#[]⟩,.slice none 0 0,.int .i64 0,.slice none 0 0,.slice none 0 0] 92)).drew:=((Below.refl _ W0).alloc nR _).drew
  have hrX:(W0.alloc (.cells #[.int .i64 0,.int .i64 0,.int .i64 0,.string ⟨#[]⟩,.slice none 0 0,.int .i64 0,.slice none 0 0,.slice none 0 0,.int .i64 0,.int .i64 0,.int .i64 0,.string ⟨#[]⟩,.slice none 0 0,.int .i64 0,.slice none 0 0,.slice none 0 0] 92)).drew.rangeAt (w.heap.size+3) 0 [.int .i64 0,.int .i64 0,.int .i64 0,.string ⟨#[]⟩,.slice none 0 0,.int .i64 0,.slice none 0 0,.slice none 0 0,.int .i64 0,.int .i64 0,.int .i64 0,.string ⟨#[]⟩,.slice none 0 0,.int .i64 0,.slice none 0 0,.slice none 0 0]:=by
   rw [← hsz]
   exact fun j u hj=>Bl W0 [.int .i64 0,.int .i64 0,.int .i64 0,.string ⟨#[]⟩,.slice none 0 0,.int .i64 0,.slice none 0 0,.slice none 0 0,.int .i64 0,.int .i64 0,.int .i64 0,.string ⟨#[]⟩,.slice none 0 0,.int .i64 0,.slice none 0 0,.slice none 0 0] 92 j u hj
  have hth:(W0.alloc (.cells #[.int .i64 0,.int .i64 0,.int .i64 0,.string ⟨#[]⟩,.slice none 0 0,.int .i64 0,.slice none 0 0,.slice none 0 0,.int .i64 0,.int .i64 0,.int .i64 0,.string ⟨#[]⟩,.slice none 0 0,.int .i64 0,.slice none 0 0,.slice none 0 0] 92)).drew.there (w.heap.size+1+1) 0 16:=fun j hj=>by
   have h2:=(hBX.block (w.heap.size+1+1) (by omega)).trans hblk2
   refine⟨?_,Aj h2 _⟩
   rw [Nat.zero_add,cell_of h2 j]
   rcases (by omega:j=0∨j=1∨j=2∨j=3∨j=4∨j=5∨j=6∨j=7∨j=8∨j=9∨j=10∨j=11∨j=12∨j=13∨j=14∨j=15) with rfl|rfl|rfl|rfl|rfl|rfl|rfl|rfl|rfl|rfl|rfl|rfl|rfl|rfl|rfl|rfl <;> rfl
  have hi8:(prog.info? 92).map (·.size)=some 16:=by kernel_rfl
  have hall:(#[.int .i64 0,.int .i64 0,.int .i64 0,.string ⟨#[]⟩,.slice none 0 0,.int .i64 0,.slice none 0 0,.slice none 0 0,.int .i64 0,.int .i64 0,.int .i64 0,.string ⟨#[]⟩,.slice none 0 0,.int .i64 0,.slice none 0 0,.slice none 0 0]:Array Value).all (·.oneCell')=true:=all_oneCell_toArray (cs:=[.int .i64 0,.int .i64 0,.int .i64 0,.string ⟨#[]⟩,.slice none 0 0,.int .i64 0,.slice none 0 0,.slice none 0 0,.int .i64 0,.int .i64 0,.int .i64 0,.string ⟨#[]⟩,.slice none 0 0,.int .i64 0,.slice none 0 0,.slice none 0 0]) (by
   intro u hu
   simp only [List.mem_cons,List.not_mem_nil,or_false] at hu
   rcases hu with rfl|rfl|rfl|rfl|rfl|rfl|rfl|rfl|rfl|rfl|rfl|rfl|rfl|rfl|rfl|rfl <;> rfl)
  have hBw:=hB0.trans (hBX.mono hB0.size)
  obtain⟨s1,s2,s3,_⟩:=SS _ hBX
  have hb1X:=(hBX.block (w.heap.size+1) (by omega)).trans hblk1
  have hb2X:=(hBX.block (w.heap.size+1+1) (by omega)).trans hblk2
  have hUP:=UP _ (hBw.drew)
  have hmX:=hm.below hBw
  clear SS hBd hBX hblk hblk1 hblk2 UP hm
  generalize (W0.alloc (.cells #[.int .i64 0,.int .i64 0,.int .i64 0,.string ⟨#[]⟩,.slice none 0 0,.int .i64 0,.slice none 0 0,.slice none 0 0,.int .i64 0,.int .i64 0,.int .i64 0,.string ⟨#[]⟩,.slice none 0 0,.int .i64 0,.slice none 0 0,.slice none 0 0] 92)).drew=X at *
  have hrF:=hid (World.rangeAt_setCells_same X (w.heap.size+1+1) 0 [.int .i64 0,.int .i64 0,.int .i64 0,.string ⟨#[]⟩,.slice none 0 0,.int .i64 0,.slice none 0 0,.slice none 0 0,.int .i64 0,.int .i64 0,.int .i64 0,.string ⟨#[]⟩,.slice none 0 0,.int .i64 0,.slice none 0 0,.slice none 0 0] hth)
  have hBF:=hid (Au (b:=w.heap.size+1+1) hBw (by omega) [.int .i64 0,.int .i64 0,.int .i64 0,.string ⟨#[]⟩,.slice none 0 0,.int .i64 0,.slice none 0 0,.slice none 0 0,.int .i64 0,.int .i64 0,.int .i64 0,.string ⟨#[]⟩,.slice none 0 0,.int .i64 0,.slice none 0 0,.slice none 0 0] 0)
  replace hrX:=hid hrX
  replace hth:=hid hth
  replace hall:=hid hall
  simp only [Exit.then]
  refine hK _ _ ?_
  clear hK
  go_wp2_with fail
  obtain⟨ob,u1,u2,_⟩:=hUP
  have SX:∀ W',Cells X W'→W'.cell? ⟨c,o,none⟩=some (.map (some r))∧W'.cell? ⟨w.heap.size,0,none⟩=some (.int .i64 p1)∧W'.cell? ⟨w.heap.size,1,none⟩=some (.int .i64 p2)∧W'.cell? ⟨w.heap.size+1,0,none⟩=some (.int .i64 v.authority)∧W'.cell? ⟨w.heap.size+1,1,none⟩=some (.int .i64 v.number)∧W'.cell? ⟨w.heap.size+1,2,none⟩=some (.int .i64 v.pos)∧W'.cell? ⟨w.heap.size+1,3,none⟩=some (.string ⟨v.prev.toArray⟩)∧W'.cell? ⟨w.heap.size+1,4,none⟩=some va∧W'.cell? ⟨w.heap.size+1,5,none⟩=some (.int .i64 v.sel.index)∧W'.cell? ⟨w.heap.size+1,6,none⟩=some v1∧W'.cell? ⟨w.heap.size+1,7,none⟩=some v2∧W'.cell? ⟨w.heap.size+1,8,none⟩=some (.int .i64 vv.authority)∧W'.cell? ⟨w.heap.size+1,9,none⟩=some (.int .i64 vv.number)∧W'.cell? ⟨w.heap.size+1,10,none⟩=some (.int .i64 vv.pos)∧W'.cell? ⟨w.heap.size+1,11,none⟩=some (.string ⟨vv.prev.toArray⟩)∧W'.cell? ⟨w.heap.size+1,12,none⟩=some vb∧W'.cell? ⟨w.heap.size+1,13,none⟩=some (.int .i64 vv.sel.index)∧W'.cell? ⟨w.heap.size+1,14,none⟩=some v3∧W'.cell? ⟨w.heap.size+1,15,none⟩=some v4:=fun W' hb=>⟨hb _ _ s1,hb _ _ s2,hb _ _ s3,hb _ _ (cell_of hb1X 0),hb _ _ (cell_of hb1X 1),hb _ _ (cell_of hb1X 2),hb _ _ (cell_of hb1X 3),hb _ _ (cell_of hb1X 4),hb _ _ (cell_of hb1X 5),hb _ _ (cell_of hb1X 6),hb _ _ (cell_of hb1X 7),hb _ _ (cell_of hb1X 8),hb _ _ (cell_of hb1X 9),hb _ _ (cell_of hb1X 10),hb _ _ (cell_of hb1X 11),hb _ _ (cell_of hb1X 12),hb _ _ (cell_of hb1X 13),hb _ _ (cell_of hb1X 14),hb _ _ (cell_of hb1X 15)⟩
  have hBd:Below X.heap.size X X.drew:=(Below.refl _ X).drew
  have hHX:Held [r] X (X.drew.putObj r ob):=⟨hBd.os,hBd.tape,hBd.output,by simp [World.putObj],fun k hk hr=>(World.putObj_heap_other (by simpa using hr)).trans (hBd.block k hk)⟩
  have hcp:Cells X (X.drew.putObj r ob):=hHX.cells (fun q hq=>by
   cases List.mem_singleton.1 hq
   obtain⟨es,ck,e,_⟩:=hmX
   exact⟨es,ck,e⟩)
  have hcd:Cells X X.drew:=Cells.of_below hBd
  have hcr:Cells X X:=fun _ _ h=>h
  go_region_held3 (fun W'=>W'.cell? ⟨c,o,none⟩=some (.map (some r))∧W'.cell? ⟨w.heap.size,0,none⟩=some (.int .i64 p1)∧W'.cell? ⟨w.heap.size,1,none⟩=some (.int .i64 p2)∧W'.cell? ⟨w.heap.size+1,0,none⟩=some (.int .i64 v.authority)∧W'.cell? ⟨w.heap.size+1,1,none⟩=some (.int .i64 v.number)∧W'.cell? ⟨w.heap.size+1,2,none⟩=some (.int .i64 v.pos)∧W'.cell? ⟨w.heap.size+1,3,none⟩=some (.string ⟨v.prev.toArray⟩)∧W'.cell? ⟨w.heap.size+1,4,none⟩=some va∧W'.cell? ⟨w.heap.size+1,5,none⟩=some (.int .i64 v.sel.index)∧W'.cell? ⟨w.heap.size+1,6,none⟩=some v1∧W'.cell? ⟨w.heap.size+1,7,none⟩=some v2∧W'.cell? ⟨w.heap.size+1,8,none⟩=some (.int .i64 vv.authority)∧W'.cell? ⟨w.heap.size+1,9,none⟩=some (.int .i64 vv.number)∧W'.cell? ⟨w.heap.size+1,10,none⟩=some (.int .i64 vv.pos)∧W'.cell? ⟨w.heap.size+1,11,none⟩=some (.string ⟨vv.prev.toArray⟩)∧W'.cell? ⟨w.heap.size+1,12,none⟩=some vb∧W'.cell? ⟨w.heap.size+1,13,none⟩=some (.int .i64 vv.sel.index)∧W'.cell? ⟨w.heap.size+1,14,none⟩=some v3∧W'.cell? ⟨w.heap.size+1,15,none⟩=some v4) ((refine SX _ ?_;first|exact hcp|exact hcd|exact hcr)) (first|fail)
  have hXs:w.heap.size≤X.heap.size:=hBw.size
  have hb1Y:=(hHX.block (w.heap.size+1) (aZ hb1X) (by simp;omega)).trans hb1X
  have hb2Y:=(hHX.block (w.heap.size+1+1) (aZ hb2X) (by simp;omega)).trans hb2X
  clear SX hBd hcp hcd hcr u1 hmX hth hrX hrF hBF hall
  have hrY:(X.drew.putObj r ob).rangeAt (w.heap.size+1) 0 [.int .i64 v.authority,.int .i64 v.number,.int .i64 v.pos,.string ⟨v.prev.toArray⟩,va,.int .i64 v.sel.index,v1,v2,.int .i64 vv.authority,.int .i64 vv.number,.int .i64 vv.pos,.string ⟨vv.prev.toArray⟩,vb,.int .i64 vv.sel.index,v3,v4]:=fun j u hj=>by
   rw [Nat.zero_add,cell_of hb1Y j]
   simpa using hj
  have hthY:(X.drew.putObj r ob).there (w.heap.size+1+1) 0 16:=fun j hj=>by
   refine⟨?_,Aj hb2Y _⟩
   rw [Nat.zero_add,cell_of hb2Y j]
   rcases (by omega:j=0∨j=1∨j=2∨j=3∨j=4∨j=5∨j=6∨j=7∨j=8∨j=9∨j=10∨j=11∨j=12∨j=13∨j=14∨j=15) with rfl|rfl|rfl|rfl|rfl|rfl|rfl|rfl|rfl|rfl|rfl|rfl|rfl|rfl|rfl|rfl <;> rfl
  generalize X.drew.putObj r ob=Y at *
  have hrF:=hid (World.rangeAt_setCells_same Y (w.heap.size+1+1) 0 [.int .i64 v.authority,.int .i64 v.number,.int .i64 v.pos,.string ⟨v.prev.toArray⟩,va,.int .i64 v.sel.index,v1,v2,.int .i64 vv.authority,.int .i64 vv.number,.int .i64 vv.pos,.string ⟨vv.prev.toArray⟩,vb,.int .i64 vv.sel.index,v3,v4] hthY)
  have hBF:=hid (Au (b:=w.heap.size+1+1) (Below.refl w.heap.size Y) (by omega) [.int .i64 v.authority,.int .i64 v.number,.int .i64 v.pos,.string ⟨v.prev.toArray⟩,va,.int .i64 v.sel.index,v1,v2,.int .i64 vv.authority,.int .i64 vv.number,.int .i64 vv.pos,.string ⟨vv.prev.toArray⟩,vb,.int .i64 vv.sel.index,v3,v4] 0)
  have hall:=hid (all_oneCell_toArray hoc.out)
  replace hrY:=hid hrY
  replace hthY:=hid hthY
  go_wp2_with (refine wpList_load_mid rfl 92 _ rfl (w.heap.size+1) 0 rfl [.int .i64 v.authority,.int .i64 v.number,.int .i64 v.pos,.string ⟨v.prev.toArray⟩,va,.int .i64 v.sel.index,v1,v2,.int .i64 vv.authority,.int .i64 vv.number,.int .i64 vv.pos,.string ⟨vv.prev.toArray⟩,vb,.int .i64 vv.sel.index,v3,v4] _ hrY.out underlying92 rfl hi8 ?_;refine wpList_store_mid rfl 92 _ _ rfl (w.heap.size+1+1) 0 #[.int .i64 v.authority,.int .i64 v.number,.int .i64 v.pos,.string ⟨v.prev.toArray⟩,va,.int .i64 v.sel.index,v1,v2,.int .i64 vv.authority,.int .i64 vv.number,.int .i64 vv.pos,.string ⟨vv.prev.toArray⟩,vb,.int .i64 vv.sel.index,v3,v4] rfl rfl hthY.out hi8 hall.out ?_)
  refine bodyPost_ret (Bo rfl _ _ ⟨w.heap.size+1+1,0,none⟩ _ rfl (run_loadVar_mid _ (w.heap.size+1+1) 0 92 [.int .i64 v.authority,.int .i64 v.number,.int .i64 v.pos,.string ⟨v.prev.toArray⟩,va,.int .i64 v.sel.index,v1,v2,.int .i64 vv.authority,.int .i64 vv.number,.int .i64 vv.pos,.string ⟨vv.prev.toArray⟩,vb,.int .i64 vv.sel.index,v3,v4] _ hrF.out underlying92 rfl hi8)) rfl ?_
  refine⟨rfl,⟨hBF.out.os.trans (hHX.os.trans hBw.os),hBF.out.tape.trans (hHX.tape.trans hBw.tape),hBF.out.output.trans (hHX.output.trans hBw.output),nT hBw.size (nT hHX.size hBF.out.size),fun k hk hr=>(hBF.out.block k hk).trans ((hHX.block k (nL hk hXs) hr).trans (hBw.block k hk))⟩,?_⟩
  obtain⟨es,ck,e1,e2⟩:=u2
  exact⟨es,ck,(hBF.out.block r hrlt).trans e1,e2⟩
end
section
open Go.Lib Go.Proofs.Tryz Go.RowKit Go.Shelf Go.Sort
abbrev addC (keys:List (List UInt8)) (known:CH.Known) (forks:CH.Forks) (v:CH.Version):=CH.addV chkV keys known forks v
attribute [local irreducible] wpQuiet
def AddRet (w:World) (c r1 r2:Nat) (keys:List (List UInt8)) (x:Int × CH.Known × CH.Forks) (e:Ending) (w':World):Prop :=
 e=.returned (.int .i64 x.1)∧ChainAt w' c r1 r2 keys x.2.1 x.2.2∧Held [r1,r2] w w'
theorem add_text (c r1 r2:Nat) (keys:List (List UInt8)) (known:CH.Known) (forks:CH.Forks) (v:CH.Version) (s:VerV) (w:World) (hG:Gc w) (hC:ChainAt w c r1 r2 keys known forks) (hv:VerAt w.heap.size w v s) (er:Int) (ht:CH.vText v=.error er) :
  Calls prog 13 #[.pointer (some ⟨c,0,none⟩),.agg (Ac v s).toArray] w (AddRet w c r1 r2 keys (1,known,forks)):=by
 have hB0:=fun o=>(Below.refl _ w).alloc nR o
 have T:=fun (W:World) (hb:Below w.heap.size w W)=>Dk v s W (hG.below hb) ((hv.below hb nR).mono hb.size)
 rw [ht] at T
 have herr:=vText_err ht
 obtain⟨va,v1,v2⟩:=s
 dsimp only [Ac,resV] at T ⊢
 have HC:=hid hC
 clear ht hC hv
 rcases herr with rfl|rfl
 all_goals
  have T:=hid T
  go_enter func13,ntmps13
  go_wp2_with fail
  refine (T.out _ (hB0 _)).mono ?_
  rintro e w1 ⟨rfl,hb1⟩
  have hB1:Below w.heap.size w w1:=(hB0 _).trans (hb1.mono (by simp))
  clear T hb1
  go_wp2_with fail
  refine wp_region_quiet_below (by kernel_rfl) (by kernel_rfl) ?_
  repeat (quiet_step (fail))
  refine wpQuiet_nil ?_
  intro wq hbq
  replace hbq:=Ae hbq
  go_wp2
  go_ret
  have hB2:=hB1.trans (hbq.mono hB1.size)
  exact⟨rfl,HC.out.below hB2,Held.of_below hB2⟩
theorem add_auth (c r1 r2:Nat) (keys:List (List UInt8)) (known:CH.Known) (forks:CH.Forks) (v:CH.Version) (s:VerV) (w:World) (hG:Gc w) (hC:ChainAt w c r1 r2 keys known forks) (hv:VerAt w.heap.size w v s) (t:List UInt8) (ht:CH.vText v=.ok t) (ha:(keys.length:Int)≤v.authority) :
  Calls prog 13 #[.pointer (some ⟨c,0,none⟩),.agg (Ac v s).toArray] w (AddRet w c r1 r2 keys (1,known,forks)):=by
 have hB0:=fun o=>(Below.refl _ w).alloc nR o
 have T:=fun (W:World) (hb:Below w.heap.size w W)=>Dk v s W (hG.below hb) ((hv.below hb nR).mono hb.size)
 rw [ht] at T
 obtain⟨va,v1,v2⟩:=s
 dsimp only [Ac,resV] at T ⊢
 have T:=hid T
 have HC:=hid hC
 obtain⟨vk,hb00,hks⟩:=hC.ex
 obtain⟨ak,ck,rfl,_,_⟩:=hks.form
 have hclt:c<w.heap.size:=(aZ hb00)
 generalize keys.length=N at *
 have q:decide ((N:Int)≤v.authority)=true:=decide_eq_true ha
 clear ht hC hv hks
 replace hb00:=hid hb00
 go_enter func13,ntmps13
 go_wp2_with fail
 refine (T.out _ (hB0 _)).mono ?_
 rintro e w1 ⟨rfl,hb1⟩
 have hB1:Below w.heap.size w w1:=(hB0 _).trans (hb1.mono (by simp))
 have hblk:=(hb1.block w.heap.size (by simp)).trans (heap_alloc_last w _)
 have hlt1:w.heap.size<w1.heap.size:=(aZ hblk)
 have k0:w1.cell? ⟨w.heap.size,0,none⟩=some (.int .i64 v.authority):=cell_of hblk 0
 have kc:w1.cell? ⟨c,0,none⟩=some (.slice ak N ck):=cell_of ((hB1.block c hclt).trans hb00.out) 0
 have g0:∀ (d:Nat) (os:Array Obj),(grow (redrawn w1 d) os).cell? ⟨w.heap.size,0,none⟩=some (.int .i64 v.authority):=cell_regrown k0
 have gc:∀ (d:Nat) (os:Array Obj),(grow (redrawn w1 d) os).cell? ⟨c,0,none⟩=some (.slice ak N ck):=cell_regrown kc
 clear T hb1 hblk k0 kc
 go_wp2_with fail
 refine wp_region_quiet_below (by kernel_rfl) (by kernel_rfl) ?_
 repeat (quiet_step (fail))
 refine wpQuiet_nil ?_
 intro wq hbq
 replace hbq:=Ae hbq
 clear g0 gc
 go_wp2
 go_ret
 have hB2:=hB1.trans (hbq.mono hB1.size)
 exact⟨rfl,HC.out.below hB2,Held.of_below hB2⟩
end
section
open Go.Lib Go.Proofs.Tryz Go.RowKit Go.Shelf Go.Sort
attribute [local irreducible] wpQuiet
theorem add_key (c r1 r2:Nat) (keys:List (List UInt8)) (known:CH.Known) (forks:CH.Forks) (v:CH.Version) (s:VerV) (w:World) (hG:Gc w) (hC:ChainAt w c r1 r2 keys known forks) (hv:VerAt w.heap.size w v s) (t:List UInt8) (ht:CH.vText v=.ok t) (ha:v.authority<(keys.length:Int)) (hk:chkV v (keys.getD v.authority.toNat [])=false) :
  Calls prog 13 #[.pointer (some ⟨c,0,none⟩),.agg (Ac v s).toArray] w (AddRet w c r1 r2 keys (16,known,forks)):=by
 have hn:=CH.vText_nums ht
 have hB0:=fun o=>(Below.refl _ w).alloc nR o
 have HV:=hid fun (W:World) (hb:Below w.heap.size w W)=>(hv.below hb nR).mono hb.size
 have T:=fun (W:World) (hb:Below w.heap.size w W)=>Dk v s W (hG.below hb) (HV.out W hb)
 rw [ht] at T
 obtain⟨vk,hb00,hks⟩:=hC.ex
 obtain⟨ak,ck,rfl,_,_,hks⟩:=hks
 obtain⟨A,hA⟩:∃ A:Nat,v.authority=A:=⟨v.authority.toNat,by omega⟩
 have hAt:v.authority.toNat=A:=by omega
 rw [hAt] at hk
 rw [hA] at ha
 have hAl:A<keys.length:=by omega
 obtain⟨key,hkey⟩:∃ key,keys[A]?=some key:=⟨_,lZ hAl⟩
 have hgd:keys.getD A []=key:=by simp [hkey]
 rw [hgd] at hk
 obtain⟨bk,ok,rfl,hbk,hkc⟩:=hks (fun e=>by rw [e] at hAl;simp at hAl)
 have hkc:=hkc A key hkey
 have C:=fun (W:World) (hb:Below w.heap.size w W)=>check_any v s key W (hG.below hb) (HV.out W hb)
 rw [hk] at C
 obtain⟨va,v1,v2⟩:=s
 dsimp only [Ac,resV] at T C ⊢
 rw [hA] at T C ⊢
 have T:=hid T
 have C:=hid C
 have HC:=hid hC
 have hclt:c<w.heap.size:=(aZ hb00)
 have HS:=hid hv.small
 have hAt:=hid hAt
 have hA:=hid hA
 generalize keys.length=N at *
 have q:decide ((N:Int)≤(A:Int))=false:=by simp;omega
 have z0:(0:Int)≤(A:Int):=by omega
 have zA:((A:Int)).toNat=A:=by omega
 have ha':(A:Int)<(N:Int):=by omega
 clear hC hv hks hkey hgd hk hn
 replace hb00:=hid hb00
 replace ht:=hid ht
 go_enter func13,ntmps13
 go_wp2_with fail
 refine (T.out _ (hB0 _)).mono ?_
 rintro e w1 ⟨rfl,hb1⟩
 have hB1:Below w.heap.size w w1:=(hB0 _).trans (hb1.mono (by simp))
 have hblk:=(hb1.block w.heap.size (by simp)).trans (heap_alloc_last w _)
 have hlt1:w.heap.size<w1.heap.size:=(aZ hblk)
 have k0:w1.cell? ⟨w.heap.size,0,none⟩=some (.int .i64 A):=cell_of hblk 0
 have kc:w1.cell? ⟨c,0,none⟩=some (.slice (some ⟨bk,ok,none⟩) N ck):=cell_of ((hB1.block c hclt).trans hb00.out) 0
 have g0:∀ (d:Nat) (os:Array Obj),(grow (redrawn w1 d) os).cell? ⟨w.heap.size,0,none⟩=some (.int .i64 A):=cell_regrown k0
 have gc:∀ (d:Nat) (os:Array Obj),(grow (redrawn w1 d) os).cell? ⟨c,0,none⟩=some (.slice (some ⟨bk,ok,none⟩) N ck):=cell_regrown kc
 clear T hb1 k0 kc
 go_wp2_with fail
 refine wp_region_quiet_below (by kernel_rfl) (by kernel_rfl) ?_
 repeat (quiet_step (fail))
 refine wpQuiet_nil ?_
 intro wq hbq
 replace hbq:=Ae hbq
 clear g0 gc
 have hB2:=hB1.trans (hbq.mono hB1.size)
 replace hblk:=(hbq.block w.heap.size hlt1).trans hblk
 have hlt2:w.heap.size<wq.heap.size:=(aZ hblk)
 clear hbq
 have C2:=hid fun (W:World) (hb:Below wq.heap.size wq W)=>C.out W (hB2.trans (hb.mono hB2.size))
 obtain⟨X,hX⟩:∃ X,X=wq:=⟨_,rfl⟩
 rw [← hX] at hB2 hblk hlt2 C2 ⊢
 have g0:∀ (d:Nat) (os:Array Obj),(grow (redrawn X d) os).cell? ⟨w.heap.size,0,none⟩=some (.int .i64 A):=cell_regrown (cell_of hblk 0)
 have g1:∀ (d:Nat) (os:Array Obj),(grow (redrawn X d) os).cell? ⟨w.heap.size,1,none⟩=some (.int .i64 v.number):=cell_regrown (cell_of hblk 1)
 have g2:∀ (d:Nat) (os:Array Obj),(grow (redrawn X d) os).cell? ⟨w.heap.size,2,none⟩=some (.int .i64 v.pos):=cell_regrown (cell_of hblk 2)
 have g3:∀ (d:Nat) (os:Array Obj),(grow (redrawn X d) os).cell? ⟨w.heap.size,3,none⟩=some (.string ⟨v.prev.toArray⟩):=cell_regrown (cell_of hblk 3)
 have g4:∀ (d:Nat) (os:Array Obj),(grow (redrawn X d) os).cell? ⟨w.heap.size,4,none⟩=some va:=cell_regrown (cell_of hblk 4)
 have g5:∀ (d:Nat) (os:Array Obj),(grow (redrawn X d) os).cell? ⟨w.heap.size,5,none⟩=some (.int .i64 v.sel.index):=cell_regrown (cell_of hblk 5)
 have g6:∀ (d:Nat) (os:Array Obj),(grow (redrawn X d) os).cell? ⟨w.heap.size,6,none⟩=some v1:=cell_regrown (cell_of hblk 6)
 have g7:∀ (d:Nat) (os:Array Obj),(grow (redrawn X d) os).cell? ⟨w.heap.size,7,none⟩=some v2:=cell_regrown (cell_of hblk 7)
 have gc:∀ (d:Nat) (os:Array Obj),(grow (redrawn X d) os).cell? ⟨c,0,none⟩=some (.slice (some ⟨bk,ok,none⟩) N ck):=cell_regrown (cell_of ((hB2.block c hclt).trans hb00.out) 0)
 have gk:∀ (d:Nat) (os:Array Obj),(grow (redrawn X d) os).cell? ⟨bk,ok+A,none⟩=some (.string ⟨key.toArray⟩):=cell_regrown ((hB2.cell (p:=⟨bk,ok+A,none⟩) hbk).trans hkc)
 clear hX C w1 hB1 hlt1
 go_wp2_with fail
 refine wp_region_quiet_below (by kernel_rfl) (by kernel_rfl) ?_
 repeat (quiet_step ((with_reducible exact Calls.regrown_of (C2.out _ (below_regrown _ _ _)))))
 refine wpQuiet_nil ?_
 intro wq hbq
 replace hbq:=Ae hbq
 clear g0 g1 g2 g3 g4 g5 g6 g7 gc gk
 have hB3:=hB2.trans (hbq.mono hB2.size)
 replace hblk:=(hbq.block w.heap.size hlt2).trans hblk
 have hlt3:w.heap.size<wq.heap.size:=(aZ hblk)
 clear C2 hbq hlt2 hB2
 go_wp2
 go_ret
 exact⟨rfl,HC.out.below hB3,Held.of_below hB3⟩
end
section
open Go.Lib Go.Proofs.Tryz Go.RowKit Go.Shelf Go.Sort
attribute [local irreducible] wpQuiet
end
section
open Go.Lib Go.Proofs.Tryz Go.RowKit Go.Shelf Go.Sort
attribute [local irreducible] wpQuiet
def Far (C:Nat) (w w':World):Prop:=∀ p v,p.block<C→w.cell? p=some v→w'.cell? p=some v
theorem Far.set {C b o:Nat} {x:Value} {w w':World} (h:Far C w w') (hb:C≤b):Far C w (w'.setCell ⟨b,o,none⟩ x):=fun p v hp hv=>by
 rw [cell?_block (At w' ⟨b,o,none⟩ x p.block (by show p.block≠b;omega))]
 exact h p v hp hv
theorem Far.refl (C:Nat) (w:World):Far C w w:=fun _ _ _ h=>h
theorem Far.setCells {C b:Nat} (hb:C≤b):∀ (cs:List Value) (o:Nat) {w w':World},Far C w w'→Far C w (w'.setCells b o cs)
 | [],_,_,_,h=>h
 | x::cs,o,_,_,h=>by
  rw [World.setCells]
  exact Far.setCells hb cs (o+1) (Far.set h hb)
theorem A6.same {r:Nat} {w w':World} {kvs:List ((Int × Int) × Value)} (h:A6 Al r w kvs) (e:w'.heap[r]?=w.heap[r]?):A6 Al r w' kvs:=by
 obtain⟨es,ck,e1,e2⟩:=h
 exact⟨es,ck,e.trans e1,e2⟩
theorem chainAt_put {c r1 r2:Nat} {keys:List (List UInt8)} {known:CH.Known} {forks:CH.Forks} {v:CH.Version} {s:VerV} {w w':World} {p:Int × Int} {kvs:List ((Int × Int) × Value)} (hC:ChainAt w c r1 r2 keys known forks) (hv:VerAt w.heap.size w v s) (hH:Held [r1] w w')
  (hm0:A6 Al r1 w kvs) (hkv:KVs w.heap.size w kvs known) (hm:A6 Al r1 w' (kvs++[(p,.agg (Ac v s).toArray)])):ChainAt w' c r1 r2 keys (known++[(p,v)]) forks:=by
 obtain⟨vk,h1,h2⟩:=hC.ex
 obtain⟨k2,h5,h6⟩:=hC.forks
 have hmm:=hm0
 obtain⟨es,ck,e1,_⟩:=hmm
 have hcc:Cells w w':=hH.cells fun r hr=>by
  cases List.mem_singleton.1 hr
  exact⟨es,ck,e1⟩
 have hcr:c ∉ [r1]:=fun h=>by
  cases List.mem_singleton.1 h
  rw [h1] at e1
  cases e1
 have hr2:r2 ∉ [r1]:=fun h=>hC.ne (List.mem_singleton.1 h).symm
 refine⟨⟨vk,(hH.block c (aZ h1) hcr).trans h1,(h2.kept hcc).mono hH.size⟩,⟨_,hm,?_⟩,⟨k2,h5.same (hH.block r2 h5.lt hr2),h6.imp fun _ _ h=>(h.kept hcc).mono hH.size⟩,hC.ne⟩
 exact KVs.snoc ((hv.kept hcc).mono hH.size) (hkv.imp fun _ _ h=>(h.kept hcc).mono hH.size)
theorem addWalk_new (c r1 r2:Nat) (keys:List (List UInt8)) (known:CH.Known) (forks:CH.Forks) (v:CH.Version) (s:VerV) (w:World) (hG:Gc w) (hC:ChainAt w c r1 r2 keys known forks) (hv:VerAt w.heap.size w v s) (t:List UInt8) (ht:CH.vText v=.ok t) (ha:v.authority<(keys.length:Int)) (hk:chkV v (keys.getD v.authority.toNat [])=true) (hl:CH.lookK (v.authority,v.number) known=none) :
  Calls prog 13 #[.pointer (some ⟨c,0,none⟩),.agg (Ac v s).toArray] w (AddRet w c r1 r2 keys (0,known++[((v.authority,v.number),v)],forks)):=by
 have hn:=CH.vText_nums ht
 have hB0:=fun o=>(Below.refl _ w).alloc nR o
 have HV:=hid fun (W:World) (hb:Below w.heap.size w W)=>(hv.below hb nR).mono hb.size
 have T:=fun (W:World) (hb:Below w.heap.size w W)=>Dk v s W (hG.below hb) (HV.out W hb)
 rw [ht] at T
 obtain⟨vk,hb00,hks⟩:=hC.ex
 obtain⟨ak,ck,rfl,_,_,hks⟩:=hks
 obtain⟨A,hA⟩:∃ A:Nat,v.authority=A:=⟨v.authority.toNat,by omega⟩
 have hAt:v.authority.toNat=A:=by omega
 rw [hAt] at hk
 rw [hA] at ha
 have hAl:A<keys.length:=by omega
 obtain⟨key,hkey⟩:∃ key,keys[A]?=some key:=⟨_,lZ hAl⟩
 have hgd:keys.getD A []=key:=by simp [hkey]
 rw [hgd] at hk
 obtain⟨bk,ok,rfl,hbk,hkc⟩:=hks (fun e=>by rw [e] at hAl;simp at hAl)
 have hkc:=hkc A key hkey
 have C:=fun (W:World) (hb:Below w.heap.size w W)=>check_any v s key W (hG.below hb) (HV.out W hb)
 rw [hk] at C
 obtain⟨va,v1,v2⟩:=s
 dsimp only [Ac,resV] at T C ⊢
 rw [hA] at T C ⊢
 have T:=hid T
 have C:=hid C
 have HC:=hid hC
 have hclt:c<w.heap.size:=(aZ hb00)
 have HS:=hid hv.small
 have hAt:=hid hAt
 have hA:=hid hA
 generalize keys.length=N at *
 have q:decide ((N:Int)≤(A:Int))=false:=by simp;omega
 have z0:(0:Int)≤(A:Int):=by omega
 have zA:((A:Int)).toNat=A:=by omega
 have ha':(A:Int)<(N:Int):=by omega
 clear hC hv hks hkey hgd hk hn
 replace hb00:=hid hb00
 replace ht:=hid ht
 go_enter func13,ntmps13
 go_wp2_with fail
 refine (T.out _ (hB0 _)).mono ?_
 rintro e w1 ⟨rfl,hb1⟩
 have hB1:Below w.heap.size w w1:=(hB0 _).trans (hb1.mono (by simp))
 have hblk:=(hb1.block w.heap.size (by simp)).trans (heap_alloc_last w _)
 have hlt1:w.heap.size<w1.heap.size:=(aZ hblk)
 have k0:w1.cell? ⟨w.heap.size,0,none⟩=some (.int .i64 A):=cell_of hblk 0
 have kc:w1.cell? ⟨c,0,none⟩=some (.slice (some ⟨bk,ok,none⟩) N ck):=cell_of ((hB1.block c hclt).trans hb00.out) 0
 have g0:∀ (d:Nat) (os:Array Obj),(grow (redrawn w1 d) os).cell? ⟨w.heap.size,0,none⟩=some (.int .i64 A):=cell_regrown k0
 have gc:∀ (d:Nat) (os:Array Obj),(grow (redrawn w1 d) os).cell? ⟨c,0,none⟩=some (.slice (some ⟨bk,ok,none⟩) N ck):=cell_regrown kc
 clear T hb1 k0 kc
 go_wp2_with fail
 refine wp_region_quiet_below (by kernel_rfl) (by kernel_rfl) ?_
 repeat (quiet_step (fail))
 refine wpQuiet_nil ?_
 intro wq hbq
 replace hbq:=Ae hbq
 clear g0 gc
 have hB2:=hB1.trans (hbq.mono hB1.size)
 replace hblk:=(hbq.block w.heap.size hlt1).trans hblk
 have hlt2:w.heap.size<wq.heap.size:=(aZ hblk)
 clear hbq
 have C2:=hid fun (W:World) (hb:Below wq.heap.size wq W)=>C.out W (hB2.trans (hb.mono hB2.size))
 obtain⟨X,hX⟩:∃ X,X=wq:=⟨_,rfl⟩
 rw [← hX] at hB2 hblk hlt2 C2 ⊢
 have g0:∀ (d:Nat) (os:Array Obj),(grow (redrawn X d) os).cell? ⟨w.heap.size,0,none⟩=some (.int .i64 A):=cell_regrown (cell_of hblk 0)
 have g1:∀ (d:Nat) (os:Array Obj),(grow (redrawn X d) os).cell? ⟨w.heap.size,1,none⟩=some (.int .i64 v.number):=cell_regrown (cell_of hblk 1)
 have g2:∀ (d:Nat) (os:Array Obj),(grow (redrawn X d) os).cell? ⟨w.heap.size,2,none⟩=some (.int .i64 v.pos):=cell_regrown (cell_of hblk 2)
 have g3:∀ (d:Nat) (os:Array Obj),(grow (redrawn X d) os).cell? ⟨w.heap.size,3,none⟩=some (.string ⟨v.prev.toArray⟩):=cell_regrown (cell_of hblk 3)
 have g4:∀ (d:Nat) (os:Array Obj),(grow (redrawn X d) os).cell? ⟨w.heap.size,4,none⟩=some va:=cell_regrown (cell_of hblk 4)
 have g5:∀ (d:Nat) (os:Array Obj),(grow (redrawn X d) os).cell? ⟨w.heap.size,5,none⟩=some (.int .i64 v.sel.index):=cell_regrown (cell_of hblk 5)
 have g6:∀ (d:Nat) (os:Array Obj),(grow (redrawn X d) os).cell? ⟨w.heap.size,6,none⟩=some v1:=cell_regrown (cell_of hblk 6)
 have g7:∀ (d:Nat) (os:Array Obj),(grow (redrawn X d) os).cell? ⟨w.heap.size,7,none⟩=some v2:=cell_regrown (cell_of hblk 7)
 have gc:∀ (d:Nat) (os:Array Obj),(grow (redrawn X d) os).cell? ⟨c,0,none⟩=some (.slice (some ⟨bk,ok,none⟩) N ck):=cell_regrown (cell_of ((hB2.block c hclt).trans hb00.out) 0)
 have gk:∀ (d:Nat) (os:Array Obj),(grow (redrawn X d) os).cell? ⟨bk,ok+A,none⟩=some (.string ⟨key.toArray⟩):=cell_regrown ((hB2.cell (p:=⟨bk,ok+A,none⟩) hbk).trans hkc)
 clear hX C w1 hB1 hlt1
 go_wp2_with fail
 refine wp_region_quiet_below (by kernel_rfl) (by kernel_rfl) ?_
 repeat (quiet_step ((with_reducible exact Calls.regrown_of (C2.out _ (below_regrown _ _ _)))))
 refine wpQuiet_nil ?_
 intro wq hbq
 replace hbq:=Ae hbq
 clear g0 g1 g2 g3 g4 g5 g6 g7 gc gk
 have hB3:=hB2.trans (hbq.mono hB2.size)
 replace hblk:=(hbq.block w.heap.size hlt2).trans hblk
 have hlt3:w.heap.size<wq.heap.size:=(aZ hblk)
 clear C2 hbq hlt2 hB2
 obtain⟨a1,m1,c1,a2,m2,c2,a3,m3,c3,hsl⟩:=(HV.out w (Below.refl _ _)).sl
 simp only [VerV.mk.injEq] at hsl
 obtain⟨rfl,rfl,rfl⟩:=hsl
 have k0:wq.cell? ⟨w.heap.size,0,none⟩=some (.int .i64 A):=cell_of hblk 0
 have k1:wq.cell? ⟨w.heap.size,1,none⟩=some (.int .i64 v.number):=cell_of hblk 1
 go_upto_region 7 with (fail)
 obtain⟨kvs,hm0,hkv0⟩:=HC.out.known
 have hf0:Ax (v.authority,v.number) kvs 0=none:=hkv0.none 0 hl
 obtain⟨W1,hW1⟩:∃ W1,wq.alloc (.cells #[.int .i64 A,.int .i64 v.number] 89)=W1:=⟨_,rfl⟩
 have hB4':Below wq.heap.size wq W1:=by rw [← hW1];exact (Below.refl _ wq).alloc nR _
 have hpl:W1.heap[wq.heap.size]?=some (.cells #[.int .i64 A,.int .i64 v.number] 89 (0,0)):=by rw [← hW1];exact heap_alloc_last wq _
 rw [hW1]
 clear hW1 k0 k1
 have hB4:Below w.heap.size w W1:=hB3.trans (hB4'.mono hB3.size)
 have hvb:=(hB4'.block w.heap.size hlt3).trans hblk
 have hP1:w.heap.size<W1.heap.size:=(aZ hvb)
 have hP2:wq.heap.size<W1.heap.size:=(aZ hpl)
 have hc1:w.cell? ⟨c,1,none⟩=some (.map (some r1)):=cell_of hb00.out 1
 have hr1:=hm0.lt
 have PC:=hid fun (W:World) (hb:Below W1.heap.size W1 W)=>putNew_any c 1 r1 (v.authority,v.number) v ⟨(.slice a1 m1 c1),(.slice a2 m2 c2),(.slice a3 m3 c3)⟩ kvs W (((hB4.trans (hb.mono hB4.size)).cell (p:=⟨c,1,none⟩) hclt).trans hc1) (hm0.below (hB4.trans (hb.mono hB4.size))) hf0 (HV.out W (hB4.trans (hb.mono hB4.size)))
 rw [hA.out] at PC
 dsimp only [Ac,Al] at PC
 rw [hA.out] at PC
 have SC:∀ W',Cells W1 W'→W'.cell? ⟨wq.heap.size,0,none⟩=some (.int .i64 A)∧W'.cell? ⟨wq.heap.size,1,none⟩=some (.int .i64 v.number)∧W'.cell? ⟨w.heap.size,0,none⟩=some (.int .i64 A)∧W'.cell? ⟨w.heap.size,1,none⟩=some (.int .i64 v.number)∧W'.cell? ⟨w.heap.size,2,none⟩=some (.int .i64 v.pos)∧W'.cell? ⟨w.heap.size,3,none⟩=some (.string ⟨v.prev.toArray⟩)∧W'.cell? ⟨w.heap.size,4,none⟩=some (.slice a1 m1 c1)∧W'.cell? ⟨w.heap.size,5,none⟩=some (.int .i64 v.sel.index)∧W'.cell? ⟨w.heap.size,6,none⟩=some (.slice a2 m2 c2)∧W'.cell? ⟨w.heap.size,7,none⟩=some (.slice a3 m3 c3):=fun W' h =>
  ⟨h _ _ (cell_of hpl 0),h _ _ (cell_of hpl 1),h _ _ (cell_of hvb 0),h _ _ (cell_of hvb 1),h _ _ (cell_of hvb 2),h _ _ (cell_of hvb 3),h _ _ (cell_of hvb 4),h _ _ (cell_of hvb 5),h _ _ (cell_of hvb 6),h _ _ (cell_of hvb 7)⟩
 have hMap:IsMap W1 r1:=by
  obtain⟨es,ck,e,_⟩:=hm0.below hB4
  exact⟨es,ck,e⟩
 have hBd:Below W1.heap.size W1 W1.drew:=(Below.refl _ W1).drew
 have hBz:=fun o=>((Below.refl _ W1).alloc nR o).drew
 have HX:Hid (∀ (W w':World),Below W1.heap.size W1 W→Held [r1] W w'→Cells W1 w'):=hid fun W w' hb hh=>(Cells.of_below hb).trans (hh.cells fun r hr=>by
  cases List.mem_singleton.1 hr
  obtain⟨es,ck,e⟩:=hMap
  exact⟨es,ck,(hb.block r1 (aZ e)).trans e⟩)
 have hne1:r1≠wq.heap.size:=fun e=>by have:=hr1;omega
 have HZ:Hid (∀ (w':World),Held [r1] (W1.alloc (.cells #[.int .i64 0,.int .i64 0,.int .i64 0,.string ⟨#[]⟩,.slice none 0 0,.int .i64 0,.slice none 0 0,.slice none 0 0] 29)).drew w'→w'.cell? ⟨W1.heap.size,0,none⟩=some (.int .i64 0)∧w'.cell? ⟨W1.heap.size,1,none⟩=some (.int .i64 0)∧w'.cell? ⟨W1.heap.size,2,none⟩=some (.int .i64 0)∧w'.cell? ⟨W1.heap.size,3,none⟩=some (.string ⟨#[]⟩)∧w'.cell? ⟨W1.heap.size,4,none⟩=some (.slice none 0 0)∧w'.cell? ⟨W1.heap.size,5,none⟩=some (.int .i64 0)∧w'.cell? ⟨W1.heap.size,6,none⟩=some (.slice none 0 0)∧w'.cell? ⟨W1.heap.size,7,none⟩=some (.slice none 0 0)∧w'.frozen? ⟨W1.heap.size,0,none⟩=false∧w'.frozen? ⟨W1.heap.size,1,none⟩=false∧w'.frozen? ⟨W1.heap.size,2,none⟩=false∧w'.frozen? ⟨W1.heap.size,3,none⟩=false∧w'.frozen? ⟨W1.heap.size,4,none⟩=false∧w'.frozen? ⟨W1.heap.size,5,none⟩=false∧w'.frozen? ⟨W1.heap.size,6,none⟩=false∧w'.frozen? ⟨W1.heap.size,7,none⟩=false):=hid fun w' hh=>by
  have hz:=(hh.block W1.heap.size (by show W1.heap.size<(W1.alloc (.cells #[.int .i64 0,.int .i64 0,.int .i64 0,.string ⟨#[]⟩,.slice none 0 0,.int .i64 0,.slice none 0 0,.slice none 0 0] 29)).heap.size;simp) (by simp;omega)).trans (heap_alloc_last W1 (.cells #[.int .i64 0,.int .i64 0,.int .i64 0,.string ⟨#[]⟩,.slice none 0 0,.int .i64 0,.slice none 0 0,.slice none 0 0] 29))
  exact⟨cell_of hz 0,cell_of hz 1,cell_of hz 2,cell_of hz 3,cell_of hz 4,cell_of hz 5,cell_of hz 6,cell_of hz 7,Aj hz 0,Aj hz 1,Aj hz 2,Aj hz 3,Aj hz 4,Aj hz 5,Aj hz 6,Aj hz 7⟩
 have CF:Hid (∀ w' w'',Cells W1 w'→Far W1.heap.size w' w''→Cells W1 w''):=hid fun w' w'' h1 h2 p u hp=>h2 p u (World.block_lt_of_cell? W1 p hp) (h1 p u hp)
 have SC:=hid SC
 have hf0:=hid hf0
 have hkv0:=hid hkv0
 have hm00:=hid hm0
 clear hMap hm0 hvb hpl hblk hB3 hB4' hc1
 refine wp_region_noPanic ?_
 refine wp_region_held_drew (S:=(fun W'=>W'.cell? ⟨wq.heap.size,0,none⟩=some (.int .i64 A)∧W'.cell? ⟨wq.heap.size,1,none⟩=some (.int .i64 v.number)∧W'.cell? ⟨w.heap.size,0,none⟩=some (.int .i64 A)∧W'.cell? ⟨w.heap.size,1,none⟩=some (.int .i64 v.number)∧W'.cell? ⟨w.heap.size,2,none⟩=some (.int .i64 v.pos)∧W'.cell? ⟨w.heap.size,3,none⟩=some (.string ⟨v.prev.toArray⟩)∧W'.cell? ⟨w.heap.size,4,none⟩=some (.slice a1 m1 c1)∧W'.cell? ⟨w.heap.size,5,none⟩=some (.int .i64 v.sel.index)∧W'.cell? ⟨w.heap.size,6,none⟩=some (.slice a2 m2 c2)∧W'.cell? ⟨w.heap.size,7,none⟩=some (.slice a3 m3 c3))) (by kernel_rfl) (SC.out _ (Cells.of_below hBd)) (fun hHeld=>?_)
 refine tk 0 (v:=.pointer (some ⟨c,0,none⟩)) rfl (by rfl) hHeld ?_ ?_
 ·intro W hSw
  (try dsimp only at hSw)
  go_simp
 simp only [Act.put,pA,pB,pC]
 refine tk 1 (v:=.pointer (some ⟨c,0,none⟩)) rfl (by rfl) hHeld ?_ ?_
 ·intro W hSw
  (try dsimp only at hSw)
  go_simp
 simp only [Act.put,pA,pB,pC]
 refine tk 2 (v:=.pointer (some ⟨c,1,none⟩)) rfl (by rfl) hHeld ?_ ?_
 ·intro W hSw
  (try dsimp only at hSw)
  go_simp
 simp only [Act.put,pA,pB,pC]
 refine tk 3 (v:=.agg #[.int .i64 A,.int .i64 v.number]) rfl (by rfl) hHeld ?_ ?_
 ·intro W hSw
  (try dsimp only at hSw)
  go_simp
 simp only [Act.put,pA,pB,pC]
 refine tk 4 (v:=(.agg #[.int .i64 A,.int .i64 v.number,.int .i64 v.pos,.string ⟨v.prev.toArray⟩,.slice a1 m1 c1,.int .i64 v.sel.index,.slice a2 m2 c2,.slice a3 m3 c3])) rfl (by rfl) hHeld ?_ ?_
 ·intro W hSw
  (try dsimp only at hSw)
  go_simp
 simp only [Act.put,pA,pB,pC]
 refine wpAnyH_ready (rs:=[5,9]) (by kernel_rfl) (by simp) ?_
 refine AllReadyH.cons (o:=_) rfl (fun K hK=>?_) ?_
 ·go_simp
  refine (PC.out _ hBd).mono ?_
  rintro e w' ⟨rfl,hh,hmm⟩
  have hcl:=HX.out _ _ hBd hh
  go_wp2_with fail
  refine hK.out _ _ (SC.out _ hcl) (fun hHeld=>?_)
  clear hK K
  (try simp only [Act.put,pA,pB,pC])
  refine tk 6 (v:=.tuple #[(.agg #[.int .i64 A,.int .i64 v.number,.int .i64 v.pos,.string ⟨v.prev.toArray⟩,.slice a1 m1 c1,.int .i64 v.sel.index,.slice a2 m2 c2,.slice a3 m3 c3]),.bool true]) rfl (by rfl) hHeld ?_ ?_
  ·intro W hSw
   (try dsimp only at hSw)
   go_simp
  (try simp only [Act.put,pA,pB,pC])
  refine tk 7 (v:=(.agg #[.int .i64 A,.int .i64 v.number,.int .i64 v.pos,.string ⟨v.prev.toArray⟩,.slice a1 m1 c1,.int .i64 v.sel.index,.slice a2 m2 c2,.slice a3 m3 c3])) rfl (by rfl) hHeld ?_ ?_
  ·intro W hSw
   (try dsimp only at hSw)
   go_simp
  (try simp only [Act.put,pA,pB,pC])
  refine tk 8 (v:=.bool true) rfl (by rfl) hHeld ?_ ?_
  ·intro W hSw
   (try dsimp only at hSw)
   go_simp
  (try simp only [Act.put,pA,pB,pC])
  refine rk 9 rfl (fun K hK=>?_)
  go_simp
  refine hK.out _ _ (SC.out _ (hcl.trans (Cells.of_below ((Below.refl _ _).alloc nR _)))) (fun hHeld=>?_)
  clear hK K
  (try simp only [Act.put,pA,pB,pC])
  refine rk 10 rfl (fun K hK=>?_)
  go_simp
  refine hK.out _ _ (SC.out _ (hcl.trans (Cells.of_below ((Below.refl _ _).alloc nR _)))) (fun hHeld=>?_)
  clear hK K
  (try simp only [Act.put,pA,pB,pC])
  refine tk 11 (v:=.bool true) rfl (by rfl) hHeld ?_ ?_
  ·intro W hSw
   (try dsimp only at hSw)
   go_simp
  (try simp only [Act.put,pA,pB,pC])
  refine wpAnyH_done (by kernel_rfl) (NoPanic.normal ?_) _
  have hfin:Held [r1] w (w'.alloc (.cells #[.int .i64 A,.int .i64 v.number,.int .i64 v.pos,.string ⟨v.prev.toArray⟩,.slice a1 m1 c1,.int .i64 v.sel.index,.slice a2 m2 c2,.slice a3 m3 c3] 29)):=(Held.of_below hB4).trans ((Held.of_below hBd).trans (hh.trans (Held.of_below ((Below.refl _ _).alloc nR _))))
  have hfin:=hid hfin
  have hmm:Hid (A6 Al r1 (w'.alloc (.cells #[.int .i64 A,.int .i64 v.number,.int .i64 v.pos,.string ⟨v.prev.toArray⟩,.slice a1 m1 c1,.int .i64 v.sel.index,.slice a2 m2 c2,.slice a3 m3 c3] 29)) (kvs++[((v.authority,v.number),.agg (Ac v ⟨.slice a1 m1 c1,.slice a2 m2 c2,.slice a3 m3 c3⟩).toArray)])):=hid (by
   dsimp only [Ac]
   rw [hA.out]
   exact hmm.same (((Below.refl _ w').alloc nR _).block r1 hmm.lt))
  clear hcl hHeld
  go_wp2
  go_ret
  refine⟨rfl,?_,hfin.out.mono (by simp)⟩
  have:=chainAt_put (p:=(v.authority,v.number)) HC.out (HV.out w (Below.refl _ _)) hfin.out hm00.out hkv0.out hmm.out
  rw [hA.out] at this
  exact this
 ·refine AllReadyH.cons (o:=_) rfl (fun K hK=>?_) AllReadyH.nil
  go_simp
  refine hK.out _ _ (SC.out _ (Cells.of_below (hBz _))) (fun hHeld=>?_)
  clear hK K
  (try simp only [Act.put,pA,pB,pC])
  refine rk 5 rfl (fun K hK=>?_)
  go_simp
  refine (PC.out _ (hBz _)).mono ?_
  rintro e w' ⟨rfl,hh,hmm⟩
  have hcl:=HX.out _ _ (hBz _) hh
  go_wp2_with fail
  refine hK.out _ _ (SC.out _ hcl) (fun hHeld=>?_)
  clear hK K
  (try simp only [Act.put,pA,pB,pC])
  refine tk 6 (v:=.tuple #[(.agg #[.int .i64 A,.int .i64 v.number,.int .i64 v.pos,.string ⟨v.prev.toArray⟩,.slice a1 m1 c1,.int .i64 v.sel.index,.slice a2 m2 c2,.slice a3 m3 c3]),.bool true]) rfl (by rfl) hHeld ?_ ?_
  ·intro W hSw
   (try dsimp only at hSw)
   go_simp
  (try simp only [Act.put,pA,pB,pC])
  refine tk 7 (v:=(.agg #[.int .i64 A,.int .i64 v.number,.int .i64 v.pos,.string ⟨v.prev.toArray⟩,.slice a1 m1 c1,.int .i64 v.sel.index,.slice a2 m2 c2,.slice a3 m3 c3])) rfl (by rfl) hHeld ?_ ?_
  ·intro W hSw
   (try dsimp only at hSw)
   go_simp
  (try simp only [Act.put,pA,pB,pC])
  refine tk 8 (v:=.bool true) rfl (by rfl) hHeld ?_ ?_
  ·intro W hSw
   (try dsimp only at hSw)
   go_simp
  (try simp only [Act.put,pA,pB,pC])
  have hz:w'.heap[W1.heap.size]?=some (.cells #[.int .i64 0,.int .i64 0,.int .i64 0,.string ⟨#[]⟩,.slice none 0 0,.int .i64 0,.slice none 0 0,.slice none 0 0] 29):=(hh.block W1.heap.size (by show W1.heap.size<(W1.alloc (.cells #[.int .i64 0,.int .i64 0,.int .i64 0,.string ⟨#[]⟩,.slice none 0 0,.int .i64 0,.slice none 0 0,.slice none 0 0] 29)).heap.size;simp) (by simp;omega)).trans (heap_alloc_last W1 (.cells #[.int .i64 0,.int .i64 0,.int .i64 0,.string ⟨#[]⟩,.slice none 0 0,.int .i64 0,.slice none 0 0,.slice none 0 0] 29))
  have hth:w'.there W1.heap.size 0 8:=fun j hj=>by
   refine⟨?_,Aj hz _⟩
   rw [Nat.zero_add,cell_of hz j]
   rcases (by omega:j=0∨j=1∨j=2∨j=3∨j=4∨j=5∨j=6∨j=7) with rfl|rfl|rfl|rfl|rfl|rfl|rfl|rfl <;> rfl
  have hi8:(prog.info? 29).map (·.size)=some 8:=by kernel_rfl
  have hall:(#[.int .i64 A,.int .i64 v.number,.int .i64 v.pos,.string ⟨v.prev.toArray⟩,.slice a1 m1 c1,.int .i64 v.sel.index,.slice a2 m2 c2,.slice a3 m3 c3]:Array Value).all (·.oneCell')=true:=all_oneCell_toArray (cs:=[.int .i64 A,.int .i64 v.number,.int .i64 v.pos,.string ⟨v.prev.toArray⟩,.slice a1 m1 c1,.int .i64 v.sel.index,.slice a2 m2 c2,.slice a3 m3 c3]) (by
   intro u hu
   simp only [List.mem_cons,List.not_mem_nil,or_false] at hu
   rcases hu with rfl|rfl|rfl|rfl|rfl|rfl|rfl|rfl <;> rfl)
  refine rk 10 rfl (fun K hK=>?_)
  rw [if_pos (by rfl)]
  refine wp_store_mid 29 _ _ rfl W1.heap.size 0 #[.int .i64 A,.int .i64 v.number,.int .i64 v.pos,.string ⟨v.prev.toArray⟩,.slice a1 m1 c1,.int .i64 v.sel.index,.slice a2 m2 c2,.slice a3 m3 c3] rfl rfl hth hi8 hall ?_
  refine hK.out _ _ (SC.out _ (CF.out _ _ hcl (Far.setCells nR _ _ (Far.refl _ _)))) (fun hHeld=>?_)
  clear hK K
  (try simp only [Act.put,pA,pB,pC])
  refine tk 11 (v:=.bool true) rfl (by rfl) hHeld ?_ ?_
  ·intro W hSw
   (try dsimp only at hSw)
   go_simp
  (try simp only [Act.put,pA,pB,pC])
  refine wpAnyH_done (by kernel_rfl) (NoPanic.normal ?_) _
  have h00:Held [r1] w w':=(Held.of_below hB4).trans ((Held.of_below (hBz _)).trans hh)
  have hBF:Below w.heap.size w' (w'.setCells W1.heap.size 0 #[.int .i64 A,.int .i64 v.number,.int .i64 v.pos,.string ⟨v.prev.toArray⟩,.slice a1 m1 c1,.int .i64 v.sel.index,.slice a2 m2 c2,.slice a3 m3 c3].toList):=Au (Below.refl w.heap.size w') hB4.size _ 0
  have hfin:Held [r1] w (w'.setCells W1.heap.size 0 #[.int .i64 A,.int .i64 v.number,.int .i64 v.pos,.string ⟨v.prev.toArray⟩,.slice a1 m1 c1,.int .i64 v.sel.index,.slice a2 m2 c2,.slice a3 m3 c3].toList):=⟨hBF.os.trans h00.os,hBF.tape.trans h00.tape,hBF.output.trans h00.output,nT h00.size hBF.size,fun k hk hr=>(hBF.block k hk).trans (h00.block k hk hr)⟩
  have hmm:Hid (A6 Al r1 (w'.setCells W1.heap.size 0 #[.int .i64 A,.int .i64 v.number,.int .i64 v.pos,.string ⟨v.prev.toArray⟩,.slice a1 m1 c1,.int .i64 v.sel.index,.slice a2 m2 c2,.slice a3 m3 c3].toList) (kvs++[((v.authority,v.number),.agg (Ac v ⟨.slice a1 m1 c1,.slice a2 m2 c2,.slice a3 m3 c3⟩).toArray)])):=hid (by
   dsimp only [Ac]
   rw [hA.out]
   exact hmm.same (hBF.block r1 hr1))
  have hfin:=hid hfin
  clear hcl hHeld hBF hz hth
  generalize w'.setCells W1.heap.size 0 _=Y at *
  go_wp2
  go_ret
  refine⟨rfl,?_,hfin.out.mono (by simp)⟩
  have:=chainAt_put (p:=(v.authority,v.number)) HC.out (HV.out w (Below.refl _ _)) hfin.out hm00.out hkv0.out hmm.out
  rw [hA.out] at this
  exact this
end
section
open Go.Lib Go.Proofs.Tryz Go.RowKit Go.Shelf Go.Sort
attribute [local irreducible] wpQuiet
theorem tail_split {T G:World→Nat→Prop} {H:Prop} (h1:(∀ Y oB,T Y oB→G Y oB)→H) (h2:∀ Y oB,T Y oB→G Y oB):H:=h1 h2
theorem bareV_form (x:Option (List UInt8)):∃ b,bareV x=.tuple #[.string ⟨(x.getD []).toArray⟩,.bool b]:=by
 cases x <;> exact⟨_,rfl⟩
theorem chainAt_fork {c r1 r2:Nat} {keys:List (List UInt8)} {known:CH.Known} {forks:CH.Forks} {v old:CH.Version} {s so:VerV} {w w':World} {p:Int × Int} {kvs:List ((Int × Int) × Value)} (hC:ChainAt w c r1 r2 keys known forks) (hv:VerAt w.heap.size w v s) (ho:VerAt w.heap.size w old so) (hH:Held [r2] w w')
  (hm0:A6 Al r2 w kvs) (hkv:FKVs w.heap.size w kvs forks) (hm:A6 Al r2 w' (kvs++[(p,.agg (Ac old so++Ac v s).toArray)])):ChainAt w' c r1 r2 keys known (forks++[(p,(old,v))]):=by
 obtain⟨vk,h1,h2⟩:=hC.ex
 obtain⟨k1,h5,h6⟩:=hC.known
 have hmm:=hm0
 obtain⟨es,ck,e1,_⟩:=hmm
 have hcc:Cells w w':=hH.cells fun r hr=>by
  cases List.mem_singleton.1 hr
  exact⟨es,ck,e1⟩
 have hcr:c ∉ [r2]:=fun h=>by
  cases List.mem_singleton.1 h
  rw [h1] at e1
  cases e1
 have hr1:r1 ∉ [r2]:=fun h=>hC.ne (List.mem_singleton.1 h)
 refine⟨⟨vk,(hH.block c (aZ h1) hcr).trans h1,(h2.kept hcc).mono hH.size⟩,⟨k1,h5.same (hH.block r1 h5.lt hr1),h6.imp fun _ _ h=>(h.kept hcc).mono hH.size⟩,⟨_,hm,?_⟩,hC.ne⟩
 exact FKVs.snoc (f:=(old,v)) ⟨so,s,rfl,(ho.kept hcc).mono hH.size,(hv.kept hcc).mono hH.size⟩ (hkv.imp fun _ _ h=>(h.kept hcc).mono hH.size)
theorem addWalk_old (c r1 r2:Nat) (keys:List (List UInt8)) (known:CH.Known) (forks:CH.Forks) (v:CH.Version) (s:VerV) (w:World) (hG:Gc w) (hC:ChainAt w c r1 r2 keys known forks) (hv:VerAt w.heap.size w v s) (t:List UInt8) (ht:CH.vText v=.ok t) (ha:v.authority<(keys.length:Int)) (hk:chkV v (keys.getD v.authority.toNat [])=true) (old:CH.Version) (hl:CH.lookK (v.authority,v.number) known=some old) :
  Calls prog 13 #[.pointer (some ⟨c,0,none⟩),.agg (Ac v s).toArray] w (AddRet w c r1 r2 keys (if (CH.bare old).getD []==(CH.bare v).getD [] then (0,known,forks) else (17,known,CH.addFork (v.authority,v.number) (old,v) forks))):=by
 obtain⟨RX,hRX⟩:∃ X:Int × CH.Known × CH.Forks,Hid ((if (CH.bare old).getD []==(CH.bare v).getD [] then (0,known,forks) else (17,known,CH.addFork (v.authority,v.number) (old,v) forks))=X):=⟨_,hid rfl⟩
 rw [hRX.out]
 have hn:=CH.vText_nums ht
 have hB0:=fun o=>(Below.refl _ w).alloc nR o
 have HV:=hid fun (W:World) (hb:Below w.heap.size w W)=>(hv.below hb nR).mono hb.size
 have T:=fun (W:World) (hb:Below w.heap.size w W)=>Dk v s W (hG.below hb) (HV.out W hb)
 rw [ht] at T
 obtain⟨vk,hb00,hks⟩:=hC.ex
 obtain⟨ak,ck,rfl,_,_,hks⟩:=hks
 obtain⟨A,hA⟩:∃ A:Nat,v.authority=A:=⟨v.authority.toNat,by omega⟩
 have hAt:v.authority.toNat=A:=by omega
 rw [hAt] at hk
 rw [hA] at ha
 have hAl:A<keys.length:=by omega
 obtain⟨key,hkey⟩:∃ key,keys[A]?=some key:=⟨_,lZ hAl⟩
 have hgd:keys.getD A []=key:=by simp [hkey]
 rw [hgd] at hk
 obtain⟨bk,ok,rfl,hbk,hkc⟩:=hks (fun e=>by rw [e] at hAl;simp at hAl)
 have hkc:=hkc A key hkey
 have C:=fun (W:World) (hb:Below w.heap.size w W)=>check_any v s key W (hG.below hb) (HV.out W hb)
 rw [hk] at C
 obtain⟨va,v1,v2⟩:=s
 dsimp only [Ac,resV] at T C ⊢
 rw [hA] at T C ⊢
 have T:=hid T
 have C:=hid C
 have HC:=hid hC
 have hclt:c<w.heap.size:=(aZ hb00)
 have HS:=hid hv.small
 have hAt:=hid hAt
 have hA:=hid hA
 generalize keys.length=N at *
 have q:decide ((N:Int)≤(A:Int))=false:=by simp;omega
 have z0:(0:Int)≤(A:Int):=by omega
 have zA:((A:Int)).toNat=A:=by omega
 have ha':(A:Int)<(N:Int):=by omega
 clear hC hv hks hkey hgd hk hn
 replace hb00:=hid hb00
 replace ht:=hid ht
 go_enter func13,ntmps13
 go_wp2_with fail
 refine (T.out _ (hB0 _)).mono ?_
 rintro e w1 ⟨rfl,hb1⟩
 have hB1:Below w.heap.size w w1:=(hB0 _).trans (hb1.mono (by simp))
 have hblk:=(hb1.block w.heap.size (by simp)).trans (heap_alloc_last w _)
 have hlt1:w.heap.size<w1.heap.size:=(aZ hblk)
 have k0:w1.cell? ⟨w.heap.size,0,none⟩=some (.int .i64 A):=cell_of hblk 0
 have kc:w1.cell? ⟨c,0,none⟩=some (.slice (some ⟨bk,ok,none⟩) N ck):=cell_of ((hB1.block c hclt).trans hb00.out) 0
 have g0:∀ (d:Nat) (os:Array Obj),(grow (redrawn w1 d) os).cell? ⟨w.heap.size,0,none⟩=some (.int .i64 A):=cell_regrown k0
 have gc:∀ (d:Nat) (os:Array Obj),(grow (redrawn w1 d) os).cell? ⟨c,0,none⟩=some (.slice (some ⟨bk,ok,none⟩) N ck):=cell_regrown kc
 clear T hb1 k0 kc
 go_wp2_with fail
 refine wp_region_quiet_below (by kernel_rfl) (by kernel_rfl) ?_
 repeat (quiet_step (fail))
 refine wpQuiet_nil ?_
 intro wq hbq
 replace hbq:=Ae hbq
 clear g0 gc
 have hB2:=hB1.trans (hbq.mono hB1.size)
 replace hblk:=(hbq.block w.heap.size hlt1).trans hblk
 have hlt2:w.heap.size<wq.heap.size:=(aZ hblk)
 clear hbq
 have C2:=hid fun (W:World) (hb:Below wq.heap.size wq W)=>C.out W (hB2.trans (hb.mono hB2.size))
 obtain⟨X,hX⟩:∃ X,X=wq:=⟨_,rfl⟩
 rw [← hX] at hB2 hblk hlt2 C2 ⊢
 have g0:∀ (d:Nat) (os:Array Obj),(grow (redrawn X d) os).cell? ⟨w.heap.size,0,none⟩=some (.int .i64 A):=cell_regrown (cell_of hblk 0)
 have g1:∀ (d:Nat) (os:Array Obj),(grow (redrawn X d) os).cell? ⟨w.heap.size,1,none⟩=some (.int .i64 v.number):=cell_regrown (cell_of hblk 1)
 have g2:∀ (d:Nat) (os:Array Obj),(grow (redrawn X d) os).cell? ⟨w.heap.size,2,none⟩=some (.int .i64 v.pos):=cell_regrown (cell_of hblk 2)
 have g3:∀ (d:Nat) (os:Array Obj),(grow (redrawn X d) os).cell? ⟨w.heap.size,3,none⟩=some (.string ⟨v.prev.toArray⟩):=cell_regrown (cell_of hblk 3)
 have g4:∀ (d:Nat) (os:Array Obj),(grow (redrawn X d) os).cell? ⟨w.heap.size,4,none⟩=some va:=cell_regrown (cell_of hblk 4)
 have g5:∀ (d:Nat) (os:Array Obj),(grow (redrawn X d) os).cell? ⟨w.heap.size,5,none⟩=some (.int .i64 v.sel.index):=cell_regrown (cell_of hblk 5)
 have g6:∀ (d:Nat) (os:Array Obj),(grow (redrawn X d) os).cell? ⟨w.heap.size,6,none⟩=some v1:=cell_regrown (cell_of hblk 6)
 have g7:∀ (d:Nat) (os:Array Obj),(grow (redrawn X d) os).cell? ⟨w.heap.size,7,none⟩=some v2:=cell_regrown (cell_of hblk 7)
 have gc:∀ (d:Nat) (os:Array Obj),(grow (redrawn X d) os).cell? ⟨c,0,none⟩=some (.slice (some ⟨bk,ok,none⟩) N ck):=cell_regrown (cell_of ((hB2.block c hclt).trans hb00.out) 0)
 have gk:∀ (d:Nat) (os:Array Obj),(grow (redrawn X d) os).cell? ⟨bk,ok+A,none⟩=some (.string ⟨key.toArray⟩):=cell_regrown ((hB2.cell (p:=⟨bk,ok+A,none⟩) hbk).trans hkc)
 clear hX C w1 hB1 hlt1
 go_wp2_with fail
 refine wp_region_quiet_below (by kernel_rfl) (by kernel_rfl) ?_
 repeat (quiet_step ((with_reducible exact Calls.regrown_of (C2.out _ (below_regrown _ _ _)))))
 refine wpQuiet_nil ?_
 intro wq hbq
 replace hbq:=Ae hbq
 clear g0 g1 g2 g3 g4 g5 g6 g7 gc gk
 have hB3:=hB2.trans (hbq.mono hB2.size)
 replace hblk:=(hbq.block w.heap.size hlt2).trans hblk
 have hlt3:w.heap.size<wq.heap.size:=(aZ hblk)
 clear C2 hbq hlt2 hB2
 obtain⟨a1,m1,c1,a2,m2,c2,a3,m3,c3,hsl⟩:=(HV.out w (Below.refl _ _)).sl
 simp only [VerV.mk.injEq] at hsl
 obtain⟨rfl,rfl,rfl⟩:=hsl
 have k0:wq.cell? ⟨w.heap.size,0,none⟩=some (.int .i64 A):=cell_of hblk 0
 have k1:wq.cell? ⟨w.heap.size,1,none⟩=some (.int .i64 v.number):=cell_of hblk 1
 go_upto_region 7 with (fail)
 obtain⟨kvs,hm0,hkv0⟩:=HC.out.known
 obtain⟨jj,so,hf0,hos⟩:=hkv0.some 0 hl
 obtain⟨b1,n1,d1,b2,n2,d2,b3,n3,d3,hslo⟩:=hos.sl
 subst hslo
 obtain⟨W1,hW1⟩:∃ W1,wq.alloc (.cells #[.int .i64 A,.int .i64 v.number] 89)=W1:=⟨_,rfl⟩
 have hB4':Below wq.heap.size wq W1:=by rw [← hW1];exact (Below.refl _ wq).alloc nR _
 have hpl:W1.heap[wq.heap.size]?=some (.cells #[.int .i64 A,.int .i64 v.number] 89 (0,0)):=by rw [← hW1];exact heap_alloc_last wq _
 rw [hW1]
 clear hW1 k0 k1
 have hB4:Below w.heap.size w W1:=hB3.trans (hB4'.mono hB3.size)
 have hvb:=(hB4'.block w.heap.size hlt3).trans hblk
 have hP1:w.heap.size<W1.heap.size:=(aZ hvb)
 have hP2:wq.heap.size<W1.heap.size:=(aZ hpl)
 have hc1:w.cell? ⟨c,1,none⟩=some (.map (some r1)):=cell_of hb00.out 1
 have hr1:=hm0.lt
 have PC:=hid fun (W:World) (hb:Below W1.heap.size W1 W)=>putOld_any c 1 r1 (v.authority,v.number) v old ⟨.slice a1 m1 c1,.slice a2 m2 c2,.slice a3 m3 c3⟩ ⟨.slice b1 n1 d1,.slice b2 n2 d2,.slice b3 n3 d3⟩ kvs jj W (((hB4.trans (hb.mono hB4.size)).cell (p:=⟨c,1,none⟩) hclt).trans hc1) (hm0.below (hB4.trans (hb.mono hB4.size))) hf0 ((hos.below (hB4.trans (hb.mono hB4.size)) nR).mono (hB4.trans (hb.mono hB4.size)).size) (HV.out W (hB4.trans (hb.mono hB4.size)))
 dsimp only [Ac,Al] at PC
 rw [hA.out] at PC
 have SC:∀ W',Cells W1 W'→W'.cell? ⟨wq.heap.size,0,none⟩=some (.int .i64 A)∧W'.cell? ⟨wq.heap.size,1,none⟩=some (.int .i64 v.number)∧W'.cell? ⟨w.heap.size,0,none⟩=some (.int .i64 A)∧W'.cell? ⟨w.heap.size,1,none⟩=some (.int .i64 v.number)∧W'.cell? ⟨w.heap.size,2,none⟩=some (.int .i64 v.pos)∧W'.cell? ⟨w.heap.size,3,none⟩=some (.string ⟨v.prev.toArray⟩)∧W'.cell? ⟨w.heap.size,4,none⟩=some (.slice a1 m1 c1)∧W'.cell? ⟨w.heap.size,5,none⟩=some (.int .i64 v.sel.index)∧W'.cell? ⟨w.heap.size,6,none⟩=some (.slice a2 m2 c2)∧W'.cell? ⟨w.heap.size,7,none⟩=some (.slice a3 m3 c3):=fun W' h =>
  ⟨h _ _ (cell_of hpl 0),h _ _ (cell_of hpl 1),h _ _ (cell_of hvb 0),h _ _ (cell_of hvb 1),h _ _ (cell_of hvb 2),h _ _ (cell_of hvb 3),h _ _ (cell_of hvb 4),h _ _ (cell_of hvb 5),h _ _ (cell_of hvb 6),h _ _ (cell_of hvb 7)⟩
 have hBd:Below W1.heap.size W1 W1.drew:=(Below.refl _ W1).drew
 have hBz:=fun o=>((Below.refl _ W1).alloc nR o).drew
 have CF:Hid (∀ w' w'',Cells W1 w'→Far W1.heap.size w' w''→Cells W1 w''):=hid fun w' w'' h1 h2 p u hp=>h2 p u (World.block_lt_of_cell? W1 p hp) (h1 p u hp)
 have SC:=hid SC
 have hOS:=hid fun (W:World) (hb:Below w.heap.size w W)=>(hos.below hb nR).mono hb.size
 have hl:=hid hl
 have hf0:=hid hf0
 have hkv0:=hid hkv0
 have hm0:=hid hm0
 have hi8:(prog.info? 29).map (·.size)=some 8:=by kernel_rfl
 clear hos hblk hB3 hB4' hc1
 apply tail_split (T:=fun (Y:World) (oB:Nat)=>Hid (Below w.heap.size w Y)∧Hid (Y.heap[w.heap.size]?=some (.cells #[.int .i64 A,.int .i64 v.number,.int .i64 v.pos,.string ⟨v.prev.toArray⟩,.slice a1 m1 c1,.int .i64 v.sel.index,.slice a2 m2 c2,.slice a3 m3 c3] 29 (0,0)))∧Hid (Y.heap[wq.heap.size]?=some (.cells #[.int .i64 A,.int .i64 v.number] 89 (0,0)))∧Hid (Y.rangeAt oB 0 [.int .i64 old.authority,.int .i64 old.number,.int .i64 old.pos,.string ⟨old.prev.toArray⟩,.slice b1 n1 d1,.int .i64 old.sel.index,.slice b2 n2 d2,.slice b3 n3 d3]))
 ·intro TAIL
  refine wp_region_noPanic ?_
  refine wp_region_held_drew (S:=(fun W'=>W'.cell? ⟨wq.heap.size,0,none⟩=some (.int .i64 A)∧W'.cell? ⟨wq.heap.size,1,none⟩=some (.int .i64 v.number)∧W'.cell? ⟨w.heap.size,0,none⟩=some (.int .i64 A)∧W'.cell? ⟨w.heap.size,1,none⟩=some (.int .i64 v.number)∧W'.cell? ⟨w.heap.size,2,none⟩=some (.int .i64 v.pos)∧W'.cell? ⟨w.heap.size,3,none⟩=some (.string ⟨v.prev.toArray⟩)∧W'.cell? ⟨w.heap.size,4,none⟩=some (.slice a1 m1 c1)∧W'.cell? ⟨w.heap.size,5,none⟩=some (.int .i64 v.sel.index)∧W'.cell? ⟨w.heap.size,6,none⟩=some (.slice a2 m2 c2)∧W'.cell? ⟨w.heap.size,7,none⟩=some (.slice a3 m3 c3))) (by kernel_rfl) (SC.out _ (Cells.of_below hBd)) (fun hHeld=>?_)
  refine tk 0 (v:=.pointer (some ⟨c,0,none⟩)) rfl (by rfl) hHeld ?_ ?_
  ·intro W hSw
   (try dsimp only at hSw)
   go_simp
  (try simp only [Act.put,pA,pB,pC])
  refine tk 1 (v:=.pointer (some ⟨c,0,none⟩)) rfl (by rfl) hHeld ?_ ?_
  ·intro W hSw
   (try dsimp only at hSw)
   go_simp
  (try simp only [Act.put,pA,pB,pC])
  refine tk 2 (v:=.pointer (some ⟨c,1,none⟩)) rfl (by rfl) hHeld ?_ ?_
  ·intro W hSw
   (try dsimp only at hSw)
   go_simp
  (try simp only [Act.put,pA,pB,pC])
  refine tk 3 (v:=.agg #[.int .i64 A,.int .i64 v.number]) rfl (by rfl) hHeld ?_ ?_
  ·intro W hSw
   (try dsimp only at hSw)
   go_simp
  (try simp only [Act.put,pA,pB,pC])
  refine tk 4 (v:=.agg #[.int .i64 A,.int .i64 v.number,.int .i64 v.pos,.string ⟨v.prev.toArray⟩,.slice a1 m1 c1,.int .i64 v.sel.index,.slice a2 m2 c2,.slice a3 m3 c3]) rfl (by rfl) hHeld ?_ ?_
  ·intro W hSw
   (try dsimp only at hSw)
   go_simp
  (try simp only [Act.put,pA,pB,pC])
  refine wpAnyH_ready (rs:=[5,9]) (by kernel_rfl) (by simp) ?_
  refine AllReadyH.cons (o:=_) rfl (fun K hK=>?_) ?_
  ·go_simp
   refine (PC.out _ hBd).mono ?_
   rintro e w' ⟨rfl,hh⟩
   have hcl:Cells W1 w':=(Cells.of_below hBd).trans (Cells.of_below hh)
   go_wp2_with fail
   refine hK.out _ _ (SC.out _ hcl) (fun hHeld=>?_)
   clear hK K
   (try simp only [Act.put,pA,pB,pC])
   refine tk 6 (v:=.tuple #[.agg #[.int .i64 old.authority,.int .i64 old.number,.int .i64 old.pos,.string ⟨old.prev.toArray⟩,.slice b1 n1 d1,.int .i64 old.sel.index,.slice b2 n2 d2,.slice b3 n3 d3],.bool false]) rfl (by rfl) hHeld ?_ ?_
   ·intro W hSw
    (try dsimp only at hSw)
    go_simp
   (try simp only [Act.put,pA,pB,pC])
   refine tk 7 (v:=.agg #[.int .i64 old.authority,.int .i64 old.number,.int .i64 old.pos,.string ⟨old.prev.toArray⟩,.slice b1 n1 d1,.int .i64 old.sel.index,.slice b2 n2 d2,.slice b3 n3 d3]) rfl (by rfl) hHeld ?_ ?_
   ·intro W hSw
    (try dsimp only at hSw)
    go_simp
   (try simp only [Act.put,pA,pB,pC])
   refine tk 8 (v:=.bool false) rfl (by rfl) hHeld ?_ ?_
   ·intro W hSw
    (try dsimp only at hSw)
    go_simp
   (try simp only [Act.put,pA,pB,pC])
   refine rk 9 rfl (fun K hK=>?_)
   go_simp
   refine hK.out _ _ (SC.out _ (hcl.trans (Cells.of_below ((Below.refl _ _).alloc nR _)))) (fun hHeld=>?_)
   clear hK K
   (try simp only [Act.put,pA,pB,pC])
   refine rk 10 rfl (fun K hK=>?_)
   go_simp
   refine hK.out _ _ (SC.out _ (hcl.trans (Cells.of_below ((Below.refl _ _).alloc nR _)))) (fun hHeld=>?_)
   clear hK K
   (try simp only [Act.put,pA,pB,pC])
   refine tk 11 (v:=.bool false) rfl (by rfl) hHeld ?_ ?_
   ·intro W hSw
    (try dsimp only at hSw)
    go_simp
   (try simp only [Act.put,pA,pB,pC])
   refine wpAnyH_done (by kernel_rfl) (NoPanic.normal ?_) _
   have hbAll:Below W1.heap.size W1 (w'.alloc (.cells #[.int .i64 old.authority,.int .i64 old.number,.int .i64 old.pos,.string ⟨old.prev.toArray⟩,.slice b1 n1 d1,.int .i64 old.sel.index,.slice b2 n2 d2,.slice b3 n3 d3] 29)):=(hBd.trans (hh.mono hBd.size)).alloc (hBd.trans (hh.mono hBd.size)).size _
   have hYo:=Bl w' [.int .i64 old.authority,.int .i64 old.number,.int .i64 old.pos,.string ⟨old.prev.toArray⟩,.slice b1 n1 d1,.int .i64 old.sel.index,.slice b2 n2 d2,.slice b3 n3 d3] 29
   have hY:=hid (hB4.trans (hbAll.mono hB4.size))
   have hYv:=hid ((hbAll.block _ hP1).trans hvb)
   have hYp:=hid ((hbAll.block _ hP2).trans hpl)
   have hYo:=hid hYo
   clear hcl hHeld hbAll
   generalize w'.alloc (.cells #[.int .i64 old.authority,.int .i64 old.number,.int .i64 old.pos,.string ⟨old.prev.toArray⟩,.slice b1 n1 d1,.int .i64 old.sel.index,.slice b2 n2 d2,.slice b3 n3 d3] 29)=Y at *
   generalize w'.heap.size=oB at *
   clear hh
   exact TAIL Y oB ⟨hY,hYv,hYp,hYo⟩
  ·refine AllReadyH.cons (o:=_) rfl (fun K hK=>?_) AllReadyH.nil
   go_simp
   refine hK.out _ _ (SC.out _ (Cells.of_below (hBz _))) (fun hHeld=>?_)
   clear hK K
   (try simp only [Act.put,pA,pB,pC])
   refine rk 5 rfl (fun K hK=>?_)
   go_simp
   refine (PC.out _ (hBz _)).mono ?_
   rintro e w' ⟨rfl,hh⟩
   have hcl:Cells W1 w':=(Cells.of_below (hBz _)).trans (Cells.of_below hh)
   go_wp2_with fail
   refine hK.out _ _ (SC.out _ hcl) (fun hHeld=>?_)
   clear hK K
   (try simp only [Act.put,pA,pB,pC])
   refine tk 6 (v:=.tuple #[.agg #[.int .i64 old.authority,.int .i64 old.number,.int .i64 old.pos,.string ⟨old.prev.toArray⟩,.slice b1 n1 d1,.int .i64 old.sel.index,.slice b2 n2 d2,.slice b3 n3 d3],.bool false]) rfl (by rfl) hHeld ?_ ?_
   ·intro W hSw
    (try dsimp only at hSw)
    go_simp
   (try simp only [Act.put,pA,pB,pC])
   refine tk 7 (v:=.agg #[.int .i64 old.authority,.int .i64 old.number,.int .i64 old.pos,.string ⟨old.prev.toArray⟩,.slice b1 n1 d1,.int .i64 old.sel.index,.slice b2 n2 d2,.slice b3 n3 d3]) rfl (by rfl) hHeld ?_ ?_
   ·intro W hSw
    (try dsimp only at hSw)
    go_simp
   (try simp only [Act.put,pA,pB,pC])
   refine tk 8 (v:=.bool false) rfl (by rfl) hHeld ?_ ?_
   ·intro W hSw
    (try dsimp only at hSw)
    go_simp
   (try simp only [Act.put,pA,pB,pC])
   have hz:w'.heap[W1.heap.size]?=some (.cells #[.int .i64 0,.int .i64 0,.int .i64 0,.string ⟨#[]⟩,.slice none 0 0,.int .i64 0,.slice none 0 0,.slice none 0 0] 29):=(hh.block W1.heap.size (by show W1.heap.size<(W1.alloc (.cells #[.int .i64 0,.int .i64 0,.int .i64 0,.string ⟨#[]⟩,.slice none 0 0,.int .i64 0,.slice none 0 0,.slice none 0 0] 29)).heap.size;simp)).trans (heap_alloc_last W1 (.cells #[.int .i64 0,.int .i64 0,.int .i64 0,.string ⟨#[]⟩,.slice none 0 0,.int .i64 0,.slice none 0 0,.slice none 0 0] 29))
   have hth:w'.there W1.heap.size 0 8:=fun j hj=>by
    refine⟨?_,Aj hz _⟩
    rw [Nat.zero_add,cell_of hz j]
    rcases (by omega:j=0∨j=1∨j=2∨j=3∨j=4∨j=5∨j=6∨j=7) with rfl|rfl|rfl|rfl|rfl|rfl|rfl|rfl <;> rfl
   have hall:(#[.int .i64 old.authority,.int .i64 old.number,.int .i64 old.pos,.string ⟨old.prev.toArray⟩,.slice b1 n1 d1,.int .i64 old.sel.index,.slice b2 n2 d2,.slice b3 n3 d3]:Array Value).all (·.oneCell')=true:=all_oneCell_toArray (cs:=[.int .i64 old.authority,.int .i64 old.number,.int .i64 old.pos,.string ⟨old.prev.toArray⟩,.slice b1 n1 d1,.int .i64 old.sel.index,.slice b2 n2 d2,.slice b3 n3 d3]) (by
    intro u hu
    simp only [List.mem_cons,List.not_mem_nil,or_false] at hu
    rcases hu with rfl|rfl|rfl|rfl|rfl|rfl|rfl|rfl <;> rfl)
   refine rk 10 rfl (fun K hK=>?_)
   rw [if_pos (by rfl)]
   refine wp_store_mid 29 _ _ rfl W1.heap.size 0 #[.int .i64 old.authority,.int .i64 old.number,.int .i64 old.pos,.string ⟨old.prev.toArray⟩,.slice b1 n1 d1,.int .i64 old.sel.index,.slice b2 n2 d2,.slice b3 n3 d3] rfl rfl hth hi8 hall ?_
   refine hK.out _ _ (SC.out _ (CF.out _ _ hcl (Far.setCells nR _ _ (Far.refl _ _)))) (fun hHeld=>?_)
   clear hK K
   (try simp only [Act.put,pA,pB,pC])
   refine tk 11 (v:=.bool false) rfl (by rfl) hHeld ?_ ?_
   ·intro W hSw
    (try dsimp only at hSw)
    go_simp
   (try simp only [Act.put,pA,pB,pC])
   refine wpAnyH_done (by kernel_rfl) (NoPanic.normal ?_) _
   have hbw:Below W1.heap.size W1 w':=(hBz _).trans (hh.mono (hBz _).size)
   have hbAll:Below W1.heap.size W1 (w'.setCells W1.heap.size 0 #[.int .i64 old.authority,.int .i64 old.number,.int .i64 old.pos,.string ⟨old.prev.toArray⟩,.slice b1 n1 d1,.int .i64 old.sel.index,.slice b2 n2 d2,.slice b3 n3 d3].toList):=Au hbw nR _ 0
   have hYo:=World.rangeAt_setCells_same w' W1.heap.size 0 [.int .i64 old.authority,.int .i64 old.number,.int .i64 old.pos,.string ⟨old.prev.toArray⟩,.slice b1 n1 d1,.int .i64 old.sel.index,.slice b2 n2 d2,.slice b3 n3 d3] hth
   have hY:=hid (hB4.trans (hbAll.mono hB4.size))
   have hYv:=hid ((hbAll.block _ hP1).trans hvb)
   have hYp:=hid ((hbAll.block _ hP2).trans hpl)
   have hYo:=hid hYo
   clear hcl hHeld hbAll
   clear hbw hz hth hall hh
   generalize w'.setCells W1.heap.size 0 _=Y at *
   generalize W1.heap.size=oB at *
   exact TAIL Y oB ⟨hY,hYv,hYp,hYo⟩
 ·rintro Y oB ⟨hY,hYv,hYp,hYo⟩
  clear PC SC CF hBd hBz hP1 hP2 hvb hpl hB4 hf0 hm0 hkv0
  have hi8':(prog.info? 29).map (·.size)=some (Ac old ⟨.slice b1 n1 d1,.slice b2 n2 d2,.slice b3 n3 d3⟩).length:=hi8
  obtain⟨bo,hbo⟩:=bareV_form (CH.bare old)
  obtain⟨bv,hbv⟩:=bareV_form (CH.bare v)
  have BO:=bare_any old ⟨.slice b1 n1 d1,.slice b2 n2 d2,.slice b3 n3 d3⟩ Y (hG.below hY.out) (hOS.out Y hY.out)
  have BV:=fun (W:World) (hb:Below w.heap.size w W)=>bare_any v ⟨.slice a1 m1 c1,.slice a2 m2 c2,.slice a3 m3 c3⟩ W (hG.below hb) (HV.out W hb)
  rw [hbo] at BO
  rw [hbv] at BV
  dsimp only [Ac] at BO BV hi8'
  rw [hA.out] at BV
  have BO:=hid BO
  have BV:=hid BV
  obtain⟨tO,hTO⟩:∃ t,Hid ((CH.bare old).getD []=t):=⟨_,hid rfl⟩
  obtain⟨tV,hTV⟩:∃ t,Hid ((CH.bare v).getD []=t):=⟨_,hid rfl⟩
  rw [hTO.out] at BO
  rw [hTV.out] at BV
  rw [hTO.out,hTV.out] at hRX
  clear hbo hbv
  go_wp2_with (refine wpList_load_mid rfl 29 _ rfl oB 0 rfl [.int .i64 old.authority,.int .i64 old.number,.int .i64 old.pos,.string ⟨old.prev.toArray⟩,.slice b1 n1 d1,.int .i64 old.sel.index,.slice b2 n2 d2,.slice b3 n3 d3] _ hYo.out underlying29 rfl hi8' ?_)
  refine BO.out.mono ?_
  rintro e w2 ⟨rfl,hb2⟩
  have hY2:=hid (hY.out.trans (hb2.mono hY.out.size))
  have hv2:=(hb2.block _ (aZ hYv.out)).trans hYv.out
  have hrv:w2.rangeAt w.heap.size 0 [.int .i64 A,.int .i64 v.number,.int .i64 v.pos,.string ⟨v.prev.toArray⟩,.slice a1 m1 c1,.int .i64 v.sel.index,.slice a2 m2 c2,.slice a3 m3 c3]:=fun j u hj=>by
   rw [Nat.zero_add,cell_of hv2 j]
   simpa using hj
  have hrv:=hid hrv
  have hb2:=hid hb2
  clear BO hv2
  go_wp2_with (refine wpList_load_mid rfl 29 _ rfl w.heap.size 0 rfl [.int .i64 A,.int .i64 v.number,.int .i64 v.pos,.string ⟨v.prev.toArray⟩,.slice a1 m1 c1,.int .i64 v.sel.index,.slice a2 m2 c2,.slice a3 m3 c3] _ hrv.out underlying29 rfl hi8' ?_)
  refine (BV.out _ hY2.out).mono ?_
  rintro e w3 ⟨rfl,hb3⟩
  have hY3:=hid (hY2.out.trans (hb3.mono hY2.out.size))
  have hYb:=hid (hb2.out.trans (hb3.mono hb2.out.size))
  clear BV hb3 hrv hb2 hY2
  cases hq:(tO==tV) with
  | true =>
   have q:((⟨tO.toArray⟩:ByteArray)==⟨tV.toArray⟩)=true:=by rw [Cm];exact hq
   have hRX:=hRX.out
   rw [hq,if_pos rfl] at hRX
   subst hRX
   go_wp2
   go_ret
   exact⟨rfl,HC.out.below hY3.out,Held.of_below hY3.out⟩
  | false =>
   have q:((⟨tO.toArray⟩:ByteArray)==⟨tV.toArray⟩)=false:=by rw [Cm];exact hq
   have hRX:=hRX.out
   rw [hq,if_neg (by decide)] at hRX
   have hRX:=hid hRX
   have hYc:Cells Y w3:=Cells.of_below hYb.out
   have SC2:=hid fun (W':World) (h:Cells w3 W')=>(⟨h _ _ (hYc _ _ (cell_of hYp.out 0)),h _ _ (hYc _ _ (cell_of hYp.out 1)),h _ _ (hYc _ _ (hYo.out 0 _ rfl)),h _ _ (hYc _ _ (hYo.out 1 _ rfl)),h _ _ (hYc _ _ (hYo.out 2 _ rfl)),h _ _ (hYc _ _ (hYo.out 3 _ rfl)),h _ _ (hYc _ _ (hYo.out 4 _ rfl)),h _ _ (hYc _ _ (hYo.out 5 _ rfl)),h _ _ (hYc _ _ (hYo.out 6 _ rfl)),h _ _ (hYc _ _ (hYo.out 7 _ rfl)),h _ _ (hYc _ _ (cell_of hYv.out 0)),h _ _ (hYc _ _ (cell_of hYv.out 1)),h _ _ (hYc _ _ (cell_of hYv.out 2)),h _ _ (hYc _ _ (cell_of hYv.out 3)),h _ _ (hYc _ _ (cell_of hYv.out 4)),h _ _ (hYc _ _ (cell_of hYv.out 5)),h _ _ (hYc _ _ (cell_of hYv.out 6)),h _ _ (hYc _ _ (cell_of hYv.out 7))⟩:W'.cell? ⟨wq.heap.size,0,none⟩=some (.int .i64 A)∧W'.cell? ⟨wq.heap.size,1,none⟩=some (.int .i64 v.number)∧W'.cell? ⟨oB,0,none⟩=some (.int .i64 old.authority)∧W'.cell? ⟨oB,1,none⟩=some (.int .i64 old.number)∧W'.cell? ⟨oB,2,none⟩=some (.int .i64 old.pos)∧W'.cell? ⟨oB,3,none⟩=some (.string ⟨old.prev.toArray⟩)∧W'.cell? ⟨oB,4,none⟩=some (.slice b1 n1 d1)∧W'.cell? ⟨oB,5,none⟩=some (.int .i64 old.sel.index)∧W'.cell? ⟨oB,6,none⟩=some (.slice b2 n2 d2)∧W'.cell? ⟨oB,7,none⟩=some (.slice b3 n3 d3)∧W'.cell? ⟨w.heap.size,0,none⟩=some (.int .i64 A)∧W'.cell? ⟨w.heap.size,1,none⟩=some (.int .i64 v.number)∧W'.cell? ⟨w.heap.size,2,none⟩=some (.int .i64 v.pos)∧W'.cell? ⟨w.heap.size,3,none⟩=some (.string ⟨v.prev.toArray⟩)∧W'.cell? ⟨w.heap.size,4,none⟩=some (.slice a1 m1 c1)∧W'.cell? ⟨w.heap.size,5,none⟩=some (.int .i64 v.sel.index)∧W'.cell? ⟨w.heap.size,6,none⟩=some (.slice a2 m2 c2)∧W'.cell? ⟨w.heap.size,7,none⟩=some (.slice a3 m3 c3))
   obtain⟨fkvs,hfm,hfk⟩:=HC.out.forks
   have hc2:w.cell? ⟨c,2,none⟩=some (.map (some r2)):=cell_of hb00.out 2
   have hmc:Hid (∀ W,Below w.heap.size w W→W.cell? ⟨c,2,none⟩=some (.map (some r2))):=hid fun W hb=>(hb.cell (p:=⟨c,2,none⟩) hclt).trans hc2
   have hfm:=hid hfm
   have hfk:=hid hfk
   have hBd:Below w3.heap.size w3 w3.drew:=(Below.refl _ w3).drew
   have hb3:=hid (hY3.out.trans (hBd.mono hY3.out.size))
   clear hc2 hYc hYb hYo hYp hYv hY
   go_wp2_with fail
   cases hlf:CH.lookK (v.authority,v.number) forks with
   | none =>
    have hRX:=hRX.out
    rw [CH.addFork,hlf] at hRX
    dsimp only at hRX
    subst hRX
    have PF:=putNewF_any c 2 r2 (v.authority,v.number) old v (.slice b1 n1 d1) (.slice b2 n2 d2) (.slice b3 n3 d3) (.slice a1 m1 c1) (.slice a2 m2 c2) (.slice a3 m3 c3) fkvs w3.drew (hmc.out _ hb3.out) (hfm.out.below hb3.out) (hfk.out.none 0 hlf) (List.all_eq_true.1 (by rfl))
    dsimp only [Al] at PF
    rw [hA.out] at PF
    have hM2:Hid (IsMap w3.drew r2):=hid (by
     obtain⟨es,ck,e,_⟩:=hfm.out.below hb3.out
     exact⟨es,ck,e⟩)
    have PF:=hid PF
    refine wp_region_noPanic ?_
    refine wp_region_held_drew (S:=fun W'=>W'.cell? ⟨wq.heap.size,0,none⟩=some (.int .i64 A)∧W'.cell? ⟨wq.heap.size,1,none⟩=some (.int .i64 v.number)∧W'.cell? ⟨oB,0,none⟩=some (.int .i64 old.authority)∧W'.cell? ⟨oB,1,none⟩=some (.int .i64 old.number)∧W'.cell? ⟨oB,2,none⟩=some (.int .i64 old.pos)∧W'.cell? ⟨oB,3,none⟩=some (.string ⟨old.prev.toArray⟩)∧W'.cell? ⟨oB,4,none⟩=some (.slice b1 n1 d1)∧W'.cell? ⟨oB,5,none⟩=some (.int .i64 old.sel.index)∧W'.cell? ⟨oB,6,none⟩=some (.slice b2 n2 d2)∧W'.cell? ⟨oB,7,none⟩=some (.slice b3 n3 d3)∧W'.cell? ⟨w.heap.size,0,none⟩=some (.int .i64 A)∧W'.cell? ⟨w.heap.size,1,none⟩=some (.int .i64 v.number)∧W'.cell? ⟨w.heap.size,2,none⟩=some (.int .i64 v.pos)∧W'.cell? ⟨w.heap.size,3,none⟩=some (.string ⟨v.prev.toArray⟩)∧W'.cell? ⟨w.heap.size,4,none⟩=some (.slice a1 m1 c1)∧W'.cell? ⟨w.heap.size,5,none⟩=some (.int .i64 v.sel.index)∧W'.cell? ⟨w.heap.size,6,none⟩=some (.slice a2 m2 c2)∧W'.cell? ⟨w.heap.size,7,none⟩=some (.slice a3 m3 c3)) (by kernel_rfl) (SC2.out _ (Cells.of_below hBd)) (fun hHeld=>?_)
    refine tk 0 (v:=.pointer (some ⟨c,0,none⟩)) rfl (by rfl) hHeld ?_ ?_
    ·intro W hSw
     (try dsimp only at hSw)
     go_simp
    (try simp only [Act.put,pA,pB,pC])
    refine tk 1 (v:=.pointer (some ⟨c,0,none⟩)) rfl (by rfl) hHeld ?_ ?_
    ·intro W hSw
     (try dsimp only at hSw)
     go_simp
    (try simp only [Act.put,pA,pB,pC])
    refine tk 2 (v:=.pointer (some ⟨c,2,none⟩)) rfl (by rfl) hHeld ?_ ?_
    ·intro W hSw
     (try dsimp only at hSw)
     go_simp
    (try simp only [Act.put,pA,pB,pC])
    refine tk 3 (v:=.agg #[.int .i64 A,.int .i64 v.number]) rfl (by rfl) hHeld ?_ ?_
    ·intro W hSw
     (try dsimp only at hSw)
     go_simp
    (try simp only [Act.put,pA,pB,pC])
    refine tk 4 (v:=.agg #[.int .i64 old.authority,.int .i64 old.number,.int .i64 old.pos,.string ⟨old.prev.toArray⟩,.slice b1 n1 d1,.int .i64 old.sel.index,.slice b2 n2 d2,.slice b3 n3 d3]) rfl (by rfl) hHeld ?_ ?_
    ·intro W hSw
     (try dsimp only at hSw)
     go_simp
    (try simp only [Act.put,pA,pB,pC])
    refine tk 5 (v:=.agg #[.int .i64 A,.int .i64 v.number,.int .i64 v.pos,.string ⟨v.prev.toArray⟩,.slice a1 m1 c1,.int .i64 v.sel.index,.slice a2 m2 c2,.slice a3 m3 c3]) rfl (by rfl) hHeld ?_ ?_
    ·intro W hSw
     (try dsimp only at hSw)
     go_simp
    (try simp only [Act.put,pA,pB,pC])
    refine tk 6 (v:=.agg #[.int .i64 old.authority,.int .i64 old.number,.int .i64 old.pos,.string ⟨old.prev.toArray⟩,.slice b1 n1 d1,.int .i64 old.sel.index,.slice b2 n2 d2,.slice b3 n3 d3,.int .i64 A,.int .i64 v.number,.int .i64 v.pos,.string ⟨v.prev.toArray⟩,.slice a1 m1 c1,.int .i64 v.sel.index,.slice a2 m2 c2,.slice a3 m3 c3]) rfl (by rfl) hHeld ?_ ?_
    ·intro W hSw
     (try dsimp only at hSw)
     go_simp
    (try simp only [Act.put,pA,pB,pC])
    refine rk 7 rfl (fun K hK=>?_)
    go_simp
    refine PF.out.mono ?_
    rintro e w4 ⟨rfl,hh,hmm⟩
    have hcl:Cells w3 w4:=(Cells.of_below hBd).trans (hh.cells fun r hr=>by
     cases List.mem_singleton.1 hr
     exact hM2.out)
    go_wp2_with fail
    refine hK.out _ _ (SC2.out _ hcl) (fun hHeld=>?_)
    clear hK K
    (try simp only [Act.put,pA,pB,pC])
    refine wpAnyH_done (by kernel_rfl) (NoPanic.normal ?_) _
    have hfin:=hid ((Held.of_below hb3.out).trans hh)
    have hmm:Hid (A6 Al r2 w4 (fkvs++[((v.authority,v.number),.agg (Ac old ⟨.slice b1 n1 d1,.slice b2 n2 d2,.slice b3 n3 d3⟩++Ac v ⟨.slice a1 m1 c1,.slice a2 m2 c2,.slice a3 m3 c3⟩).toArray)])):=hid (by
     dsimp only [Ac]
     rw [hA.out]
     exact hmm)
    clear hcl hHeld PF hh
    go_wp2
    go_ret
    exact⟨rfl,chainAt_fork HC.out (HV.out w (Below.refl _ _)) (hOS.out w (Below.refl _ _)) hfin.out hfm.out hfk.out hmm.out,hfin.out.mono (by simp)⟩
   | some f0 =>
    have hRX:=hRX.out
    rw [CH.addFork,hlf] at hRX
    dsimp only at hRX
    subst hRX
    obtain⟨j0,x0,hf0,s1,s2,hx0,hv1,hv2⟩:=hfk.out.some 0 hlf
    obtain⟨p1,p2,p3,p4,p5,p6,p7,p8,p9,rfl⟩:=hv1.sl
    obtain⟨q1,q2,q3,q4,q5,q6,q7,q8,q9,rfl⟩:=hv2.sl
    subst hx0
    have PF:=putOldF_any c 2 r2 (v.authority,v.number) old v f0.1 f0.2 (.slice b1 n1 d1) (.slice b2 n2 d2) (.slice b3 n3 d3) (.slice a1 m1 c1) (.slice a2 m2 c2) (.slice a3 m3 c3) p1 p4 p7 q1 q4 q7 p2 p5 p8 q2 q5 q8 p3 p6 p9 q3 q6 q9 fkvs j0 w3.drew (hmc.out _ hb3.out) (hfm.out.below hb3.out) hf0
    dsimp only [Al] at PF
    rw [hA.out] at PF
    have PF:=hid PF
    clear hf0 hv1 hv2
    refine wp_region_noPanic ?_
    refine wp_region_held_drew (S:=fun W'=>W'.cell? ⟨wq.heap.size,0,none⟩=some (.int .i64 A)∧W'.cell? ⟨wq.heap.size,1,none⟩=some (.int .i64 v.number)∧W'.cell? ⟨oB,0,none⟩=some (.int .i64 old.authority)∧W'.cell? ⟨oB,1,none⟩=some (.int .i64 old.number)∧W'.cell? ⟨oB,2,none⟩=some (.int .i64 old.pos)∧W'.cell? ⟨oB,3,none⟩=some (.string ⟨old.prev.toArray⟩)∧W'.cell? ⟨oB,4,none⟩=some (.slice b1 n1 d1)∧W'.cell? ⟨oB,5,none⟩=some (.int .i64 old.sel.index)∧W'.cell? ⟨oB,6,none⟩=some (.slice b2 n2 d2)∧W'.cell? ⟨oB,7,none⟩=some (.slice b3 n3 d3)∧W'.cell? ⟨w.heap.size,0,none⟩=some (.int .i64 A)∧W'.cell? ⟨w.heap.size,1,none⟩=some (.int .i64 v.number)∧W'.cell? ⟨w.heap.size,2,none⟩=some (.int .i64 v.pos)∧W'.cell? ⟨w.heap.size,3,none⟩=some (.string ⟨v.prev.toArray⟩)∧W'.cell? ⟨w.heap.size,4,none⟩=some (.slice a1 m1 c1)∧W'.cell? ⟨w.heap.size,5,none⟩=some (.int .i64 v.sel.index)∧W'.cell? ⟨w.heap.size,6,none⟩=some (.slice a2 m2 c2)∧W'.cell? ⟨w.heap.size,7,none⟩=some (.slice a3 m3 c3)) (by kernel_rfl) (SC2.out _ (Cells.of_below hBd)) (fun hHeld=>?_)
    refine tk 0 (v:=.pointer (some ⟨c,0,none⟩)) rfl (by rfl) hHeld ?_ ?_
    ·intro W hSw
     (try dsimp only at hSw)
     go_simp
    (try simp only [Act.put,pA,pB,pC])
    refine tk 1 (v:=.pointer (some ⟨c,0,none⟩)) rfl (by rfl) hHeld ?_ ?_
    ·intro W hSw
     (try dsimp only at hSw)
     go_simp
    (try simp only [Act.put,pA,pB,pC])
    refine tk 2 (v:=.pointer (some ⟨c,2,none⟩)) rfl (by rfl) hHeld ?_ ?_
    ·intro W hSw
     (try dsimp only at hSw)
     go_simp
    (try simp only [Act.put,pA,pB,pC])
    refine tk 3 (v:=.agg #[.int .i64 A,.int .i64 v.number]) rfl (by rfl) hHeld ?_ ?_
    ·intro W hSw
     (try dsimp only at hSw)
     go_simp
    (try simp only [Act.put,pA,pB,pC])
    refine tk 4 (v:=.agg #[.int .i64 old.authority,.int .i64 old.number,.int .i64 old.pos,.string ⟨old.prev.toArray⟩,.slice b1 n1 d1,.int .i64 old.sel.index,.slice b2 n2 d2,.slice b3 n3 d3]) rfl (by rfl) hHeld ?_ ?_
    ·intro W hSw
     (try dsimp only at hSw)
     go_simp
    (try simp only [Act.put,pA,pB,pC])
    refine tk 5 (v:=.agg #[.int .i64 A,.int .i64 v.number,.int .i64 v.pos,.string ⟨v.prev.toArray⟩,.slice a1 m1 c1,.int .i64 v.sel.index,.slice a2 m2 c2,.slice a3 m3 c3]) rfl (by rfl) hHeld ?_ ?_
    ·intro W hSw
     (try dsimp only at hSw)
     go_simp
    (try simp only [Act.put,pA,pB,pC])
    refine tk 6 (v:=.agg #[.int .i64 old.authority,.int .i64 old.number,.int .i64 old.pos,.string ⟨old.prev.toArray⟩,.slice b1 n1 d1,.int .i64 old.sel.index,.slice b2 n2 d2,.slice b3 n3 d3,.int .i64 A,.int .i64 v.number,.int .i64 v.pos,.string ⟨v.prev.toArray⟩,.slice a1 m1 c1,.int .i64 v.sel.index,.slice a2 m2 c2,.slice a3 m3 c3]) rfl (by rfl) hHeld ?_ ?_
    ·intro W hSw
     (try dsimp only at hSw)
     go_simp
    (try simp only [Act.put,pA,pB,pC])
    refine rk 7 rfl (fun K hK=>?_)
    go_simp
    refine PF.out.mono ?_
    rintro e w4 ⟨rfl,hh⟩
    have hcl:Cells w3 w4:=(Cells.of_below hBd).trans (Cells.of_below hh)
    go_wp2_with fail
    refine hK.out _ _ (SC2.out _ hcl) (fun hHeld=>?_)
    clear hK K
    (try simp only [Act.put,pA,pB,pC])
    refine wpAnyH_done (by kernel_rfl) (NoPanic.normal ?_) _
    have hfin:=hid (hb3.out.trans (hh.mono hb3.out.size))
    clear hcl hHeld PF hh
    go_wp2
    go_ret
    exact⟨rfl,HC.out.below hfin.out,Held.of_below hfin.out⟩
end
section
open Go.Lib Go.Proofs.Tryz Go.RowKit Go.Shelf Go.Sort
theorem add_any (c r1 r2:Nat) (keys:List (List UInt8)) (known:CH.Known) (forks:CH.Forks) (v:CH.Version) (s:VerV) (w:World) (hG:Gc w) (hC:ChainAt w c r1 r2 keys known forks) (hv:VerAt w.heap.size w v s) :
  Calls prog 13 #[.pointer (some ⟨c,0,none⟩),.agg (Ac v s).toArray] w (AddRet w c r1 r2 keys (addC keys known forks v)):=by
 unfold addC CH.addV
 cases ht:CH.vText v with
 | error er=>exact add_text c r1 r2 keys known forks v s w hG hC hv er ht
 | ok t =>
  dsimp only
  by_cases ha:v.authority ≥ (keys.length:Int)
  ·rw [if_pos (decide_eq_true ha)]
   exact add_auth c r1 r2 keys known forks v s w hG hC hv t ht ha
  ·have hlt:v.authority<(keys.length:Int):=by omega
   rw [if_neg (by simpa using ha)]
   cases hk:chkV v (keys.getD v.authority.toNat []) with
   | false =>
    exact add_key c r1 r2 keys known forks v s w hG hC hv t ht hlt hk
   | true =>
    cases hl:CH.lookK (v.authority,v.number) known with
    | none=>exact addWalk_new c r1 r2 keys known forks v s w hG hC hv t ht hlt hk hl
    | some old=>exact addWalk_old c r1 r2 keys known forks v s w hG hC hv t ht hlt hk old hl
theorem addRet_keep {c r1 r2:Nat} {keys:List (List UInt8)} {known:CH.Known} {forks:CH.Forks} {x:Int × CH.Known × CH.Forks} {w0 w w':World} {e:Ending} (hG:Gc w) (hC:ChainAt w c r1 r2 keys known forks) (h1:w0.heap.size≤r1) (h2:w0.heap.size≤r2) (h9:9≤w0.heap.size) (hB:Below w0.heap.size w0 w) (hR:AddRet w c r1 r2 keys x e w') :
  Gc w'∧Below w0.heap.size w0 w'∧Below w0.heap.size w w':=by
 obtain⟨_,_,hH⟩:=hR
 have hB':Below w0.heap.size w w':=hH.below hB.size (fun r hr=>by
  simp only [List.mem_cons,List.not_mem_nil,or_false] at hr
  rcases hr with rfl|rfl <;> assumption)
 refine⟨hG.kept (hH.cells fun r hr=>?_) (hB'.mono h9),hB.trans hB',hB'⟩
 simp only [List.mem_cons,List.not_mem_nil,or_false] at hr
 rcases hr with rfl|rfl
 ·obtain⟨kvs,⟨es,ck,e,_⟩,_⟩:=hC.known
  exact⟨es,ck,e⟩
 ·obtain⟨kvs,⟨es,ck,e,_⟩,_⟩:=hC.forks
  exact⟨es,ck,e⟩
def nilS:Value:=.slice none 0 0
def nilV:ActV:=⟨nilS,nilS,nilS,nilS,nilS⟩
def EndsRet (w:World) (n:Int) (e:Ending) (w':World):Prop:=∃ v,e=.returned v∧Cb w'.heap.size w' v [CH.endAct n]∧Below w.heap.size w w'
theorem endAct_at (n:Int) (hn:I64 n) (B:Nat) (w:World):ActAt B w (CH.endAct n) nilV:=by
 have s0:Strs B w nilS []:=⟨none,0,rfl,Nat.le_refl _,by omega,fun h=>absurd rfl h⟩
 have hf:Ca (.mk 0 [] 0 0 []):=by
  unfold Ca Ch
  exact⟨by simp,trivial⟩
 have hc:(CH.Formula.mk 0 [] 0 0 []).count≤100000000:=by
  unfold CH.Formula.count CH.countAll;omega
 have hd:(CH.Formula.mk 0 [] 0 0 []).depth≤100000000:=by
  unfold CH.Formula.depth CH.depthAll;omega
 have i0:I64 0:=⟨by decide,by decide⟩
 have z:(0:Nat)≤10000:=by omega
 have z1:(0:Nat)≤100000:=by omega
 have z2:(2:Nat)≤10000:=by omega
 have sh:Short []:=⟨z1,fun l h=>by cases h⟩
 refine⟨⟨none,0,rfl,Nat.le_refl _,by omega,fun h=>absurd rfl h⟩,⟨?_,⟨i0,i0,i0,i0⟩,z,z,z,hf,hc,hd⟩,s0,s0,s0,⟨⟨z,⟨z,z1,fun _ h=>by cases h⟩⟩,i0,z,sh,sh,⟨z,z,z,z,z,sh⟩,z2,⟨by show (-9223372036854775808:Int)≤7;decide,by show (7:Int)≤9223372036854775807;decide⟩,hn⟩⟩
 show Am B w (.mk 0 [] 0 0 []) nilS
 unfold Am
 exact⟨none,0,rfl,Nat.le_refl _,by omega,fun h=>absurd rfl h⟩
theorem ends_any (n:Int) (hn:I64 n) (w:World):Calls prog 12 #[.int .i64 n] w (EndsRet w n):=by
 go_enter func12,ntmps12
 go_wp2_with fail
 go_ret
 have hlt:w.heap.size<(w.alloc (.cells (As (CH.endAct n) nilV).toArray 63)).heap.size:=by simp
 exact⟨.slice (some ⟨w.heap.size,0,none⟩) 1 1,rfl,⟨some ⟨w.heap.size,0,none⟩,1,rfl,Nat.le_refl _,by omega,fun _=>⟨w.heap.size,0,rfl,hlt,fun j x hj=>by
  cases j with
  | zero =>
   cases hj
   refine⟨nilV,fun i u hi=>?_,endAct_at n hn _ _⟩
   rw [Nat.zero_mul,Nat.zero_add]
   have h:=Bl w (As (CH.endAct n) nilV) 63 i u hi
   rw [Nat.zero_add] at h
   exact h
  | succ j=>simp at hj⟩⟩,(Below.refl _ w).alloc nR _⟩
end
end Go.Proofs.YtjepldaciejieaaGreatDoor
namespace CH
def short60 (l:List Str) (most:Nat):Bool:=l.all (fun s=>decide (s.length≤60))&&decide (l.length≤most)
def fewName (n:Name):Bool:=(n.words.take 20).all (fun s=>decide (s.length≤100))&&decide (n.words.length≤20)
def fewEntry (e:Entry):Bool:=(e.names.take 10).all fewName&&(decide (e.id.length≤100)&&decide (e.names.length≤10))
def fewChange (c:Change):Bool:=decide (c.id.length≤100)&&fewEntry c.entry
theorem all_take_snoc {α:Type} (p:α→Bool) (l:List α) (k:Nat) (x:α) (h:l[k]?=some x):(l.take (k+1)).all p=((l.take k).all p&&p x):=by
 rw [CH.take_snoc_at l k x h,List.all_append];simp
theorem all_false_of {α:Type} (p:α→Bool) (l:List α) (k:Nat) (x:α) (h:l[k]?=some x) (hp:p x=false):l.all p=false:=by
 rw [List.all_eq_false]
 exact⟨x,List.mem_of_getElem? h,by simp [hp]⟩
end CH
namespace Go.Proofs.YtjepldaciejieaaGreatDoor
open Go.RowKit Go.Lib
theorem short_any (v:Value) (ls:List (List UInt8)) (most:Nat) (w:World) (hv:Strs w.heap.size w v ls) :
  Calls Tryz.prog 19 #[v,.int .i64 most] w (Ret w (.bool (CH.short60 ls most))):=by
 obtain⟨a,cap,rfl,hl,hcap,hne⟩:=hv
 obtain⟨R,hR⟩:∃ R,Hid (CH.short60 ls most=R):=⟨_,hid rfl⟩
 rw [hR.out]
 have hne:=hid hne
 obtain⟨N,hN⟩:∃ N,ls.length=N:=⟨_,rfl⟩
 rw [hN] at hl ⊢
 have hN:=hid hN
 go_enter Tryz.func19,Tryz.ntmps19
 go_wp2_with fail
 go_loopw [5] (fun i wr=>∃ k:Nat,k≤N∧i=.int .i64 k∧wr=w∧Hid ((ls.take k).all (fun s=>decide (s.length≤60))=true)) (fun i _=>N - (RowKit.intOf i).toNat)
 case atStart=>exact⟨0,Nat.zero_le _,rfl,rfl,hid rfl⟩
 case round =>
  obtain⟨k,hk,rfl,rfl,hI⟩:=hrel
  by_cases hlt:k<N
  ·obtain⟨b,off,rfl,hbl,hcells⟩:=hne.out (by intro h;have:=hN.out;simp [h] at this;omega)
   obtain⟨l,hl'⟩:∃ l,ls[k]?=some l:=⟨_,List.getElem?_eq_getElem (by rw [hN.out];exact hlt)⟩
   have hcell:=hcells k l hl'
   clear hcells
   have hl':=hid hl'
   obtain⟨m,hm⟩:∃ m,l.length=m:=⟨_,rfl⟩
   by_cases h60:m≤60
   ·have d:decide ((60:Int)<(m:Int))=false:=by simp;omega
    have hI':Hid ((ls.take (k+1)).all (fun s=>decide (s.length≤60))=true):=hid (by rw [CH.all_take_snoc _ ls k l hl'.out,hI.out,hm];simpa using h60)
    go_wp2
    go_roundw
    case rel=>exact⟨k+1,by omega,by go_num,by first|rfl|trivial,hI'⟩
    case measure=>simp [RowKit.intOf];omega
   ·have d:decide ((60:Int)<(m:Int))=true:=by simp;omega
    go_wp2
    go_ret
    exact⟨by rw [← hR.out];unfold CH.short60;rw [CH.all_false_of _ ls k l hl'.out (by rw [hm];simpa using h60)];rfl,Below.refl _ _⟩
  ·obtain rfl:k=N:=by omega
   have hall:ls.all (fun s=>decide (s.length≤60))=true:=by have:=hI.out;rwa [← hN.out,List.take_length] at this
   go_wp2
   go_ret
   refine⟨?_,Below.refl _ _⟩
   rw [← hR.out]
   unfold CH.short60
   rw [hall,hN.out,Bool.true_and]
   congr 2
   try (rw [decide_eq_decide];omega)
theorem fewName_any (sc:Int) (v:Value) (ls:List (List UInt8)) (w:World) (hv:Strs w.heap.size w v ls) :
  Calls Tryz.prog 96 #[.agg #[.int .i64 sc,v]] w (Ret w (.bool (CH.fewName ⟨sc,ls⟩))):=by
 obtain⟨a,cap,rfl,hl,hcap,hne⟩:=hv
 obtain⟨R,hR⟩:∃ R,Hid (CH.fewName ⟨sc,ls⟩=R):=⟨_,hid rfl⟩
 rw [hR.out]
 have hR1:Hid (((ls.take 20).all (fun s=>decide (s.length≤100))&&decide (ls.length≤20))=R):=hid hR.out
 clear hR
 have hne:=hid hne
 obtain⟨N,hN⟩:∃ N,ls.length=N:=⟨_,rfl⟩
 rw [hN] at hl hR1 ⊢
 have hN:=hid hN
 have hB0:=fun o=>(Below.refl _ w).alloc (Nat.le_refl _) o
 go_enter Tryz.func96,Tryz.ntmps96
 go_wp2_with fail
 generalize hWd:w.alloc _=W at *
 have c1:W.cell? ⟨w.heap.size,1,none⟩=some (.slice a N cap):=by rw [← hWd];exact cell_of (heap_alloc_last w _) 1
 have hBW:Below w.heap.size w W:=by rw [← hWd];exact hB0 _
 clear hWd hB0
 go_loopw [3] (fun i wr=>∃ k:Nat,k≤N∧k≤20∧i=.int .i64 k∧wr=W∧Hid ((ls.take k).all (fun s=>decide (s.length≤100))=true)) (fun i _=>20 - (RowKit.intOf i).toNat)
 case atStart=>exact⟨0,Nat.zero_le _,Nat.zero_le _,rfl,rfl,hid rfl⟩
 case round =>
  obtain⟨k,hk,hk20,rfl,rfl,hI⟩:=hrel
  by_cases hlt:k<N∧k<20
  ·obtain⟨hlt,hlt20⟩:=hlt
   obtain⟨b,off,rfl,hbl,hcells⟩:=hne.out (by intro h;have:=hN.out;simp [h] at this;omega)
   obtain⟨l,hl'⟩:∃ l,ls[k]?=some l:=⟨_,List.getElem?_eq_getElem (by rw [hN.out];exact hlt)⟩
   have hcell:=(hBW.cell (p:=⟨b,off+k,none⟩) hbl).trans (hcells k l hl')
   clear hcells
   have hl':=hid hl'
   obtain⟨m,hm⟩:∃ m,l.length=m:=⟨_,rfl⟩
   have d1:decide ((k:Int)<(N:Int))=true:=by simp;omega
   have d2:decide ((k:Int)<20)=true:=by simp;omega
   by_cases h60:m≤100
   ·have d:decide ((100:Int)<(m:Int))=false:=by simp;omega
    have hI':Hid ((ls.take (k+1)).all (fun s=>decide (s.length≤100))=true):=hid (by rw [CH.all_take_snoc _ ls k l hl'.out,hI.out,hm];simpa using h60)
    go_wp2
    go_roundw
    case rel=>exact⟨k+1,by omega,by omega,by go_num,by first|rfl|trivial,hI'⟩
    case measure=>simp [RowKit.intOf];omega
   ·have d:decide ((100:Int)<(m:Int))=true:=by simp;omega
    go_wp2
    go_ret
    refine⟨?_,hBW⟩
    rw [← hR1.out,CH.all_false_of _ (ls.take 20) k l (by rw [List.getElem?_take_of_lt hlt20];exact hl'.out) (by rw [hm];simpa using h60)]
    rfl
  ·have hall:(ls.take 20).all (fun s=>decide (s.length≤100))=true:=by
    have hi:=hI.out
    by_cases h20:k=20
    ·rwa [h20] at hi
    ·have hkN:k=N:=by omega
     rw [hkN,← hN.out,List.take_length] at hi
     rw [List.all_eq_true] at hi ⊢
     exact fun x hx=>hi x (List.mem_of_mem_take hx)
   have hfin:Hid (decide (N≤20)=R):=hid (by rw [← hR1.out,hall];rfl)
   have e20:decide ((N:Int)≤20)=decide (N≤20):=by rw [decide_eq_decide];omega
   by_cases h1:k<N
   ·have d1:decide ((k:Int)<(N:Int))=true:=by simp;omega
    have d2:decide ((k:Int)<20)=false:=by simp;omega
    go_wp2
    go_ret
    exact⟨by rw [← hfin.out,← e20];rfl,hBW⟩
   ·have d1:decide ((k:Int)<(N:Int))=false:=by simp;omega
    go_wp2
    go_ret
    exact⟨by rw [← hfin.out,← e20];rfl,hBW⟩
end Go.Proofs.YtjepldaciejieaaGreatDoor
namespace Go.Proofs.YtjepldaciejieaaGreatDoor
section
open Go.Lib Go.Proofs.Tryz Go.RowKit
def D7 (B:Nat) (w:World) (v:Value) (ns:List CH.Name):Prop :=
 ∃ a cap,v=.slice a ns.length cap∧ns.length≤cap∧cap≤9223372036854775807 ∧
  (ns≠[]→∃ b off,a=some ⟨b,off,none⟩∧b<B∧∀ j n,ns[j]?=some n→∃ vw,w.cell? ⟨b,off+j*2,none⟩=some (.int .i64 n.script)∧w.cell? ⟨b,off+j*2+1,none⟩=some vw∧Strs B w vw n.words)
theorem fewEntry_any (e:CH.Entry) (v:Value) (w:World) (hv:D7 w.heap.size w v e.names) :
  Calls prog 43 #[.agg #[.string ⟨e.id.toArray⟩,v]] w (Ret w (.bool (CH.fewEntry e))):=by
 obtain⟨id,ls⟩:=e
 obtain⟨a,cap,rfl,hl,hcap,hne⟩:=hv
 dsimp only at *
 obtain⟨R,hR⟩:∃ R,Hid (CH.fewEntry ⟨id,ls⟩=R):=⟨_,hid rfl⟩
 rw [hR.out]
 have hR1:Hid (((ls.take 10).all CH.fewName&&(decide (id.length≤100)&&decide (ls.length≤10)))=R):=hid hR.out
 clear hR
 have hne:=hid hne
 obtain⟨N,hN⟩:∃ N,ls.length=N:=⟨_,rfl⟩
 rw [hN] at hl hR1 ⊢
 have hN:=hid hN
 have hB0:=fun o=>(Below.refl _ w).alloc nR o
 go_enter func43,ntmps43
 go_wp2_with fail
 generalize hWd:w.alloc _=W at *
 have c0:W.cell? ⟨w.heap.size,0,none⟩=some (.string ⟨id.toArray⟩):=by rw [← hWd];exact cell_of (heap_alloc_last w _) 0
 have c1:W.cell? ⟨w.heap.size,1,none⟩=some (.slice a N cap):=by rw [← hWd];exact cell_of (heap_alloc_last w _) 1
 have hBW:Below w.heap.size w W:=by rw [← hWd];exact hB0 _
 have hlW:w.heap.size<W.heap.size:=by rw [← hWd];simp
 clear hWd hB0
 go_loopw [3] (fun i wr=>∃ k:Nat,k≤N∧k≤10∧i=.int .i64 k∧Hid (Below W.heap.size W wr)∧Hid ((ls.take k).all CH.fewName=true)) (fun i _=>10 - (RowKit.intOf i).toNat)
 case atStart=>exact⟨0,Nat.zero_le _,Nat.zero_le _,rfl,hid (Below.refl _ _),hid rfl⟩
 case round =>
  obtain⟨k,hk,hk10,rfl,hBr,hI⟩:=hrel
  have k0:=(hBr.out.cell (p:=⟨w.heap.size,0,none⟩) hlW).trans c0
  have k1:=(hBr.out.cell (p:=⟨w.heap.size,1,none⟩) hlW).trans c1
  have hBw:Below w.heap.size w wr:=hBW.trans (hBr.out.mono hBW.size)
  by_cases hlt:k<N∧k<10
  ·obtain⟨hlt,hlt10⟩:=hlt
   obtain⟨b,off,rfl,hbl,hcells⟩:=hne.out (by intro h;have:=hN.out;simp [h] at this;omega)
   obtain⟨n,hn'⟩:∃ n,ls[k]?=some n:=⟨_,lZ (by rw [hN.out];exact hlt)⟩
   obtain⟨vw,d1,d2,d3⟩:=hcells k n hn'
   have e1:=(hBw.cell (p:=⟨b,off+k*2,none⟩) hbl).trans d1
   have e2:=(hBw.cell (p:=⟨b,off+k*2+1,none⟩) hbl).trans d2
   have F:=hid (fewName_any n.script vw n.words wr ((d3.below hBw nR).mono hBw.size))
   clear hcells d1 d2
   have hn':=hid hn'
   have q1:decide ((k:Int)<(N:Int))=true:=by simp;omega
   have q2:decide ((k:Int)<10)=true:=by simp;omega
   obtain⟨fb,hfb⟩:∃ fb,Hid (CH.fewName n=fb):=⟨_,hid rfl⟩
   have F:Hid (Calls prog 96 #[.agg #[.int .i64 n.script,vw]] wr (Ret wr (.bool fb))):=hid (by rw [← hfb.out];exact F.out)
   obtain⟨vwa,vwc,rfl,_,_⟩:=d3
   generalize n.words.length=nw at *
   go_wp2_with fail
   refine F.out.mono ?_
   rintro e w1 ⟨rfl,hb1⟩
   clear F
   cases fb with
   | true =>
    have hI':Hid ((ls.take (k+1)).all CH.fewName=true):=hid (by rw [CH.all_take_snoc _ ls k n hn'.out,hI.out,hfb.out];rfl)
    have hB1:Hid (Below W.heap.size W w1):=hid (hBr.out.trans (hb1.mono hBr.out.size))
    go_wp2
    go_roundw
    case rel=>exact⟨k+1,by omega,by omega,by go_num,hB1,hI'⟩
    case measure=>simp [RowKit.intOf];omega
   | false =>
    go_wp2
    go_ret
    refine⟨?_,hBw.trans (hb1.mono hBw.size)⟩
    rw [← hR1.out,CH.all_false_of _ (ls.take 10) k n (by rw [List.getElem?_take_of_lt hlt10];exact hn'.out) hfb.out]
    rfl
  ·have hall:(ls.take 10).all CH.fewName=true:=by
    have hi:=hI.out
    by_cases h10:k=10
    ·rwa [h10] at hi
    ·have hkN:k=N:=by omega
     rw [hkN,← hN.out,List.take_length] at hi
     rw [List.all_eq_true] at hi ⊢
     exact fun x hx=>hi x (List.mem_of_mem_take hx)
   have e10:decide ((N:Int)≤10)=decide (N≤10):=by rw [decide_eq_decide];omega
   obtain⟨m,hm⟩:∃ m,id.length=m:=⟨_,rfl⟩
   have e100:decide ((m:Int)≤100)=decide (id.length≤100):=by rw [hm,decide_eq_decide];omega
   have hfin:Hid ((decide ((m:Int)≤100)&&decide ((N:Int)≤10))=R):=hid (by rw [← hR1.out,hall,e10,e100];rfl)
   obtain⟨r1,h1⟩:∃ r,decide ((m:Int)≤100)=r:=⟨_,rfl⟩
   rw [h1] at hfin
   clear e10 e100
   by_cases h1:k<N
   ·have d1:decide ((k:Int)<(N:Int))=true:=by simp;omega
    have d2:decide ((k:Int)<10)=false:=by simp;omega
    cases r1 <;> go_wp2 <;> (go_ret;exact⟨by rw [← hfin.out];rfl,hBw⟩)
   ·have d1:decide ((k:Int)<(N:Int))=false:=by simp;omega
    cases r1 <;> go_wp2 <;> (go_ret;exact⟨by rw [← hfin.out];rfl,hBw⟩)
theorem fewChange_any (c:CH.Change) (v:Value) (w:World) (hv:D7 w.heap.size w v c.entry.names) :
  Calls prog 17 #[.agg #[.int .i64 c.kind,.string ⟨c.id.toArray⟩,.string ⟨c.entry.id.toArray⟩,v,.int .i64 c.pos]] w (Ret w (.bool (CH.fewChange c))):=by
 have hB0:=fun o=>(Below.refl _ w).alloc nR o
 have F:=fun o=>fewEntry_any c.entry v (w.alloc o) (by
  obtain⟨a,cap,h1,h2,h3,h4⟩:=hv
  refine⟨a,cap,h1,h2,h3,fun hne=>?_⟩
  obtain⟨b,off,e,hlt,hx⟩:=h4 hne
  refine⟨b,off,e,by simp;omega,fun j n hj=>?_⟩
  obtain⟨vw,c1,c2,c3⟩:=hx j n hj
  exact⟨vw,((hB0 o).cell (p:=⟨b,off+j*2,none⟩) hlt).trans c1,((hB0 o).cell (p:=⟨b,off+j*2+1,none⟩) hlt).trans c2,(c3.below (hB0 o) nR).mono (hB0 o).size⟩)
 obtain⟨R,hR⟩:∃ R,Hid (CH.fewChange c=R):=⟨_,hid rfl⟩
 rw [hR.out]
 obtain⟨fe,hfe⟩:∃ fe,CH.fewEntry c.entry=fe:=⟨_,rfl⟩
 have hR1:Hid ((decide (c.id.length≤100)&&fe)=R):=hid (by rw [← hfe];exact hR.out)
 rw [hfe] at F
 have F:=hid F
 obtain⟨a,cap,rfl,hl,hcap,hne⟩:=hv
 clear hne hR
 generalize c.entry.names.length=N at *
 obtain⟨m,hm⟩:∃ m,c.id.length=m:=⟨_,rfl⟩
 have e100:decide ((m:Int)≤100)=decide (c.id.length≤100):=by rw [hm,decide_eq_decide];omega
 rw [← e100] at hR1
 obtain⟨r1,h1⟩:∃ r,decide ((m:Int)≤100)=r:=⟨_,rfl⟩
 rw [h1] at hR1
 clear e100
 cases r1 with
 | false =>
  go_enter func17,ntmps17
  go_wp2_with fail
  go_ret
  exact⟨by rw [← hR1.out];rfl,hB0 _⟩
 | true =>
  go_enter func17,ntmps17
  go_wp2_with fail
  refine (F.out _).mono ?_
  rintro e w1 ⟨rfl,hb1⟩
  clear F
  go_wp2
  go_ret
  exact⟨by rw [← hR1.out];rfl,(hB0 _).trans (hb1.mono (by simp))⟩
end
end Go.Proofs.YtjepldaciejieaaGreatDoor
namespace CH
mutual
def Formula.sizeF:Formula→Int→Int
 | .mk _ name _ _ kids,n=>if 100<name.length then n+1 else sizeKids kids n 1
def sizeKids:List Formula→Int→Int→Int
 | [],_,k=>k
 | f::l,n,k=>if k≤n then sizeKids l n (k+f.sizeF (n - k)) else k
end
mutual
theorem sizeF_bound:∀ (f:Formula) (n:Int),0≤n→1≤f.sizeF n∧f.sizeF n≤n+1
 | .mk _ name _ _ kids,n,hn=>by
  rw [Formula.sizeF]
  split
  ·omega
  ·have:=Fc kids n 1 (by omega) (by omega)
   omega
theorem Fc:∀ (l:List Formula) (n k:Int),1≤k→k≤n+1→k≤sizeKids l n k∧sizeKids l n k≤n+1
 | [],n,k,h1,h2=>by rw [sizeKids];omega
 | f::l,n,k,h1,h2=>by
  rw [sizeKids]
  split
  ·have b:=sizeF_bound f (n - k) (by omega)
   have:=Fc l n (k+f.sizeF (n - k)) (by omega) (by omega)
   omega
  ·omega
end
mutual
def Formula.names100:Formula→Prop
 | .mk _ name _ _ kids=>name.length≤100∧names100All kids
def names100All:List Formula→Prop
 | []=>True
 | f::l=>f.names100∧names100All l
end
mutual
theorem sizeF_small:∀ (f:Formula) (n:Int),0≤n→f.sizeF n≤n→f.sizeF n=f.count∧f.names100
 | .mk _ name _ _ kids,n,hn,h=>by
  rw [Formula.sizeF] at h ⊢
  split at h
  ·omega
  ·rename_i hl
   rw [if_neg hl]
   have:=sizeKids_small kids n 1 (by omega) (by omega) h
   rw [Formula.count,Formula.names100]
   exact⟨by omega,by omega,this.2⟩
theorem sizeKids_small:∀ (l:List Formula) (n k:Int),1≤k→k≤n+1→sizeKids l n k≤n→sizeKids l n k=k+countAll l∧names100All l
 | [],n,k,h1,h2,h=>by
  rw [sizeKids,countAll,names100All]
  exact⟨by simp,trivial⟩
 | f::l,n,k,h1,h2,h=>by
  rw [sizeKids] at h ⊢
  split at h
  ·rename_i hk
   rw [if_pos hk]
   have b:=sizeF_bound f (n - k) (by omega)
   have c:=Fc l n (k+f.sizeF (n - k)) (by omega) (by omega)
   have d:=sizeF_small f (n - k) (by omega) (by omega)
   have e:=sizeKids_small l n (k+f.sizeF (n - k)) (by omega) (by omega) h
   rw [countAll,names100All]
   exact⟨by omega,d.2,e.2⟩
  ·omega
end
def smallF (f:Formula) (n:Int):Bool:=decide (f.sizeF n≤n)
end CH
namespace Go.Proofs.YtjepldaciejieaaGreatDoor
open Go.RowKit Go.Lib
theorem sizeF_any:∀ (d:Nat) (f:CH.Formula) (vk:Value) (n:Int) (w:World),f.depth≤d→Am w.heap.size w f vk→0≤n→n≤1000 →
  Calls Tryz.prog 44 #[.agg (Af f vk),.int .i64 n] w (Ret w (.int .i64 (f.sizeF n)))
 | 0,f,vk,n,w,hd,hK,h0,h1=>by
  rw [Dh] at hd
  omega
 | d+1,.mk op name cmp fn kids,vk,n,w,hd,hK,h0,h1=>by
  obtain⟨a,cap,rfl,hl,hcap,hne⟩:=hK.form
  dsimp only [Af,CH.Formula.op,CH.Formula.name,CH.Formula.cmp,CH.Formula.n,CH.Formula.kids] at *
  rw [Dh] at hd
  dsimp only [CH.Formula.kids] at hd
  have IH:=hid (sizeF_any d)
  have hdk:=hid hd
  clear hd hK
  obtain⟨R,hR⟩:∃ R,Hid ((CH.Formula.mk op name cmp fn kids).sizeF n=R):=⟨_,hid rfl⟩
  rw [hR.out]
  have hR1:Hid ((if 100<name.length then n+1 else CH.sizeKids kids n 1)=R):=hid (by rw [← hR.out,CH.Formula.sizeF])
  clear hR
  have hne:=hid hne
  obtain⟨N,hN⟩:∃ N,kids.length=N:=⟨_,rfl⟩
  rw [hN] at hl ⊢
  have hN:=hid hN
  have hB0:=fun o=>(Below.refl _ w).alloc (Nat.le_refl _) o
  obtain⟨m,hm⟩:∃ m,name.length=m:=⟨_,rfl⟩
  rw [hm] at hR1
  by_cases h100:100<m
  ·have q1:decide ((100:Int)<(m:Int))=true:=by simp;omega
   rw [if_pos h100] at hR1
   go_enter Tryz.func44,Tryz.ntmps44
   go_wp2_with fail
   go_ret
   exact⟨ret_int (by rw [← hR1.out]),hB0 _⟩
  ·have q1:decide ((100:Int)<(m:Int))=false:=by simp;omega
   rw [if_neg h100] at hR1
   go_enter Tryz.func44,Tryz.ntmps44
   go_wp2_with fail
   generalize hWd:w.alloc _=W at *
   have c4:W.cell? ⟨w.heap.size,4,none⟩=some (.slice a N cap):=by rw [← hWd];exact cell_of (heap_alloc_last w _) 4
   have hBW:Below w.heap.size w W:=by rw [← hWd];exact hB0 _
   have hlW:w.heap.size<W.heap.size:=by rw [← hWd];simp
   clear hWd hB0
   go_loopw [5,6] (fun kv i wr=>∃ (j:Nat) (k:Int),j≤N∧i=.int .i64 j∧kv=.int .i64 k∧1≤k∧k≤n+1∧Hid (Below W.heap.size W wr)∧Hid (CH.sizeKids (kids.drop j) n k=R)) (fun _ i _=>N - (RowKit.intOf i).toNat)
   case atStart=>exact⟨0,1,Nat.zero_le _,rfl,rfl,by omega,by omega,hid (Below.refl _ _),hR1⟩
   case round =>
    obtain⟨j,k,hj,rfl,rfl,hk1,hk2,hBr,hI⟩:=hrel
    have k4:=(hBr.out.cell (p:=⟨w.heap.size,4,none⟩) hlW).trans c4
    have hBw:Below w.heap.size w wr:=hBW.trans (hBr.out.mono hBW.size)
    by_cases hlt:j<N
    ·have q2:decide ((j:Int)<(N:Int))=true:=by simp;omega
     have hdr:kids.drop j=kids[j]'(by rw [hN.out];exact hlt)::kids.drop (j+1):=List.drop_eq_getElem_cons (by rw [hN.out];exact hlt)
     have hget:kids[j]?=some (kids[j]'(by rw [hN.out];exact hlt)):=List.getElem?_eq_getElem (by rw [hN.out];exact hlt)
     generalize kids[j]'(by rw [hN.out];exact hlt)=f at hdr hget
     have hI2:=hI.out
     rw [hdr,CH.sizeKids] at hI2
     by_cases hkn:k≤n
     ·have q3:decide (k≤n)=true:=by simpa using hkn
      rw [if_pos hkn] at hI2
      obtain⟨b,off,rfl,hbl,hrow⟩:=hne.out (by intro h;have:=hN.out;simp [h] at this;omega)
      obtain⟨vf,e0,e1,e2,e3,e4,hkf⟩:=RowAt.get kids b off j f hrow hget
      have k0:=(hBw.cell (p:=⟨b,off+j*5,none⟩) hbl).trans e0
      have k1:=(hBw.cell (p:=⟨b,off+j*5+1,none⟩) hbl).trans e1
      have k2:=(hBw.cell (p:=⟨b,off+j*5+2,none⟩) hbl).trans e2
      have k3:=(hBw.cell (p:=⟨b,off+j*5+3,none⟩) hbl).trans e3
      have k5:=(hBw.cell (p:=⟨b,off+j*5+4,none⟩) hbl).trans e4
      have C:=hid (IH.out f vf (n - k) wr (by have:=depth_mem (List.mem_of_getElem? hget);have:=hdk.out;omega) (Am.mono hBw.size _ _ (Am.below hBw (Nat.le_refl _) _ _ hkf)) (by omega) (by omega))
      have hb:=CH.sizeF_bound f (n - k) (by omega)
      have hI2:=hid hI2
      generalize CH.Formula.sizeF f (n - k)=sz at *
      obtain⟨af,cf,rfl,_,_,_⟩:=hkf.form
      clear e0 e1 e2 e3 e4 hrow hget hdr hkf IH
      dsimp only [Af] at C
      generalize f.kids.length=nf at *
      generalize f.name=fname at *
      generalize f.op=fop at *
      generalize f.cmp=fcmp at *
      generalize f.n=ffn at *
      go_wp2_with fail
      refine C.out.mono ?_
      rintro e w1 ⟨rfl,hb1⟩
      clear C
      have hB1:Hid (Below W.heap.size W w1):=hid (hBr.out.trans (hb1.mono hBr.out.size))
      go_wp2
      go_roundw
      case rel=>exact⟨j+1,k+sz,by omega,by go_num,by go_num,by omega,by omega,hB1,hI2⟩
      case measure=>simp [RowKit.intOf];omega
     ·have q3:decide (k≤n)=false:=by simpa using hkn
      rw [if_neg hkn] at hI2
      go_wp2
      go_ret
      exact⟨by subst hI2;rfl,hBw⟩
    ·have q2:decide ((j:Int)<(N:Int))=false:=by simp;omega
     have hI2:=hI.out
     rw [List.drop_of_length_le (by rw [hN.out];omega),CH.sizeKids] at hI2
     go_wp2
     go_ret
     exact⟨by subst hI2;rfl,hBw⟩
theorem smallF_any (f:CH.Formula) (vk:Value) (n:Int) (w:World) (hK:Am w.heap.size w f vk) (h0:0≤n) (h1:n≤1000) :
  Calls Tryz.prog 18 #[.agg (Af f vk),.int .i64 n] w (Ret w (.bool (CH.smallF f n))):=by
 have hB0:=fun o=>(Below.refl _ w).alloc (Nat.le_refl _) o
 have C:=hid fun o=>sizeF_any f.depth f vk n (w.alloc o) (Nat.le_refl _) (Am.mono (hB0 o).size _ _ (Am.below (hB0 o) (Nat.le_refl _) _ _ hK)) h0 h1
 obtain⟨af,cf,rfl,_,_,_⟩:=hK.form
 obtain⟨R,hR⟩:∃ R,Hid (CH.smallF f n=R):=⟨_,hid rfl⟩
 rw [hR.out]
 have hR1:Hid (decide (f.sizeF n≤n)=R):=hR
 clear hR
 generalize f.sizeF n=sz at *
 generalize f.kids.length=nf at *
 dsimp only [Af] at *
 go_enter Tryz.func18,Tryz.ntmps18
 go_wp2_with fail
 refine (C.out _).mono ?_
 rintro e w1 ⟨rfl,hb1⟩
 go_wp2
 go_ret
 exact⟨by rw [← hR1.out];rfl,(hB0 _).trans (hb1.mono (by simp))⟩
end Go.Proofs.YtjepldaciejieaaGreatDoor
namespace CH
def fewHold (h:Holding):Bool :=
 (decide (h.id.length≤60)&&(decide (h.company.length≤60)&&(decide (h.holder.length≤60)&&(decide (h.nominee.length≤60)&&(decide (h.pledged.length≤60)&&decide (h.joint.length≤10))))))&&h.joint.all (fun s=>decide (s.length≤60))
end CH
namespace Go.Proofs.YtjepldaciejieaaGreatDoor
open Go.RowKit Go.Lib Go.Shelf Go.Sort
theorem gt60 (m:Nat):decide ((60:Int)<(m:Int))=!decide (m≤60):=by
 by_cases h:m≤60
 ·rw [decide_eq_true h,decide_eq_false (by omega)];rfl
 ·rw [decide_eq_false h,decide_eq_true (by omega)];rfl
theorem gt10 (m:Nat):decide ((10:Int)<(m:Int))=!decide (m≤10):=by
 by_cases h:m≤10
 ·rw [decide_eq_true h,decide_eq_false (by omega)];rfl
 ·rw [decide_eq_false h,decide_eq_true (by omega)];rfl
theorem fewHold_any (v:Value) (h:CH.Holding) (w:World) (hv:Hold1 w.heap.size w v h) :
  Calls Tryz.prog 20 #[v,.int .i64 1] w (Ret w (.bool (CH.fewHold h))):=by
 obtain⟨b,vj,rfl,hb,hc,hj⟩:=hv
 obtain⟨a,cap,rfl,hl,hcap,hne⟩:=hj
 obtain⟨R,hR⟩:∃ R,Hid (CH.fewHold h=R):=⟨_,hid rfl⟩
 rw [hR.out]
 have x0:=hc 0 _ rfl
 have x1:=hc 1 _ rfl
 have x2:=hc 2 _ rfl
 have x3:=hc 3 _ rfl
 have x4:=hc 4 _ rfl
 have x5:=hc 5 _ rfl
 have x6:=hc 6 _ rfl
 have x7:=hc 7 _ rfl
 have x8:=hc 8 _ rfl
 have x9:=hc 9 _ rfl
 clear hc
 have hR1:Hid (((decide (h.id.length≤60)&&(decide (h.company.length≤60)&&(decide (h.holder.length≤60)&&(decide (h.nominee.length≤60)&&(decide (h.pledged.length≤60)&&decide (h.joint.length≤10))))))&&h.joint.all (fun s=>decide (s.length≤60)))=R):=hid hR.out
 clear hR
 have hne:=hid hne
 obtain⟨N,hN⟩:∃ N,h.joint.length=N:=⟨_,rfl⟩
 rw [hN] at hl hR1
 rw [hN] at x5
 have hN:=hid hN
 obtain⟨r0,h0⟩:∃ r,decide (h.id.length≤60)=r:=⟨_,rfl⟩
 obtain⟨r1,h1⟩:∃ r,decide (h.company.length≤60)=r:=⟨_,rfl⟩
 obtain⟨r2,h2⟩:∃ r,decide (h.holder.length≤60)=r:=⟨_,rfl⟩
 obtain⟨r3,h3⟩:∃ r,decide (h.nominee.length≤60)=r:=⟨_,rfl⟩
 obtain⟨r4,h4⟩:∃ r,decide (h.pledged.length≤60)=r:=⟨_,rfl⟩
 obtain⟨r5,h5⟩:∃ r,decide (N≤10)=r:=⟨_,rfl⟩
 rw [h0,h1,h2,h3,h4,h5] at hR1
 have g0:=gt60 h.id.length
 have g1:=gt60 h.company.length
 have g2:=gt60 h.holder.length
 have g3:=gt60 h.nominee.length
 have g4:=gt60 h.pledged.length
 have g5:=gt10 N
 rw [h0] at g0
 rw [h1] at g1
 rw [h2] at g2
 rw [h3] at g3
 rw [h4] at g4
 rw [h5] at g5
 clear h0 h1 h2 h3 h4 h5
 generalize hji:h.joint=joint at *
 generalize h.id=s0 at *
 generalize h.company=s1 at *
 generalize h.holder=s2 at *
 generalize h.nominee=s3 at *
 generalize h.pledged=s4 at *
 have hB0:=fun o=>(Below.refl _ w).alloc (Nat.le_refl _) o
 rcases (by cases r0 <;> cases r1 <;> cases r2 <;> cases r3 <;> cases r4 <;> cases r5 <;> simp:(r0=false)∨(r0=true∧r1=false)∨(r0=true∧r1=true∧r2=false)∨(r0=true∧r1=true∧r2=true∧r3=false)∨(r0=true∧r1=true∧r2=true∧r3=true∧r4=false)∨(r0=true∧r1=true∧r2=true∧r3=true∧r4=true∧r5=false)∨(r0=true∧r1=true∧r2=true∧r3=true∧r4=true∧r5=true)) with rfl|⟨rfl,rfl⟩|⟨rfl,rfl,rfl⟩|⟨rfl,rfl,rfl,rfl⟩|⟨rfl,rfl,rfl,rfl,rfl⟩|⟨rfl,rfl,rfl,rfl,rfl,rfl⟩|⟨rfl,rfl,rfl,rfl,rfl,rfl⟩
 iterate 6
  ·simp only [Bool.not_false,Bool.not_true] at g0 g1 g2 g3 g4 g5
   go_enter Tryz.func20,Tryz.ntmps20
   go_wp2_with fail
   go_loopw [5] (fun i wr=>i=.int .i64 0∧wr=w) (fun _ _=>0)
   case atStart=>exact⟨rfl,rfl⟩
   case round =>
    obtain⟨rfl,rfl⟩:=hrel
    go_wp2
    go_ret
    exact⟨by rw [← hR1.out];rfl,hB0 _⟩
 simp only [Bool.not_false,Bool.not_true] at g0 g1 g2 g3 g4 g5
 have hR2:Hid (joint.all (fun s=>decide (s.length≤60))=R):=hid (by rw [← hR1.out];rfl)
 clear hR1
 go_enter Tryz.func20,Tryz.ntmps20
 go_wp2_with fail
 go_loopw [5] (fun i wr=>∃ k:Nat,k≤1∧i=.int .i64 k∧Hid (Below w.heap.size w wr)∧(k=1→Hid (R=true))) (fun i _=>1 - (RowKit.intOf i).toNat)
 case atStart=>exact⟨0,Nat.zero_le _,rfl,hid (Below.refl _ _),fun h=>by omega⟩
 case round =>
  obtain⟨k,hk,rfl,hBr,hI⟩:=hrel
  have y0:=(hBr.out.cell (p:=⟨b,0,none⟩) hb).trans x0
  have y1:=(hBr.out.cell (p:=⟨b,1,none⟩) hb).trans x1
  have y2:=(hBr.out.cell (p:=⟨b,2,none⟩) hb).trans x2
  have y3:=(hBr.out.cell (p:=⟨b,3,none⟩) hb).trans x3
  have y4:=(hBr.out.cell (p:=⟨b,4,none⟩) hb).trans x4
  have y5:=(hBr.out.cell (p:=⟨b,5,none⟩) hb).trans x5
  have y6:=(hBr.out.cell (p:=⟨b,6,none⟩) hb).trans x6
  have y7:=(hBr.out.cell (p:=⟨b,7,none⟩) hb).trans x7
  have y8:=(hBr.out.cell (p:=⟨b,8,none⟩) hb).trans x8
  have y9:=(hBr.out.cell (p:=⟨b,9,none⟩) hb).trans x9
  rcases (by omega:k=0∨k=1) with rfl|rfl
  ·go_wp2_with fail
   generalize hWd:wr.alloc _=W at *
   have c5:W.cell? ⟨wr.heap.size,5,none⟩=some (.slice a N cap):=by rw [← hWd];exact cell_of (heap_alloc_last wr _) 5
   have hBW:Below w.heap.size w W:=by rw [← hWd];exact hBr.out.alloc hBr.out.size _
   clear hWd y0 y1 y2 y3 y4 y5 y6 y7 y8 y9 x0 x1 x2 x3 x4 x5 x6 x7 x8 x9
   go_loopw [7] (fun i w'=>∃ j:Nat,j≤N∧i=.int .i64 j∧w'=W∧Hid ((joint.take j).all (fun s=>decide (s.length≤60))=true)) (fun i _=>N - (RowKit.intOf i).toNat)
   case atStart=>exact⟨0,Nat.zero_le _,rfl,rfl,hid rfl⟩
   case round =>
    obtain⟨j,hj,rfl,rfl,hJ⟩:=hrel
    by_cases hlt:j<N
    ·obtain⟨bj,off,rfl,hbl,hcells⟩:=hne.out (by intro h;have:=hN.out;simp [h] at this;omega)
     obtain⟨l,hl'⟩:∃ l,joint[j]?=some l:=⟨_,List.getElem?_eq_getElem (by rw [hN.out];exact hlt)⟩
     have hcell:=(hBW.cell (p:=⟨bj,off+j,none⟩) hbl).trans (hcells j l hl')
     clear hcells
     have hl':=hid hl'
     obtain⟨m,hm⟩:∃ m,l.length=m:=⟨_,rfl⟩
     by_cases h60:m≤60
     ·have d:decide ((60:Int)<(m:Int))=false:=by simp;omega
      have hJ':Hid ((joint.take (j+1)).all (fun s=>decide (s.length≤60))=true):=hid (by rw [CH.all_take_snoc _ joint j l hl'.out,hJ.out,hm];simpa using h60)
      go_wp2
      go_roundw
      case rel=>exact⟨j+1,by omega,by go_num,by first|rfl|trivial,hJ'⟩
      case measure=>simp [RowKit.intOf];omega
     ·have d:decide ((60:Int)<(m:Int))=true:=by simp;omega
      go_wp2
      go_ret
      exact⟨by rw [← hR2.out,CH.all_false_of _ joint j l hl'.out (by rw [hm];simpa using h60)];rfl,hBW⟩
    ·have hall:Hid (R=true):=hid (by have:=hJ.out;rw [show j=N from by omega,← hN.out,List.take_length] at this;exact hR2.out.symm.trans this)
     go_wp2
     go_roundw
     case rel=>exact⟨1,by omega,by go_num,hid hBW,fun _=>hall⟩
     case measure=>simp [RowKit.intOf]
  ·have hT:=(hI rfl).out
   subst hT
   go_wp2
   go_ret
   exact⟨rfl,hBr.out⟩
end Go.Proofs.YtjepldaciejieaaGreatDoor
namespace CH
def fewAct (a:Act):Bool:=fewChange a.change&&(smallF a.measure.when_ 60&&(short60 [a.id,a.measure.id,a.measure.authority,a.measure.target,a.licence.id] 5&&(short60 a.licence.measures 70&&(short60 a.licence.parties 70&&fewHold a.holding))))
def fewActs (l:List Act) (most:Nat):Bool:=l.all fewAct&&decide (l.length≤most)
end CH
namespace Go.Proofs.YtjepldaciejieaaGreatDoor
open Go.RowKit Go.Lib Go.Shelf Go.Sort
structure ActRaw (B:Nat) (w:World) (a:CH.Act) (s:ActV):Prop where
 names:Cc B w s.vn a.change.entry.names
 kids:Am B w a.measure.when_ s.vk
 lm:Strs B w s.vm a.licence.measures
 lp:Strs B w s.vp a.licence.parties
 hj:Strs B w s.vj a.holding.joint
theorem ActRaw.below {B B':Nat} {w w':World} {a:CH.Act} {s:ActV} (h:ActRaw B w a s) (hb:Below B' w w') (hB:B≤B'):ActRaw B w' a s:=⟨h.names.below hb hB,Am.below hb hB _ _ h.kids,h.lm.below hb hB,h.lp.below hb hB,h.hj.below hb hB⟩
theorem ActRaw.mono {B B':Nat} {w:World} {a:CH.Act} {s:ActV} (h:ActRaw B w a s) (hB:B≤B'):ActRaw B' w a s:=⟨h.names.mono hB,Am.mono hB _ _ h.kids,h.lm.mono hB,h.lp.mono hB,h.hj.mono hB⟩
theorem actCells_oneR {B:Nat} {w:World} {a:CH.Act} {s:ActV} (h:ActRaw B w a s):∀ v∈As a s,v.oneCell'=true:=by
 obtain⟨vn,vk,vm,vp,vj⟩:=s
 obtain⟨_,_,e1,_,_⟩:=h.names.form
 obtain⟨_,_,e2,_,_,_⟩:=h.kids.form
 obtain⟨_,_,e3,_,_⟩:=h.lm.form
 obtain⟨_,_,e4,_,_⟩:=h.lp.form
 obtain⟨_,_,e5,_,_⟩:=h.hj.form
 change vn=_ at e1
 change vk=_ at e2
 change vm=_ at e3
 change vp=_ at e4
 change vj=_ at e5
 subst e1 e2 e3 e4 e5
 exact List.all_eq_true.1 (by rfl)
def D8 (B:Nat) (w:World) (v:Value) (l:List CH.Act):Prop :=
 ∃ a cap,v=.slice a l.length cap∧l.length≤cap∧cap≤9223372036854775807 ∧
  (l≠[]→∃ b off,a=some ⟨b,off,none⟩∧b<B∧∀ j x,l[j]?=some x→∃ s,(∀ i u,(As x s)[i]?=some u→w.cell? ⟨b,off+j*37+i,none⟩=some u)∧ActRaw B w x s)
theorem D8.below {B B':Nat} {w w':World} {v:Value} {l:List CH.Act} (h:D8 B w v l) (hb:Below B' w w') (hB:B≤B'):D8 B w' v l:=by
 obtain⟨a,cap,h1,h2,h3,h4⟩:=h
 refine⟨a,cap,h1,h2,h3,fun hne=>?_⟩
 obtain⟨b,off,e,hlt,hx⟩:=h4 hne
 refine⟨b,off,e,hlt,fun j x hj=>?_⟩
 obtain⟨s,c1,c2⟩:=hx j x hj
 exact⟨s,fun i u hi=>(hb.cell (p:=⟨b,off+j*37+i,none⟩) (Nat.lt_of_lt_of_le hlt hB)).trans (c1 i u hi),c2.below hb hB⟩
theorem D8.mono {B B':Nat} {w:World} {v:Value} {l:List CH.Act} (h:D8 B w v l) (hB:B≤B'):D8 B' w v l:=by
 obtain⟨a,cap,h1,h2,h3,h4⟩:=h
 refine⟨a,cap,h1,h2,h3,fun hne=>?_⟩
 obtain⟨b,off,e,hlt,hx⟩:=h4 hne
 refine⟨b,off,e,Nat.lt_of_lt_of_le hlt hB,fun j x hj=>?_⟩
 obtain⟨s,c1,c2⟩:=hx j x hj
 exact⟨s,c1,c2.mono hB⟩
theorem Ak {P:Program} {ops:Array Oper} {rest:List Oper} {op:Oper} {a:Act} {w:World} {Q:Exit→Act→World→Prop} (hw:Region.wanted op (yielded ops a.tmps)=true) (ty:TypeId) (x:Operand) (ho:op.op=.load ty x)
  (b o:Nat) (hx:a.eval x=.pointer (some ⟨b,o,none⟩)) (cs:List Value) (d:TypeDesc) (hc:w.rangeAt b o cs)
  (hu:P.underlying ty=some d) (hd:d.isRow=true) (hi:(P.info? ty).map (·.size)=some cs.length)
  (h:wpList P ops Q rest (a.put op.dst (.agg cs.toArray)) w):wpList P ops Q (op::rest) a w :=
 wpList_step fun K hK=>by rw [hw,if_pos rfl];exact wp_load_mid ty x ho b o hx cs d hc hu hd hi (hK _ _ h)
end Go.Proofs.YtjepldaciejieaaGreatDoor
namespace Go.Proofs.YtjepldaciejieaaGreatDoor
section
open Go.Lib Go.Proofs.Tryz Go.RowKit Go.Shelf Go.Sort
def VAt (w:World) (x:Nat × CH.Version):Prop:=x.1<w.heap.size∧∃ s,w.rangeAt x.1 0 (Ac x.2 s)∧VerAt w.heap.size w x.2 s
theorem VAt.kept {w w':World} {x:Nat × CH.Version} (h:VAt w x) (hc:Cells w w') (hs:w.heap.size≤w'.heap.size):VAt w' x:=by
 obtain⟨h0,s,h1,h2⟩:=h
 exact⟨nL h0 hs,s,fun j u hj=>hc _ _ (h1 j u hj),(h2.kept hc).mono hs⟩
structure St (w0 w:World) (l:List (Nat × CH.Version)):Prop where
 gc:Gc w
 below:Below w0.heap.size w0 w
 vers:∀ x∈l,VAt w x
theorem St.go {w0 w w':World} {l:List (Nat × CH.Version)} (h:St w0 w l) (hb:Below w.heap.size w w'):St w0 w' l :=
 ⟨h.gc.below hb,h.below.trans (hb.mono h.below.size),fun x hx=>(h.vers x hx).kept (Cells.of_below hb) hb.size⟩
theorem St.put {w0 w:World} {l:List (Nat × CH.Version)} {v:CH.Version} {s:VerV} (h:St w0 w l) (hv:VerAt w.heap.size w v s):St w0 (w.alloc (.cells (Ac v s).toArray 29)) ((w.heap.size,v)::l):=by
 have hb:Below w.heap.size w (w.alloc (.cells (Ac v s).toArray 29)):=(Below.refl _ w).alloc nR _
 have h1:=h.go hb
 refine⟨h1.gc,h1.below,fun x hx=>?_⟩
 rcases List.mem_cons.1 hx with rfl|hx
 ·exact⟨by simp,s,Bl w (Ac v s) _,(hv.below hb nR).mono hb.size⟩
 ·exact h1.vers x hx
theorem St.added {w0 w w':World} {l:List (Nat × CH.Version)} {c r1 r2:Nat} {keys:List (List UInt8)} {known:CH.Known} {forks:CH.Forks} {x:Int × CH.Known × CH.Forks} {e:Ending} (h:St w0 w l) (hC:ChainAt w c r1 r2 keys known forks) (h1:w0.heap.size≤r1) (h2:w0.heap.size≤r2) (h9:9≤w0.heap.size)
  (hR:AddRet w c r1 r2 keys x e w'):St w0 w' l:=by
 obtain⟨a1,a2,a3⟩:=addRet_keep h.gc hC h1 h2 h9 h.below hR
 refine⟨a1,a2,fun y hy=>(h.vers y hy).kept ?_ a3.size⟩
 obtain⟨_,_,hH⟩:=hR
 refine hH.cells fun r hr=>?_
 simp only [List.mem_cons,List.not_mem_nil,or_false] at hr
 rcases hr with rfl|rfl
 ·obtain⟨kvs,⟨es,ck,e,_⟩,_⟩:=hC.known
  exact⟨es,ck,e⟩
 ·obtain⟨kvs,⟨es,ck,e,_⟩,_⟩:=hC.forks
  exact⟨es,ck,e⟩
theorem St.at {w0 w:World} {l:List (Nat × CH.Version)} (h:St w0 w l) {b:Nat} {v:CH.Version} (hm:(b,v)∈l):∃ s,w.rangeAt b 0 (Ac v s)∧VerAt w.heap.size w v s:=(h.vers _ hm).2
def ChP (w0 w:World) (K:List UInt8) (c r1 r2:Nat) (known:CH.Known) (forks:CH.Forks):Prop:=ChainAt w c r1 r2 [K] known forks∧w0.heap.size≤r1∧w0.heap.size≤r2
theorem ChP.go {w0 w w':World} {K:List UInt8} {c r1 r2:Nat} {known:CH.Known} {forks:CH.Forks} (h:ChP w0 w K c r1 r2 known forks) (hb:Below w.heap.size w w'):ChP w0 w' K c r1 r2 known forks:=⟨h.1.below hb,h.2⟩
theorem acts_nil (B:Nat) (w:World):Cb B w (.slice none 0 0) []:=⟨none,0,rfl,Nat.le_refl _,by omega,fun h=>absurd rfl h⟩
def AddS (K:List UInt8) (V:CH.Version) (known:CH.Known) (forks:CH.Forks) (er:Int) (known':CH.Known) (forks':CH.Forks):Prop :=
 ∀ (w0 w:World) (l:List (Nat × CH.Version)) (c r1 r2:Nat) (s:VerV),9≤w0.heap.size→St w0 w l→ChP w0 w K c r1 r2 known forks→VerAt w.heap.size w V s →
  Calls prog 13 #[.pointer (some ⟨c,0,none⟩),.agg (Ac V s).toArray] w fun e w'=>e=.returned (.int .i64 er)∧St w0 w' l∧ChP w0 w' K c r1 r2 known' forks'
def VecS (K:List UInt8) (known:CH.Known) (n:Int):Prop :=
 ∀ (w0 w:World) (l:List (Nat × CH.Version)) (c r1 r2:Nat) (forks:CH.Forks),St w0 w l→ChP w0 w K c r1 r2 known forks →
  Calls prog 14 #[.pointer (some ⟨c,0,none⟩),.int .i64 n] w fun e w'=>e=.returned (.bool true)∧St w0 w' l∧ChP w0 w' K c r1 r2 known forks
def MakeS (V:CH.Version) (n pos:Int) (prev:List UInt8) (acts:List CH.Act):Prop :=
 ∀ (w:World) (va:Value),Gc w→Cb w.heap.size w va acts →
  Calls prog 6 #[.int .i64 0,.int .i64 n,.int .i64 pos,.string ⟨prev.toArray⟩,va,.string ⟨#[115]⟩,.int .i64 1] w fun e w'=>∃ a1 n1 c1 a2 n2 c2 a3 n3 c3,e=.returned (.tuple #[.agg (Ac V ⟨.slice a1 n1 c1,.slice a2 n2 c2,.slice a3 n3 c3⟩).toArray,.int .i64 0])∧VerAt w'.heap.size w' V ⟨.slice a1 n1 c1,.slice a2 n2 c2,.slice a3 n3 c3⟩∧Below w.heap.size w w'
def EndsS (n:Int) (acts:List CH.Act):Prop :=
 ∀ (w:World),Calls prog 12 #[.int .i64 n] w fun e w'=>∃ a m c,e=.returned (.slice a m c)∧Cb w'.heap.size w' (.slice a m c) acts∧Below w.heap.size w w'
structure HF (K M:List UInt8) (V1 V2 V3 V4:CH.Version) (A1 A2 A3:List CH.Act) (c1 c2 d1 d2 x1 x2:CH.Known) (fC fD:CH.Forks):Prop where
 pub:∀ w,Gl w→Calls prog 8 #[.string ⟨#[115]⟩,.int .i64 1] w (Ret w (.tuple #[.string ⟨K.toArray⟩,.int .i64 0]))
 new:∀ w v,Gl w→Strs w.heap.size w v [K]→Calls prog 11 #[v] w fun e w'=>∃ c r1 r2,e=.returned (.tuple #[.pointer (some ⟨c,0,none⟩),.int .i64 0])∧ChainAt w' c r1 r2 [K] [] []∧w.heap.size≤r1∧w.heap.size≤r2∧Below w.heap.size w w'
 e1:EndsS 1 A1
 e2:EndsS 2 A2
 e3:EndsS 3 A3
 m1:MakeS V1 1 100 [] A1
 m2:MakeS V2 2 100 M A2
 m3:MakeS V3 1 100 [] A3
 m4:MakeS V4 2 99 M []
 msg:∀ w s,Gc w→VerAt w.heap.size w V1 s→Calls prog 9 #[.agg (Ac V1 s).toArray] w (Ret w (.tuple #[.string ⟨M.toArray⟩,.int .i64 0]))
 ac1:AddS K V2 [] [] 0 c1 []
 ac2:AddS K V1 c1 [] 0 c2 []
 ac3:AddS K V1 c2 [] 0 c2 []
 ac4:AddS K V3 c2 [] 17 c2 fC
 ad1:AddS K V3 [] [] 0 d1 []
 ad2:AddS K V1 d1 [] 17 d1 fD
 ad3:AddS K V2 d1 fD 0 d2 fD
 ax1:AddS K V1 [] [] 0 x1 []
 ax2:AddS K V4 x1 [] 0 x2 []
 vc1:VecS K c1 0
 vc2:VecS K c2 2
 vd2:VecS K d2 1
 vx2:VecS K x2 1
 forks:∀ w0 w l c r1 r2,St w0 w l→ChP w0 w K c r1 r2 c2 fC→Calls prog 15 #[.pointer (some ⟨c,0,none⟩)] w fun e w'=>∃ a cap,e=.returned (.slice a 1 cap)∧St w0 w' l
 act:∀ w,Gc w→Calls prog 16 #[.agg (As CH.holdAct nilV).toArray] w (Ret w (.tuple #[.string ⟨#[104,111,108,100,105,110,103,32,104,49,32,112,49,32,112,48,32,45,32,45,32,54,48,32,53,49,32,48,32,45,59]⟩,.int .i64 0]))
theorem verCells_sl (V:CH.Version) (a1 a2 a3:Option Addr) (n1 n2 n3 c1 c2 c3:Nat):∀ u∈Ac V ⟨.slice a1 n1 c1,.slice a2 n2 c2,.slice a3 n3 c3⟩,u.oneCell'=true:=by
 intro u hu
 simp only [Ac,List.mem_cons,List.not_mem_nil,or_false] at hu
 rcases hu with rfl|rfl|rfl|rfl|rfl|rfl|rfl|rfl <;> rfl
theorem strs_one (w:World) (K:List UInt8):Strs (w.alloc (.cells #[strV K] 9)).heap.size (w.alloc (.cells #[strV K] 9)) (.slice (some ⟨w.heap.size,0,none⟩) 1 1) [K] :=
 ⟨some ⟨w.heap.size,0,none⟩,1,rfl,Nat.le_refl _,by omega,fun _=>⟨w.heap.size,0,rfl,by simp,fun j l hj=>by
  cases j with
  | zero=>cases hj;exact cell_of (heap_alloc_last w _) 0
  | succ j=>simp at hj⟩⟩
theorem head_walk {K M:List UInt8} {V1 V2 V3 V4:CH.Version} {A1 A2 A3:List CH.Act} {kc1 kc2 kd1 kd2 kx1 kx2:CH.Known} {fC fD:CH.Forks} (H:HF K M V1 V2 V3 V4 A1 A2 A3 kc1 kc2 kd1 kd2 kx1 kx2 fC fD) (w:World) (hG:Gc w) :
  Calls prog 4 #[] w (Ret w (.bool true)):=by
 have h9:9≤w.heap.size:=hG.gl.size
 have H:=hid H
 have h9:=hid h9
 have hi8:(prog.info? 29).map (·.size)=some 8:=by kernel_rfl
 go_enter func4,ntmps4
 go_wp2_with fail
 refine (H.out.pub w hG.gl).mono ?_
 rintro e w1 ⟨rfl,hb1⟩
 have S:Hid (St w w1 []):=hid ⟨hG.below hb1,hb1,fun _ h=>by cases h⟩
 clear hb1 hG
 go_wp2_with fail
 have S:=hid (S.out.go ((Below.refl _ w1).alloc nR (.cells #[strV K] 9)))
 have ST:=hid (strs_one w1 K)
 dsimp only [strV] at S ST
 generalize w1.alloc (.cells #[.string ⟨K.toArray⟩] 9)=W at *
 refine (H.out.new W _ S.out.gc.gl ST.out).mono ?_
 rintro e w2 ⟨c,r1,r2,rfl,hC,g1,g2,hb⟩
 have C:Hid (ChP w w2 K c r1 r2 [] []):=hid ⟨hC,nT S.out.below.size g1,nT S.out.below.size g2⟩
 have S:=hid (S.out.go hb)
 clear hb hC g1 g2 ST
 go_wp2_with fail
 refine (H.out.e1 w2).mono ?_
 rintro e w3 ⟨a,m,cc,rfl,hA,hb⟩
 have C:=hid (C.out.go hb)
 have S:=hid (S.out.go hb)
 have hA:=hid hA
 clear hb
 go_wp2_with fail
 refine (H.out.m1 w3 _ S.out.gc hA.out).mono ?_
 rintro e w4 ⟨a1,n1,c1,a2,n2,c2,a3,n3,c3,rfl,hv,hb⟩
 have C:=hid ((C.out.go hb).go ((Below.refl _ w4).alloc nR (.cells (Ac V1 ⟨.slice a1 n1 c1,.slice a2 n2 c2,.slice a3 n3 c3⟩).toArray 29)))
 have S:=hid ((S.out.go hb).put hv)
 have h1:=hid (verCells_sl V1 a1 a2 a3 n1 n2 n3 c1 c2 c3)
 have hl:Hid ((Ac V1 ⟨.slice a1 n1 c1,.slice a2 n2 c2,.slice a3 n3 c3⟩).length=8):=hid rfl
 clear hb hv
 generalize Ac V1 ⟨.slice a1 n1 c1,.slice a2 n2 c2,.slice a3 n3 c3⟩=LL at *
 obtain⟨b1,hbb⟩:∃ b,Hid (w4.heap.size=b):=⟨_,hid rfl⟩
 rw [hbb.out] at S
 have hi:(prog.info? 29).map (·.size)=some LL.length:=by rw [hl.out];exact hi8
 obtain⟨s,hr,hv⟩:=S.out.at (b:=b1) (v:=V1) (by simp)
 have hr:=hid hr
 have hv:=hid hv
 have hlv:(prog.info? 29).map (·.size)=some (Ac V1 s).length:=hi8
 rw [← hbb.out] at hr
 go_wp2_with (first|refine Av rfl 29 _ _ rfl LL rfl rfl (by rw [hl.out];rfl) hi h1.out ?_|refine wpList_load_mid rfl 29 _ rfl (w4.heap.size) 0 rfl (Ac V1 s) _ hr.out underlying29 rfl hlv ?_)
 rw [hbb.out]
 generalize w4.alloc (.cells LL.toArray 29)=W at *
 clear hi hl h1 hbb
 refine (H.out.msg _ s S.out.gc hv.out).mono ?_
 rintro e w5 ⟨rfl,hb⟩
 have C:=hid (C.out.go hb)
 have S:=hid (S.out.go hb)
 clear hb hr hv hlv
 go_wp2_with fail
 refine (H.out.e2 w5).mono ?_
 rintro e w3 ⟨a,m,cc,rfl,hA,hb⟩
 have C:=hid (C.out.go hb)
 have S:=hid (S.out.go hb)
 have hA:=hid hA
 clear hb
 go_wp2_with fail
 refine (H.out.m2 w3 _ S.out.gc hA.out).mono ?_
 rintro e w4 ⟨a1,n1,c1,a2,n2,c2,a3,n3,c3,rfl,hv,hb⟩
 have C:=hid ((C.out.go hb).go ((Below.refl _ w4).alloc nR (.cells (Ac V2 ⟨.slice a1 n1 c1,.slice a2 n2 c2,.slice a3 n3 c3⟩).toArray 29)))
 have S:=hid ((S.out.go hb).put hv)
 have h1:=hid (verCells_sl V2 a1 a2 a3 n1 n2 n3 c1 c2 c3)
 have hl:Hid ((Ac V2 ⟨.slice a1 n1 c1,.slice a2 n2 c2,.slice a3 n3 c3⟩).length=8):=hid rfl
 clear hb hv
 generalize Ac V2 ⟨.slice a1 n1 c1,.slice a2 n2 c2,.slice a3 n3 c3⟩=LL at *
 obtain⟨b2,hbb⟩:∃ b,Hid (w4.heap.size=b):=⟨_,hid rfl⟩
 rw [hbb.out] at S
 have hi:(prog.info? 29).map (·.size)=some LL.length:=by rw [hl.out];exact hi8
 go_wp2_with (refine Av rfl 29 _ _ rfl LL rfl rfl (by rw [hl.out];rfl) hi h1.out ?_)
 rw [hbb.out]
 generalize w4.alloc (.cells LL.toArray 29)=W at *
 clear hi hl h1 hbb
 refine (H.out.e3 W).mono ?_
 rintro e w3 ⟨a,m,cc,rfl,hA,hb⟩
 have C:=hid (C.out.go hb)
 have S:=hid (S.out.go hb)
 have hA:=hid hA
 clear hb
 go_wp2_with fail
 refine (H.out.m3 w3 _ S.out.gc hA.out).mono ?_
 rintro e w4 ⟨a1,n1,c1,a2,n2,c2,a3,n3,c3,rfl,hv,hb⟩
 have C:=hid ((C.out.go hb).go ((Below.refl _ w4).alloc nR (.cells (Ac V3 ⟨.slice a1 n1 c1,.slice a2 n2 c2,.slice a3 n3 c3⟩).toArray 29)))
 have S:=hid ((S.out.go hb).put hv)
 have h1:=hid (verCells_sl V3 a1 a2 a3 n1 n2 n3 c1 c2 c3)
 have hl:Hid ((Ac V3 ⟨.slice a1 n1 c1,.slice a2 n2 c2,.slice a3 n3 c3⟩).length=8):=hid rfl
 clear hb hv
 generalize Ac V3 ⟨.slice a1 n1 c1,.slice a2 n2 c2,.slice a3 n3 c3⟩=LL at *
 obtain⟨b3,hbb⟩:∃ b,Hid (w4.heap.size=b):=⟨_,hid rfl⟩
 rw [hbb.out] at S
 have hi:(prog.info? 29).map (·.size)=some LL.length:=by rw [hl.out];exact hi8
 go_wp2_with (refine Av rfl 29 _ _ rfl LL rfl rfl (by rw [hl.out];rfl) hi h1.out ?_)
 rw [hbb.out]
 generalize w4.alloc (.cells LL.toArray 29)=W at *
 clear hi hl h1 hbb
 have hA:=hid (acts_nil W.heap.size W)
 refine (H.out.m4 W _ S.out.gc hA.out).mono ?_
 rintro e w4 ⟨a1,n1,c1,a2,n2,c2,a3,n3,c3,rfl,hv,hb⟩
 have C:=hid ((C.out.go hb).go ((Below.refl _ w4).alloc nR (.cells (Ac V4 ⟨.slice a1 n1 c1,.slice a2 n2 c2,.slice a3 n3 c3⟩).toArray 29)))
 have S:=hid ((S.out.go hb).put hv)
 have h1:=hid (verCells_sl V4 a1 a2 a3 n1 n2 n3 c1 c2 c3)
 have hl:Hid ((Ac V4 ⟨.slice a1 n1 c1,.slice a2 n2 c2,.slice a3 n3 c3⟩).length=8):=hid rfl
 clear hb hv
 generalize Ac V4 ⟨.slice a1 n1 c1,.slice a2 n2 c2,.slice a3 n3 c3⟩=LL at *
 obtain⟨b4,hbb⟩:∃ b,Hid (w4.heap.size=b):=⟨_,hid rfl⟩
 rw [hbb.out] at S
 have hi:(prog.info? 29).map (·.size)=some LL.length:=by rw [hl.out];exact hi8
 obtain⟨s,hr,hv⟩:=S.out.at (b:=b2) (v:=V2) (by simp)
 have hr:=hid hr
 have hv:=hid hv
 have hlv:(prog.info? 29).map (·.size)=some (Ac V2 s).length:=hi8
 go_wp2_with (first|refine Av rfl 29 _ _ rfl LL rfl rfl (by rw [hl.out];rfl) hi h1.out ?_|refine wpList_load_mid rfl 29 _ rfl b2 0 rfl (Ac V2 s) _ hr.out underlying29 rfl hlv ?_)
 rw [hbb.out]
 generalize w4.alloc (.cells LL.toArray 29)=W at *
 clear hi hl h1 hbb
 clear hA
 refine (H.out.ac1 w _ _ c r1 r2 s h9.out S.out C.out hv.out).mono ?_
 clear hr hv hlv S C
 rintro e w6 ⟨rfl,S,C⟩
 have S:=hid S
 have C:=hid C
 go_wp2_with fail
 refine (H.out.vc1 w _ _ c r1 r2 _ S.out C.out).mono ?_
 clear S C
 rintro e w7 ⟨rfl,S,C⟩
 have S:=hid S
 have C:=hid C
 obtain⟨s,hr,hv⟩:=S.out.at (b:=b1) (v:=V1) (by simp)
 have hr:=hid hr
 have hv:=hid hv
 have hlv:(prog.info? 29).map (·.size)=some (Ac V1 s).length:=hi8
 go_wp2_with (refine Ak rfl 29 _ rfl b1 0 rfl (Ac V1 s) _ hr.out underlying29 rfl hlv ?_)
 refine (H.out.ac2 w _ _ c r1 r2 s h9.out S.out C.out hv.out).mono ?_
 clear hr hv hlv S C
 rintro e w6 ⟨rfl,S,C⟩
 have S:=hid S
 have C:=hid C
 go_wp2_with fail
 refine (H.out.vc2 w _ _ c r1 r2 _ S.out C.out).mono ?_
 clear S C
 rintro e w7 ⟨rfl,S,C⟩
 have S:=hid S
 have C:=hid C
 obtain⟨s,hr,hv⟩:=S.out.at (b:=b1) (v:=V1) (by simp)
 have hr:=hid hr
 have hv:=hid hv
 have hlv:(prog.info? 29).map (·.size)=some (Ac V1 s).length:=hi8
 go_wp2_with (refine Ak rfl 29 _ rfl b1 0 rfl (Ac V1 s) _ hr.out underlying29 rfl hlv ?_)
 refine (H.out.ac3 w _ _ c r1 r2 s h9.out S.out C.out hv.out).mono ?_
 clear hr hv hlv S C
 rintro e w6 ⟨rfl,S,C⟩
 have S:=hid S
 have C:=hid C
 obtain⟨s,hr,hv⟩:=S.out.at (b:=b3) (v:=V3) (by simp)
 have hr:=hid hr
 have hv:=hid hv
 have hlv:(prog.info? 29).map (·.size)=some (Ac V3 s).length:=hi8
 go_wp2_with (refine Ak rfl 29 _ rfl b3 0 rfl (Ac V3 s) _ hr.out underlying29 rfl hlv ?_)
 refine (H.out.ac4 w _ _ c r1 r2 s h9.out S.out C.out hv.out).mono ?_
 clear hr hv hlv S C
 rintro e w6 ⟨rfl,S,C⟩
 have S:=hid S
 have C:=hid C
 go_wp2_with fail
 refine (H.out.vc2 w _ _ c r1 r2 _ S.out C.out).mono ?_
 clear S C
 rintro e w7 ⟨rfl,S,C⟩
 have S:=hid S
 have C:=hid C
 go_wp2_with fail
 refine (H.out.forks w _ _ c r1 r2 S.out C.out).mono ?_
 clear S C
 rintro e w8 ⟨a,cap,rfl,S⟩
 have S:=hid S
 go_wp2_with fail
 have S:=hid (S.out.go ((Below.refl _ w8).alloc nR (.cells #[strV K] 9)))
 have ST:=hid (strs_one w8 K)
 dsimp only [strV] at S ST
 generalize w8.alloc (.cells #[.string ⟨K.toArray⟩] 9)=W at *
 refine (H.out.new W _ S.out.gc.gl ST.out).mono ?_
 rintro e w2 ⟨c,r1,r2,rfl,hC,g1,g2,hb⟩
 have C:Hid (ChP w w2 K c r1 r2 [] []):=hid ⟨hC,nT S.out.below.size g1,nT S.out.below.size g2⟩
 have S:=hid (S.out.go hb)
 clear hb hC g1 g2 ST
 obtain⟨s,hr,hv⟩:=S.out.at (b:=b3) (v:=V3) (by simp)
 have hr:=hid hr
 have hv:=hid hv
 have hlv:(prog.info? 29).map (·.size)=some (Ac V3 s).length:=hi8
 go_wp2_with (refine wpList_load_mid rfl 29 _ rfl b3 0 rfl (Ac V3 s) _ hr.out underlying29 rfl hlv ?_)
 refine (H.out.ad1 w _ _ c r1 r2 s h9.out S.out C.out hv.out).mono ?_
 clear hr hv hlv S C
 rintro e w6 ⟨rfl,S,C⟩
 have S:=hid S
 have C:=hid C
 obtain⟨s,hr,hv⟩:=S.out.at (b:=b1) (v:=V1) (by simp)
 have hr:=hid hr
 have hv:=hid hv
 have hlv:(prog.info? 29).map (·.size)=some (Ac V1 s).length:=hi8
 go_wp2_with (refine Ak rfl 29 _ rfl b1 0 rfl (Ac V1 s) _ hr.out underlying29 rfl hlv ?_)
 refine (H.out.ad2 w _ _ c r1 r2 s h9.out S.out C.out hv.out).mono ?_
 clear hr hv hlv S C
 rintro e w6 ⟨rfl,S,C⟩
 have S:=hid S
 have C:=hid C
 obtain⟨s,hr,hv⟩:=S.out.at (b:=b2) (v:=V2) (by simp)
 have hr:=hid hr
 have hv:=hid hv
 have hlv:(prog.info? 29).map (·.size)=some (Ac V2 s).length:=hi8
 go_wp2_with (refine Ak rfl 29 _ rfl b2 0 rfl (Ac V2 s) _ hr.out underlying29 rfl hlv ?_)
 refine (H.out.ad3 w _ _ c r1 r2 s h9.out S.out C.out hv.out).mono ?_
 clear hr hv hlv S C
 rintro e w6 ⟨rfl,S,C⟩
 have S:=hid S
 have C:=hid C
 go_wp2_with fail
 refine (H.out.vd2 w _ _ c r1 r2 _ S.out C.out).mono ?_
 clear S C
 rintro e w7 ⟨rfl,S,C⟩
 have S:=hid S
 have C:=hid C
 go_wp2_with fail
 clear C
 have S:=hid (S.out.go ((Below.refl _ w7).alloc nR (.cells #[strV K] 9)))
 have ST:=hid (strs_one w7 K)
 dsimp only [strV] at S ST
 generalize w7.alloc (.cells #[.string ⟨K.toArray⟩] 9)=W at *
 refine (H.out.new W _ S.out.gc.gl ST.out).mono ?_
 rintro e w2 ⟨c,r1,r2,rfl,hC,g1,g2,hb⟩
 have C:Hid (ChP w w2 K c r1 r2 [] []):=hid ⟨hC,nT S.out.below.size g1,nT S.out.below.size g2⟩
 have S:=hid (S.out.go hb)
 clear hb hC g1 g2 ST
 obtain⟨s,hr,hv⟩:=S.out.at (b:=b1) (v:=V1) (by simp)
 have hr:=hid hr
 have hv:=hid hv
 have hlv:(prog.info? 29).map (·.size)=some (Ac V1 s).length:=hi8
 go_wp2_with (refine wpList_load_mid rfl 29 _ rfl b1 0 rfl (Ac V1 s) _ hr.out underlying29 rfl hlv ?_)
 refine (H.out.ax1 w _ _ c r1 r2 s h9.out S.out C.out hv.out).mono ?_
 clear hr hv hlv S C
 rintro e w6 ⟨rfl,S,C⟩
 have S:=hid S
 have C:=hid C
 obtain⟨s,hr,hv⟩:=S.out.at (b:=b4) (v:=V4) (by simp)
 have hr:=hid hr
 have hv:=hid hv
 have hlv:(prog.info? 29).map (·.size)=some (Ac V4 s).length:=hi8
 go_wp2_with (refine Ak rfl 29 _ rfl b4 0 rfl (Ac V4 s) _ hr.out underlying29 rfl hlv ?_)
 refine (H.out.ax2 w _ _ c r1 r2 s h9.out S.out C.out hv.out).mono ?_
 clear hr hv hlv S C
 rintro e w6 ⟨rfl,S,C⟩
 have S:=hid S
 have C:=hid C
 go_wp2_with fail
 refine (H.out.vx2 w _ _ c r1 r2 _ S.out C.out).mono ?_
 clear S C
 rintro e w7 ⟨rfl,S,C⟩
 have S:=hid S
 have C:=hid C
 go_wp2_with fail
 refine (H.out.act _ S.out.gc).mono ?_
 rintro e w9 ⟨rfl,hb⟩
 have S:=hid (S.out.go hb)
 clear hb C
 go_wp2
 go_ret
 exact⟨rfl,S.out.below⟩
def keysOk (keys:List (List UInt8)):Bool:=!(keys.length==0)&&CH.digests keys 6
def NewRet (w:World) (keys:List (List UInt8)) (e:Ending) (w':World):Prop :=
 Below w.heap.size w w'∧if keysOk keys=true then ∃ c r1 r2,e=.returned (.tuple #[.pointer (some ⟨c,0,none⟩),.int .i64 0])∧ChainAt w' c r1 r2 keys [] []∧w.heap.size≤c∧w.heap.size≤r1∧w.heap.size≤r2
  else e=.returned (.tuple #[.pointer none,.int .i64 1])
theorem alloc3_at (w:World) (o1 o2 o3:Obj):(((w.alloc o1).alloc o2).alloc o3).heap[w.heap.size]?=some o1∧(((w.alloc o1).alloc o2).alloc o3).heap[w.heap.size+1]?=some o2∧(((w.alloc o1).alloc o2).alloc o3).heap[w.heap.size+1+1]?=some o3:=by
 refine⟨?_,?_,?_⟩ <;> simp only [World.alloc,Array.getElem?_push,Array.size_push]
 ·rw [if_neg (by omega),if_neg (by omega),if_pos trivial]
 ·rw [if_neg (by omega),if_pos trivial]
 ·rw [if_pos trivial]
theorem new_any (v:Value) (keys:List (List UInt8)) (w:World) (hG:Gl w) (hv:Strs w.heap.size w v keys) (hl:∀ l∈keys,l.length≤9223372036854775807) (hlen:keys.length≤1099511627776) :
  Calls prog 11 #[v] w (NewRet w keys):=by
 have D:=digests_any2 v keys 6 w hG hv hl
 have C:=hid fun (W:World) (hb:Below w.heap.size w W)=>clone_any v keys W ((hv.below hb nR).mono hb.size) hlen
 obtain⟨b,hb⟩:∃ b,CH.digests keys 6=b:=⟨_,rfl⟩
 rw [hb] at D
 replace D:=hid D
 replace hb:=hid hb
 have hmm:=@run_makeMap prog
 obtain⟨a,cap,rfl,_,_⟩:=hv.form
 obtain⟨N,hN⟩:∃ N,keys.length=N:=⟨_,rfl⟩
 have hok:∀ x,Hid ((!(N==0)&&b)=x)→keysOk keys=x:=fun x hx=>by rw [← hx.out,← hb.out,← hN];rfl
 rw [hN] at D C ⊢
 replace hN:=hid hN
 clear hv hl hlen
 by_cases h0:N=0
 ·subst h0
  have hk:=hok false (hid rfl)
  clear hok
  go_enter func11,ntmps11
  go_wp2_with fail
  refine bodyPost_ret (results_tmp2 rfl _ _ _) rfl ?_
  refine⟨Below.refl _ _,?_⟩
  rw [hk]
  rfl
 ·have q:((N:Int)==0)=false:=by simpa using (by omega:¬ (N:Int)=0)
  have q':(N==0)=false:=by simpa using h0
  go_enter func11,ntmps11
  go_wp2_with fail
  refine D.out.mono ?_
  rintro e w1 ⟨rfl,hb1⟩
  clear D
  cases b with
  | false =>
   have hk:=hok false (hid (by rw [Bool.and_false]))
   clear hok
   go_wp2
   refine bodyPost_ret (results_tmp2 rfl _ _ _) rfl ?_
   refine⟨hb1,?_⟩
   rw [hk]
   rfl
  | true =>
   have hk:=hok true (hid (by rw [q'];rfl))
   clear hok
   go_wp2_with fail
   refine (C.out _ hb1).mono ?_
   rintro e w2 ⟨vk,rfl,hO,hb2⟩
   have hB2:Below w.heap.size w w2:=hb1.trans (hb2.mono hb1.size)
   have hOs:=hid hO.strs
   obtain⟨ak,ck,rfl,_,_,_⟩:=hO.form
   clear C hO
   generalize keys.length=NN at *
   go_wp2
   refine bodyPost_ret (results_tmp2 rfl _ _ _) rfl ?_
   have hB3:=fun o1 o2 o3=>(((Below.refl _ w2).alloc nR o1).alloc (by simp) o2).alloc (by simp;omega) o3
   refine⟨hB2.trans ((hB3 _ _ _).mono hB2.size),?_⟩
   rw [hk,if_pos rfl]
   refine⟨w2.heap.size+1+1,w2.heap.size,w2.heap.size+1,rfl,?_,?_,?_,?_⟩
   ·obtain⟨a1,a2,a3⟩:=alloc3_at w2 (.map #[] 0) (.map #[] 0) (.cells #[.slice ak NN ck,.map (some w2.heap.size),.map (some (w2.heap.size+1))] 87)
    exact⟨⟨_,a3,(hOs.out.below (hB3 _ _ _) nR).mono (hB3 _ _ _).size⟩,⟨[],⟨#[],0,a1,rfl,by simp,by simp⟩,trivial⟩,⟨[],⟨#[],0,a2,rfl,by simp,by simp⟩,trivial⟩,by omega⟩
   ·have:=hB2.size;omega
   ·exact hB2.size
   ·have:=hB2.size;omega
end
end Go.Proofs.YtjepldaciejieaaGreatDoor
