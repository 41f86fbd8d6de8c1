/-
  ChainSeals: the proof, part 11 of 15.
-/
import Derived.Test.YtjepldaciejieaaGreatDoorP09
import Derived.Shelf.SlIter.Stops
import Derived.RangeFuncFrom
import Derived.RangeFuncBox
import Derived.Shelf.SlSortCmp.InsertionK
import Derived.Deep.OwnRows
import Derived.Deep.Slices
import Derived.DataShut
import Derived.Deep.Strs
set_option linter.unusedSimpArgs false
set_option linter.unusedVariables false
set_option maxHeartbeats 40000000
set_option maxRecDepth 100000
namespace Go.Proofs.YtjepldaciejieaaGreatDoor
section
open Go.Lib Go.Maps Go.Proofs.Tryz Go.RowKit Go.Shelf Go.Sort
section
variable {F:Fence} {n:Nat} {P:Program} {w w':World} {ops:Array Oper} {rest:List Oper} {o:Oper} {a:Act} {Q:Exit→Act→World→Prop} {v:Value}
theorem wpListIn_range_run (hg:o.guard=none) (m:Operand) (t:TypeId) (hop:o.op=Op.range t m) (mv:Value) (hm:a.eval m=mv) (hrun:(Instr.range t mv).run P w=.ok v w') (h:wpListIn F n P ops Q rest (a.put o.dst v) w'):wpListIn F n P ops Q (o::rest) a w:=by
 refine wpListIn_plain hg fun K' hK'=>?_
 unfold Oper.wpIn
 refine⟨by simp [Oper.about,hop],?_⟩
 rw [Oper.semAt_plain F _ _ (by rw [hop];intro c hc';cases hc')]
 simp [execOp,hop,hm,hrun,Result.andThen]
 exact hK' _ _ h
theorem wpListIn_next_run (hg:o.guard=none) (it:Operand) (hop:o.op=Op.next it false) (iv:Value) (hit:a.eval it=iv) (hrun:(Instr.next iv false o.type).run P w=.ok v w') (h:wpListIn F n P ops Q rest (a.put o.dst v) w'):wpListIn F n P ops Q (o::rest) a w:=by
 refine wpListIn_plain hg fun K' hK'=>?_
 unfold Oper.wpIn
 refine⟨by simp [Oper.about,hop],?_⟩
 rw [Oper.semAt_plain F _ _ (by rw [hop];intro c hc';cases hc')]
 simp [execOp,hop,hit,hrun,Result.andThen]
 exact hK' _ _ h
end
def PIter (w:World) (r it:Nat) (kvs:List ((Int × Int) × Value)) (done:List (Int × Int)):Prop :=
 ∃ (es:Array MapEntry) (clock:Nat) (seen:Array Nat),w.heap[r]?=some (.map es clock)∧w.heap[it]?=some (.mapIter (some r) clock seen clock) ∧
  es.toList.map (fun e=>(e.key,e.val))=kvs.map (fun p=>(Al p.1,p.2))∧(∀ x∈es.toList,x.born<clock)∧(es.toList.map (·.born)).Nodup ∧
  (∀ x∈es.toList,∀ p,x.key=Al p→(seen.contains x.born=true↔p∈done))∧done.Nodup∧∀ p∈done,p∈kvs.map (·.1)
theorem placeV_inj {p q:Int × Int} (h:Al p=Al q):p=q:=by
 obtain⟨a,b⟩:=p
 obtain⟨c,d⟩:=q
 simp only [Al] at h
 injection h with h
 simp at h
 exact Prod.ext h.1 h.2
theorem PIter.start {w:World} {r:Nat} {kvs:List ((Int × Int) × Value)} (h:A6 Al r w kvs) {T E:TypeId} (hT:prog.underlying T=some (.map 89 E)) :
  ∃ w',(Instr.range T (.map (some r))).run prog w=.ok (.pointer (some ⟨w.heap.size,0,none⟩)) w'∧PIter w' r w.heap.size kvs []∧w.grownBy w' none:=by
 obtain⟨es,clock,hb,hes,hold,hnd⟩:=h
 have hlt:r<w.heap.size:=(aZ hb)
 exact⟨_,run_range_map w T 89 E r es clock hT hb,⟨es,clock,#[],((MapKept.heap_alloc w _).2 r hlt).trans hb,(MapKept.heap_alloc w _).1,hes,hold,hnd,fun x _ p _=>by simp,by simp,by simp⟩,World.grownBy_alloc w _ none⟩
theorem PIter.kept {w w':World} {r it:Nat} {kvs:List ((Int × Int) × Value)} {done:List (Int × Int)} {row:Option Nat} (h:PIter w r it kvs done) (hg:w.grownBy w' row) (h1:some r≠row) (h2:some it≠row):PIter w' r it kvs done:=by
 obtain⟨es,clock,seen,e1,e2,e3⟩:=h
 exact⟨es,clock,seen,(hg.block r (aZ e1) h1).trans e1,(hg.block it (aZ e2) h2).trans e2,e3⟩
def PLeft (w:World) (r it:Nat):Nat :=
 match w.heap[r]?,w.heap[it]? with
 | some (.map es _),some (.mapIter _ _ seen _)=>(leftOf es seen).size
 | _,_=>0
theorem PIter.step {w:World} {r it:Nat} {kvs:List ((Int × Int) × Value)} {done:List (Int × Int)} (h:PIter w r it kvs done) (hne:it≠r) (hk:(kvs.map (·.1)).Nodup) (ty:TypeId) :
  ((∀ p∈kvs.map (·.1),p∈done)∧(Instr.next (.pointer (some ⟨it,0,none⟩)) false ty).run prog w=.ok (.tuple #[.bool false]) w) ∨
  ∃ p x w',(p,x)∈kvs∧p ∉ done∧(Instr.next (.pointer (some ⟨it,0,none⟩)) false ty).run prog w=.ok (.tuple #[.bool true,Al p,x]) w'∧PIter w' r it kvs (done++[p])∧w.grownBy w' (some it)∧PLeft w' r it<PLeft w r it ∧
   (Instr.entry (.pointer (some ⟨it,0,none⟩))).run prog w'=.ok (.tuple #[Al p,x]) w':=by
 obtain⟨es,clock,seen,hb,hit,hes,hold,hnd,hsd,hdn,hsub⟩:=h
 have hkv:∀ e∈es.toList,∃ p,(p,e.val)∈kvs∧e.key=Al p:=fun e he=>by
  have:(e.key,e.val)∈kvs.map (fun p=>(Al p.1,p.2)):=hes ▸ List.mem_map.2 ⟨e,he,rfl⟩
  obtain⟨⟨k,v⟩,hk',e1⟩:=List.mem_map.1 this
  simp only [Prod.mk.injEq] at e1
  exact⟨k,e1.2 ▸ hk',e1.1.symm⟩
 have hvk:∀ p∈kvs.map (·.1),∃ e∈es.toList,e.key=Al p:=fun p hp=>by
  obtain⟨⟨k,v⟩,hk',rfl⟩:=List.mem_map.1 hp
  have:(Al k,v)∈es.toList.map (fun e=>(e.key,e.val)):=hes ▸ List.mem_map.2 ⟨(k,v),hk',rfl⟩
  obtain⟨e,he,e1⟩:=List.mem_map.1 this
  simp only [Prod.mk.injEq] at e1
  exact⟨e,he,e1.1⟩
 rcases _root_.Go.run_next_at (P:=prog) w ty it r clock clock seen es clock hit hb hold nR with⟨h0,hrun⟩|⟨e,he,w1,hal,hrun⟩
 ·refine .inl ⟨fun p hp=>?_,hrun⟩
  obtain⟨e,he,hek⟩:=hvk p hp
  exact (hsd e he p hek).1 (all_seen es seen h0 e he)
 ·obtain⟨hem,hes'⟩:=mem_left he
  obtain⟨p,hp,hek⟩:=hkv e hem
  have hpd:p ∉ done:=fun hd=>by
   have:=(hsd e hem p hek).2 hd
   rw [hes'] at this
   cases this
  have hit1:w1.heap[it]?=some (.mapIter (some r) clock seen clock):=by rcases hal with rfl|rfl <;> exact hit
  have hr1:w1.heap[r]?=some (.map es clock):=by rcases hal with rfl|rfl <;> exact hb
  have hset:=MapKept.heap_set (o':=.mapIter (some r) clock (seen.push e.born) clock) hit1
  have hr2:(ChangeMaps.setBlock w1 it (.mapIter (some r) clock (seen.push e.born) clock)).heap[r]?=some (.map es clock):=(hset.2 r (fun e1=>hne e1.symm)).trans hr1
  have hkeys:(es.toList.map (·.key)).Nodup:=by
   have e1:es.toList.map (·.key)=kvs.map (fun p=>Al p.1):=by
    have:=congrArg (List.map Prod.fst) hes
    simpa [List.map_map,Function.comp_def] using this
   rw [e1]
   have:kvs.map (fun p=>Al p.1)=(kvs.map (·.1)).map Al:=by simp [List.map_map,Function.comp_def]
   rw [this]
   unfold List.Nodup at hk ⊢
   rw [List.pairwise_map]
   exact hk.imp fun hne' h'=>hne' (placeV_inj h')
  have hinj:∀ x∈es.toList,x.key=e.key→x=e:=fun x hx hxe=>entry_eq_of_key (by unfold List.Nodup at hkeys;exact List.pairwise_map.1 hkeys) hx hem hxe
  refine .inr ⟨p,e.val,_,hp,hpd,by rw [← hek];exact hrun,⟨es,clock,seen.push e.born,hr2,hset.1,hes,hold,hnd,fun x hx q hq=>?_,?_,fun q hq=>?_⟩,?_,?_,?_⟩
  ·rw [contains_push,Bool.or_eq_true,hsd x hx q hq,List.mem_append,List.mem_singleton]
   refine or_congr_right ⟨fun hbb=>?_,fun hqp=>?_⟩
   ·have:=born_inj hnd hx hem (beq_iff_eq.1 hbb)
    subst this
    exact placeV_inj (hq.symm.trans hek)
   ·subst hqp
    rw [hinj x hx (hq.trans hek.symm)]
    exact beq_self_eq_true _
  ·rw [List.nodup_append]
   refine⟨hdn,by simp,fun a ha b hb' e1=>?_⟩
   rw [List.mem_singleton] at hb'
   subst hb'
   subst e1
   exact hpd ha
  ·rcases List.mem_append.1 hq with h1|h1
   ·exact hsub q h1
   ·rw [List.mem_singleton] at h1
    subst h1
    exact List.mem_map.2 ⟨_,hp,rfl⟩
  ·rcases hal with rfl|rfl <;> exact⟨rfl,rfl,rfl,by simp [ChangeMaps.setBlock],fun i _ hi=>hset.2 i (fun e1=>hi (by rw [e1]))⟩
  ·have e1:PLeft (ChangeMaps.setBlock w1 it (.mapIter (some r) clock (seen.push e.born) clock)) r it=(leftOf es (seen.push e.born)).size:=by
    have hs1:(ChangeMaps.setBlock w1 it (.mapIter (some r) clock (seen.push e.born) clock)).heap[it]?=_:=hset.1
    unfold PLeft
    rw [hr2,hs1]
   have e2:PLeft w r it=(leftOf es seen).size:=by
    unfold PLeft
    rw [hb,hit]
   rw [e1,e2]
   exact left_shrinks es seen e he
  ·rw [← hek]
   exact _root_.Go.run_entry_at (P:=prog) _ it r clock seen es clock e hset.1 hr2 hem hnd
def KeyAll (kvs:List ((Int × Int) × Value)) (ps:List (Int × Int)):Prop:=ps.Nodup∧∀ p,p∈ps↔p∈kvs.map (·.1)
def KeyPart (kvs:List ((Int × Int) × Value)) (ps:List (Int × Int)):Prop:=ps.Nodup∧∀ p∈ps,p∈kvs.map (·.1)
theorem PIter.walks {w w':World} {r it:Nat} {kvs:List ((Int × Int) × Value)} {done:List (Int × Int)} (h:PIter w r it kvs done) (hk:KeepsWalks w w'):PIter w' r it kvs done∧PLeft w' r it=PLeft w r it:=by
 obtain⟨es,clock,seen,e1,e2,e3⟩:=h
 have f1:=hk.same _ _ e1 rfl
 have f2:=hk.same _ _ e2 rfl
 exact⟨⟨es,clock,seen,f1,f2,e3⟩,by simp only [PLeft,e1,e2,f1,f2]⟩
theorem PIter.nodup {w:World} {r it:Nat} {kvs:List ((Int × Int) × Value)} {done:List (Int × Int)} (h:PIter w r it kvs done):done.Nodup∧∀ p∈done,p∈kvs.map (·.1):=by
 obtain⟨_,_,_,_,_,_,_,_,_,h1,h2⟩:=h
 exact⟨h1,h2⟩
theorem PIter.walk {w:World} {r it:Nat} {kvs:List ((Int × Int) × Value)} {done:List (Int × Int)} (h:PIter w r it kvs done):∃ o:Obj,w.heap[it]?=some o∧o.isWalk=true:=by
 obtain⟨_,_,_,_,e2,_⟩:=h
 exact⟨_,e2,rfl⟩
theorem nodup_len {α:Type} [BEq α] [LawfulBEq α]:∀ (l m:List α),l.Nodup→(∀ x∈l,x∈m)→l.length≤m.length
 | [],_,_,_=>Nat.zero_le _
 | a::l,m,hn,hs=>by
  rw [List.nodup_cons] at hn
  have ha:=hs a (by simp)
  have h1:=nodup_len l (m.erase a) hn.2 (fun x hx=>(List.mem_erase_of_ne (fun e=>by subst e;exact hn.1 hx)).2 (hs x (by simp [hx])))
  rw [List.length_erase_of_mem ha] at h1
  have:=List.length_pos_of_mem ha
  rw [List.length_cons]
  omega
theorem below_keepsWalks {w w':World} (h:Below w.heap.size w w'):KeepsWalks w w':=⟨h.size,fun k o hk _=>(h.block k (aZ hk)).trans hk⟩
theorem grownBy_below {w w':World} (h:Below w.heap.size w w'):w.grownBy w' none:=⟨h.os,h.tape,h.output,h.size,fun k hk _=>h.block k hk⟩
theorem keysP_stops (F:Fence) (n:Nat) (h10:F.fn 119) (hro:F.round=none) (hn:1≤n) (Bm r:Nat) (kvs:List ((Int × Int) × Value)) (w:World) (hBm:Bm<w.heap.size)
  (hm:w.cell? ⟨Bm,0,none⟩=some (.map (some r))) (hmap:A6 Al r w kvs) (hk:(kvs.map (·.1)).Nodup) :
  SeqStopsK F n prog 119 #[.pointer (some ⟨Bm,0,none⟩)] (fun p=>#[Al p]) KeepsWalks (KeyAll kvs) (KeyPart kvs) kvs.length w:=fun l J Jx W hW hJ _ hY h0=>by
 have hm:=(hW.cell (p:=⟨Bm,0,none⟩) hBm).trans hm
 have hmap:=hmap.below hW
 obtain⟨w0,hrun0,hit0,hg0⟩:=PIter.start hmap underlying83
 have hne:W.heap.size≠r:=fun e=>by have:=hmap.lt;omega
 refine callsIn_of_wp func119 rfl h10 ?_ hro
 simp only [ntmps119,List.size_toArray,List.length_cons,List.length_nil,Nat.reduceAdd,Nat.reduceSub,Array.replicate_succ,Array.replicate_zero,List.push_toArray,List.append_toArray,List.nil_append,List.cons_append]
 gi_wp2_with (first
  |(gi_at_range;refine wpListIn_range_run rfl _ 83 rfl _ rfl hrun0 ?_)
  | gi_in)
 gi_loopw [3] (fun _ wr=>∃ done,PIter wr r W.heap.size kvs done∧J done wr) (fun _ wr=>PLeft wr r W.heap.size)
 case atStart=>exact⟨[],hit0,hJ [] W w0 none h0 hg0 (fun r e=>by cases e)⟩
 case round =>
  obtain⟨done,hit,hJs⟩:=hrel
  rcases hit.step hne hk 0 with⟨hall,hrun⟩|⟨p,x,w2,hp,hpd,hrun,hit2,hg2,hlt,hen⟩
  ·gi_wp2_with (first|(gi_at_next;refine wpListIn_next_run rfl _ rfl _ rfl hrun ?_)|gi_in)
   go_end0
   exact⟨⟨_,rfl⟩,.inl ⟨done,⟨hit.nodup.1,fun p=>⟨hit.nodup.2 p,hall p⟩⟩,hJs⟩⟩
  ·obtain⟨p1,p2⟩:=p
   dsimp only [Al] at hrun hen
   have hJ2:J done w2:=hJ done wr w2 (some W.heap.size) hJs hg2 (fun r e=>by cases e;exact⟨Nat.le_refl _,hit.walk⟩)
   have hlen:done.length<kvs.length:=by
    have:=nodup_len _ _ hit2.nodup.1 hit2.nodup.2
    simp at this
    omega
   have hb3:Below w2.heap.size w2 (w2.alloc (.cells #[.int .i64 p1,.int .i64 p2] 89)):=(Below.refl _ w2).alloc nR _
   have hJ3:=hJ done w2 _ none hJ2 (grownBy_below hb3) (fun r e=>by cases e)
   obtain⟨hit3,hl3⟩:=hit2.walks (below_keepsWalks hb3)
   obtain⟨fn,tmps,assign,body,hy,hR⟩:=hY done (p1,p2) _ hJ3 hlen
   dsimp only [Al] at hy
   clear hb3 hJ3
   gi_wp2_with (first|(gi_at_next;refine wpListIn_next_run rfl _ rfl _ rfl hrun ?_)|gi_in)
   refine hR.mono ?_
   rintro e W4 (⟨rfl,hJ4,hk4⟩|⟨rfl,hJx4⟩)
   ·obtain⟨hit4,hl4⟩:=hit3.walks hk4
    gi_wp2
    go_roundw
    case rel=>exact⟨done++[(p1,p2)],hit4,hJ4⟩
    case measure=>rw [hl4,hl3];exact hlt
   ·gi_wp2
    refine bodyPost_ret (results_none rfl _ _ _) rfl ?_
    exact⟨⟨_,rfl⟩,.inr ⟨done++[(p1,p2)],hit2.nodup,hJx4⟩⟩
end
section
open Go.Lib Go.Proofs.Tryz Go.RowKit Go.Shelf Go.Sort
section
variable {F:Fence} {n:Nat} {P:Program}
theorem rangeFunc_b {α:Type} {g:Operand} {ps:Array Tmp} {assign body:Code} {Q:Exit→Act→World→Prop} {a:Act} {w:World}
  (hro:F.round=none) (h1:1≤n) {gf:Nat} {lb:Array Value} (hg:a.eval g=.func (.func gf) #[] lb) (hFg:F.fn gf) (eg:∀ args w,(callFunc gf args).run P w=.ok (.enter gf args) w)
  {encs:α→Array Value} {S Sp:List α→Prop} {N:Nat} {w0:World} (hseq:SeqStopsK F (n - 1) P gf lb encs KeepsWalks S Sp N w0)
  (hb0:Below w0.heap.size w0 w) (hps:∀ x,(encs x).size=ps.size)
  (I:List α→World→Prop) (hI:OwnFrom w.heap.size I) (h0:I [] w) (a₁:α→Nat→Act) (asg:α→World→World) (Bx:α→Nat→World→Prop)
  (hassign:∀ (l:Nat) (x:α) (W:World) (K:Act→World→Prop),K (a₁ x W.heap.size) (asg x W) →
   assign.wpIn (F.inRound l) (n - 1 - 1) P (Exit.then K (fun _ _ _=>False)) { tmps:=(ps.zip (encs x)).foldl (fun t (p,v)=>t.setIfInBounds p v) a.tmps,defers:=[] } W)
  (hasg:∀ x W,Below W.heap.size W (asg x W)) (hBx:∀ x W,Bx x W.heap.size (asg x W))
  (hBp:∀ x b V l (o o':Obj),Bx x b V→V.heap[l]?=some o→o.isCells=false→Bx x b (V.putObj l o'))
  (hbody:∀ (l:Nat) (pre:List α) (x:α) (b:Nat) (W:World),I pre W→Bx x b W→pre.length<N→body.wpIn (F.inRound l) (n - 1 - 1) P (ownPostK KeepsWalks I (fun _ _ _=>False) (pre++[x]) W) (a₁ x b) W)
  (hdone:∀ (D:Nat) (xs:List α) (W:World),w.heap.size≤D→S xs→I xs W→W.heap[D]?=some (.deferred (some []))→Q .normal { a with defers:={ target:=.collected D,args:=#[] }::a.defers } W) :
  (Code.rangeFunc g ps assign body).wpIn F n P Q a w:=by
 refine wpIn_rangeFunc ?_
 intro fn hfn
 rw [hro]
 obtain⟨rec,hrec⟩:∃ rec:LoopState→Option Code→Loop,rec=fun st pe=>{ state:=st,pending:=pe,fn,tmps:=a.tmps,params:=ps,assign,body,defers:=w.heap.size }:=⟨_,rfl⟩
 obtain⟨V,hV⟩:∃ V,(w.alloc (.deferred (some []))).alloc (.loop (rec .ready none))=V:=⟨_,rfl⟩
 have bV:Below w.heap.size w V:=by rw [← hV];exact ((Below.refl _ w).alloc nR _).alloc (by simp) _
 have zV:V.heap.size=w.heap.size+1+1:=by rw [← hV];simp
 have loopV:V.heap[w.heap.size+1]?=some (.loop (rec .ready none)):=by
  have:=heap_alloc_last (w.alloc (.deferred (some []))) (.loop (rec .ready none))
  rw [World.size_alloc,hV] at this
  exact this
 have deferV:V.heap[w.heap.size]?=some (.deferred (some [])):=by
  rw [← hV];exact (Below.heap_alloc _ _ _ (by simp)).trans (heap_alloc_last w _)
 have IV:I [] V:=by rw [← hV];exact hI.alloc _ (hI.alloc _ h0)
 refine⟨w.heap.size+1,[{ target:=.collected w.heap.size,args:=#[] }],V,{ target:=.fn (.func gf) lb,args:=#[.func (.yield (w.heap.size+1)) #[] #[]] },V,gf,
  #[.func (.yield (w.heap.size+1)) #[] #[]]++lb,V,?_,?_,?_,?_,fun _=>h1,?_⟩
 ·rw [← hV,hrec];exact run_enterLoop_outer _ _ _ _ _
 ·simp only [resolve,hg]
  simp [go_sem]
 ·intro f' hf';simp [Target.leads] at hf';subst hf';exact hFg
 ·simp [invoke,go_sem,eg]
 have far:∀ {A:World} {row:Option Nat},(∀ r,row=some r→V.heap.size≤r∧∃ o:Obj,A.heap[r]?=some o∧o.isWalk=true)→∀ r,row=some r→w.heap.size≤r∧∃ o:Obj,A.heap[r]?=some o∧o.isCells=false :=
  fun hr r e=>by obtain⟨h1,o,h2,h3⟩:=hr r e;exact⟨by omega,o,h2,Obj.not_cells_of_walk h3⟩
 refine (hseq (w.heap.size+1)
  (fun pre A=>I pre A∧A.heap[w.heap.size+1]?=some (.loop (rec .ready none))∧A.heap[w.heap.size]?=some (.deferred (some [])))
  (fun _ _=>False)
  V (hb0.trans (bV.mono hb0.size))
  (fun s A B row hs hg' hr=>⟨hI s A B row hs.1 hg' (far hr),(grownBy_keeps hg' (fun r e=>(hr r e).2) hs.2.1 rfl).trans hs.2.1,(grownBy_keeps hg' (fun r e=>(hr r e).2) hs.2.2 rfl).trans hs.2.2⟩)
  (fun _ _ _ _ hs _ _=>hs)
  ?_ ⟨IV,loopV,deferV⟩).mono ?_
 ·rintro pre x A0 ⟨hi0,hl0,hk0⟩ hlen
  have hlt0:w.heap.size+1<A0.heap.size:=(aZ hl0)
  have hy:=run_yield (P:=P) (args:=encs x) hl0 (by rw [hrec];exact hps x)
  rw [hrec] at hy
  obtain⟨A,hA⟩:∃ A,asg x A0=A:=⟨_,rfl⟩
  have bA:Below A0.heap.size A0 A:=by rw [← hA];exact hasg x A0
  have xA:Bx x A0.heap.size A:=by rw [← hA];exact hBx x A0
  have hi:I pre A:=hI pre A0 A none hi0 (grownBy_below bA) (fun r e=>by cases e)
  have hl:A.heap[w.heap.size+1]?=some (.loop (rec .ready none)):=(bA.block _ hlt0).trans hl0
  have hk:A.heap[w.heap.size]?=some (.deferred (some [])):=(bA.block _ (by omega)).trans hk0
  have hlt:w.heap.size+1<A.heap.size:=(aZ hl)
  refine⟨fn,_,assign,body,hy,roundIn_of_wpIn hfn (hassign _ x A0 _ ?_)⟩
  rw [hA]
  refine⟨_,run_beginRound hl (by rw [hrec]),?_⟩
  obtain⟨busy,hbusy⟩:∃ b:Obj,b=.loop { rec .ready none with state:=.busy }:=⟨_,rfl⟩
  rw [← hbusy]
  have l2:(A.putObj (w.heap.size+1) busy).heap[w.heap.size+1]?=some busy:=World.putObj_heap_same hlt
  have k2:(A.putObj (w.heap.size+1) busy).heap[w.heap.size]?=some (.deferred (some [])):=(World.putObj_heap_other (by omega)).trans hk
  have b2:KeepsWalks A0 (A.putObj (w.heap.size+1) busy):=(below_keepsWalks bA).trans (KeepsWalks.putObj _ hl rfl)
  have i2:I pre (A.putObj (w.heap.size+1) busy):=hI.putObj _ hi (by omega) hl rfl
  have x2:Bx x A0.heap.size (A.putObj (w.heap.size+1) busy):=hBp _ _ _ _ _ _ xA hl rfl
  have ends:∀ (C:World),KeepsOthers (A.putObj (w.heap.size+1) busy) C →
    (Instr.endRound (w.heap.size+1) none).run P C=.ok (.bool true) (C.putObj (w.heap.size+1) (.loop (rec .ready none))) ∧
    C.heap[w.heap.size+1]?=some busy ∧
    (C.putObj (w.heap.size+1) (.loop (rec .ready none))).heap[w.heap.size+1]?=some (.loop (rec .ready none)) ∧
    (C.putObj (w.heap.size+1) (.loop (rec .ready none))).heap[w.heap.size]?=some (.deferred (some [])):=fun C hC=>by
   have l3:=hC.same _ _ l2 (by rw [hbusy];rfl)
   have l3':=l3
   rw [hbusy] at l3'
   have:=run_endRound (P:=P) none l3'
   rw [hrec] at this ⊢
   exact⟨this,l3,World.putObj_heap_same (aZ l3),(World.putObj_heap_other (by omega)).trans (hC.same _ _ k2 rfl)⟩
  refine wpIn_mono (hbody _ pre x _ _ i2 x2 hlen) ?_
  rintro e a3 C hC
  cases e with
  | normal =>
   obtain⟨hk3,hkp3,hi3⟩:=hC
   obtain⟨hr,hl3,hl4,hk4⟩:=ends C hk3
   exact⟨_,_,hr,.inl ⟨rfl,⟨hI.putObj _ hi3 (by omega) hl3 (by rw [hbusy];rfl),hl4,hk4⟩,(b2.trans hkp3).trans (KeepsWalks.putObj _ hl3 (by rw [hbusy];rfl))⟩⟩
  | ret=>exact hC.2.elim
  | exit id=>exact hC.2.elim
  | goto t=>exact hC.2.elim
  | panic ch=>exact hC.elim
  | outgrown=>exact hC.elim
 ·rintro e B ⟨⟨v,rfl⟩,(⟨xs,hS,hi,hl,hk⟩|⟨pre,hSp,hf⟩)⟩
  ·exact⟨none,_,by have:=run_endLoop (P:=P) hl (by rw [hrec];simp);rw [hrec] at this;exact this,hdone _ xs _ nR hS (hI.putObj _ hi (by omega) hl rfl) ((World.putObj_heap_other (by omega)).trans hk)⟩
  ·exact hf.elim
end
end
section
open Go.Lib Go.Proofs.Tryz Go.RowKit Go.Shelf Go.Sort
attribute [local go_sem] Oper.semAt_some
def encP (p:Int × Int):List Value:=[intV p.1,intV p.2]
theorem encP_one (p:Int × Int):∀ u∈encP p,u.oneCell'=true:=by
 intro u hu
 simp only [encP,List.mem_cons,List.not_mem_nil,or_false] at hu
 rcases hu with rfl|rfl <;> rfl
theorem placeInfo:(prog.info? 89).map (fun i=>(i.zero,i.size,i.bytes))=some (some (.agg #[.int .i64 0,.int .i64 0]),2,16):=by kernel_rfl
theorem cells_two (W:World) (a b:Value) (T:TypeId):∀ (j:Nat) (u:Value),([a,b]:List Value)[j]?=some u→(W.alloc (.cells #[a,b] T)).cell? ((⟨W.heap.size,0,none⟩:Addr).add j)=some u:=fun j u hj=>by
 have h:=Bl W [a,b] T j u hj
 rw [Nat.zero_add] at h
 rw [show (⟨W.heap.size,0,none⟩:Addr).add j=⟨W.heap.size,j,none⟩ from by simp [Addr.add];omega]
 exact h
def ApP (w0:World) (Bs:Nat) (ps:List (Int × Int)) (W:World):Prop :=
 (∃ v,Boxed W Bs 144 v∧W.ownsRow w0.heap.size 89 2 v ps.length (ps.flatMap encP))∧Below w0.heap.size w0 W
theorem ApP.own (w0:World) (Bs B:Nat) (hB:w0.heap.size≤B):OwnFrom B (ApP w0 Bs):=by
 rintro ps W W' row ⟨⟨v,hv,hr⟩,hb⟩ hg hrow
 refine⟨⟨v,hv.kept hg fun e=>?_,hr.kept hg ?_⟩,hb.grown hg hb.size fun k e=>nT hB (hrow k e).1⟩
 ·obtain⟨_,o,ho,hc⟩:=hrow Bs e.symm
  have hv':W.heap[Bs]?=some (.cells #[v] 144 (0,0)):=hv
  rw [hv'] at ho;cases ho;cases hc
 ·rcases hr.2 with⟨rfl,_⟩|⟨g,cap,cur,rfl,_,hgb,_⟩
  ·exact .inl rfl
  ·refine .inr fun e=>?_
   obtain⟨_,o,ho,hc⟩:=hrow g (by simpa [Value.ownBlock] using e.symm)
   rw [hgb] at ho;cases ho;cases hc
theorem appendSeqP_any (Bm r:Nat) (kvs:List ((Int × Int) × Value)) (w:World) (hBm:Bm<w.heap.size) (hm:w.cell? ⟨Bm,0,none⟩=some (.map (some r))) (hmap:A6 Al r w kvs) (hk:(kvs.map (·.1)).Nodup) (hN:kvs.length≤1000000) :
  Calls prog 169 #[.slice none 0 0,.func (.func 119) #[] #[.pointer (some ⟨Bm,0,none⟩)]] w fun e w' =>
   ∃ v ps,e=.returned v∧KeyAll kvs ps∧w'.ownsRow w.heap.size 89 2 v ps.length (ps.flatMap encP)∧Below w.heap.size w w':=by
 refine (callsIn_wide (n:=4)).1 ?_
 refine callsIn_of_wp_marks func169 rfl trivial ?_ rfl
 simp only [ntmps169,List.size_toArray,List.length_cons,List.length_nil,Nat.reduceAdd,Nat.reduceSub,Array.replicate_succ,Array.replicate_zero,List.push_toArray,List.append_toArray,List.nil_append,List.cons_append]
 gi_wp2
 obtain⟨W0,hW0⟩:∃ W0,w.alloc (.cells #[.slice none 0 0] 144)=W0:=⟨_,rfl⟩
 have hb0:Below w.heap.size w W0:=by rw [← hW0];exact (Below.refl _ w).alloc nR _
 have hv0:Boxed W0 w.heap.size 144 (.slice none 0 0):=by rw [← hW0];exact Boxed.new w _ _
 rw [hW0]
 clear hW0
 refine rangeFunc_b (n:=4) (α:=Int × Int) rfl (by decide) (gf:=119) (lb:=#[.pointer (some ⟨Bm,0,none⟩)]) rfl trivial (enters_of func119 (by kernel_rfl) rfl)
  (keysP_stops Fence.wide 3 trivial rfl (by decide) Bm r kvs w hBm hm hmap hk) hb0 (fun _=>rfl) (ApP w w.heap.size) (ApP.own _ _ _ hb0.size) ⟨⟨_,hv0,World.ownsRow_nil W0 _ _ _⟩,hb0⟩
  (fun x b=>{ tmps:=#[.slice none 0 0,.func (.func 119) #[] #[.pointer (some ⟨Bm,0,none⟩)],.pointer (some ⟨w.heap.size,0,none⟩),undef,.slice none 0 0,.pointer (some ⟨b,0,none⟩),.func (.func 119) #[] #[.pointer (some ⟨Bm,0,none⟩)],Al x,undef,undef,undef,undef,undef],defers:=[] })
  (fun x W=>W.alloc (.cells #[intV x.1,intV x.2] 89)) (fun x b V=>V.heap[b]?=some (.cells #[intV x.1,intV x.2] 89 (0,0))) ?assign (fun x W=>(Below.refl _ W).alloc nR _) (fun x W=>heap_alloc_last W _) ?bp ?body ?done
 case assign =>
  intro l x W K hK
  obtain⟨x1,x2⟩:=x
  dsimp only [Al] at hK ⊢
  gi_wp2
  exact hK
 case bp =>
  rintro x b V l o o' hx hl hc
  refine (World.putObj_heap_other (fun e=>?_)).trans hx
  subst e
  rw [hx] at hl;cases hl;cases hc
 case body =>
  rintro l pre x b W ⟨⟨v,hv,hrow⟩,hb⟩ hx hlen
  obtain⟨x1,x2⟩:=x
  have hc:=hv.cell
  have hf:=hv.frozen
  have c0:W.cell? ⟨b,0,none⟩=some (.int .i64 x1):=cell_of hx 0
  have c1:W.cell? ⟨b,1,none⟩=some (.int .i64 x2):=cell_of hx 1
  obtain⟨i0,hi,hz0,hz1,hz2⟩:=info_parts placeInfo
  have hWs:=hb.size
  have hblt:=(aZ hx)
  dsimp only [Al]
  have hNl:pre.length+1≤1000001:=by omega
  gi_wp2_with (first
   |(gi_at_builtin;refine wpListIn_append_own _ rfl _ _ 144 rfl w.heap.size 89 i0 _ 2 16 underlying144 hi hz0 hz1 hz2 rfl (by decide) _ _ _ rfl (hrow.alloc _) ⟨W.heap.size,0,none⟩ 1 1 [.int .i64 x1,.int .i64 x2] rfl rfl (cells_two _ _ _ _) (encP_one (x1,x2)) (by unfold maxLen;omega) (by omega) (by simp;omega) ?_;intro v' w3 hown' hg3 hnil3
     have hap:=Boxed.appended hv (by decide) hrow hWs nR hown' hg3
     obtain⟨g5,c5,e5⟩:=ownsRow_succ hown'
     subst e5
     have hv3:=hap.1
     have hc3:=hv3.cell
     have hf3:=hv3.frozen)
   | gi_in)
  refine⟨hap.2.2.2.1,hap.2.2.2.1.walks,⟨⟨_,hap.2.1,?_⟩,hb.trans hap.2.2.2.2⟩⟩
  have h:=hap.2.2.1
  rw [List.length_append,List.length_singleton,List.flatMap_append]
  exact h
 case done =>
  rintro D xs W hD hS ⟨⟨v,hv,hrow⟩,hb⟩ hK
  have hc:=hv.cell
  gi_wp2
  have hbD:=(Below.refl w.heap.size W).trans (belowK_b (w:=w) nR W D _ (.deferred none) (by have:=hb0.size;omega) hK rfl rfl)
  refine⟨by simp,.inl ⟨_,_,rfl,run_takeDeferred (ds:=[]) hK,?_⟩⟩
  refine⟨_,results_tmp rfl _ _ _,v,xs,rfl,hS,?_,hb.trans hbD⟩
  exact ownsRow_putObj hrow _ hK rfl
theorem ownsRow_form {w:World} {base:Nat} {e:TypeId} {size:Nat} {v:Value} {n:Nat} {xs:List Value} (h:w.ownsRow base e size v n xs):∃ a c,v=.slice a n c:=by
 obtain⟨hlen,⟨rfl,h0⟩|⟨g,cap,cur,rfl,_⟩⟩:=h
 ·exact⟨none,0,by rw [h0]⟩
 ·exact⟨_,cap,rfl⟩
def CollRet (w:World) (kvs:List ((Int × Int) × Value)) (e:Ending) (w':World):Prop :=
 ∃ a n c ps,e=.returned (.slice a n c)∧KeyAll kvs ps∧w'.ownsRow w.heap.size 89 2 (.slice a n c) ps.length (ps.flatMap encP)∧ps.length=n∧Below w.heap.size w w'
theorem collectP_any (Bm r:Nat) (kvs:List ((Int × Int) × Value)) (w:World) (hBm:Bm<w.heap.size) (hm:w.cell? ⟨Bm,0,none⟩=some (.map (some r))) (hmap:A6 Al r w kvs) (hk:(kvs.map (·.1)).Nodup) (hN:kvs.length≤1000000) :
  Calls prog 117 #[.func (.func 119) #[] #[.pointer (some ⟨Bm,0,none⟩)]] w (CollRet w kvs):=by
 have A:=hid (appendSeqP_any Bm r kvs w hBm hm hmap hk hN)
 go_enter func117,ntmps117
 go_wp2_with fail
 refine A.out.mono ?_
 rintro e w1 ⟨v,ps,rfl,h1,h2,h3⟩
 obtain⟨a,c,rfl⟩:=ownsRow_form h2
 have h1:=hid h1
 have h2:=hid h2
 obtain⟨n,hn⟩:∃ n,ps.length=n:=⟨_,rfl⟩
 rw [hn] at h2 ⊢
 clear A
 go_wp2
 go_ret
 exact⟨a,n,c,ps,rfl,h1.out,by rw [hn];exact h2.out,hn,h3⟩
end
section
open Go.Lib Go.Proofs.Tryz Go.RowKit Go.Shelf Go.Sort
def Ew (xs:List (CH.Version × VerV)):List Value:=xs.flatMap fun x=>Ac x.1 x.2
theorem Dp {B:Nat} {w:World} {v:CH.Version} {s:VerV} (h:VerAt B w v s):∀ u∈Ac v s,u.oneCell'=true:=by
 obtain⟨va,v1,v2⟩:=s
 obtain⟨_,_,e1,_,_⟩:=h.acts.form
 obtain⟨_,_,e2,_,_⟩:=h.sig.form
 obtain⟨_,_,e3,_,_⟩:=h.path.form
 change va=_ at e1
 change v1=_ at e2
 change v2=_ at e3
 intro u hu
 simp only [Ac,List.mem_cons,List.not_mem_nil,or_false] at hu
 rcases hu with rfl|rfl|rfl|rfl|rfl|rfl|rfl|rfl
 ·rfl
 ·rfl
 ·rfl
 ·rfl
 ·rw [e1];rfl
 ·rfl
 ·rw [e2];rfl
 ·rw [e3];rfl
def Di (base B:Nat) (w:World) (v:Value) (ls:List CH.Version):Prop :=
 ∃ xs:List (CH.Version × VerV),xs.map (·.1)=ls∧w.ownsRow base 29 8 v ls.length (Ew xs)∧(∀ x∈xs,VerAt B w x.1 x.2)∧B≤base∧base≤w.heap.size
theorem Di.nil {base B:Nat} {w:World} (hB:B≤base) (hb:base≤w.heap.size):Di base B w (.slice none 0 0) []:=⟨[],rfl,World.ownsRow_nil w base _ _,(fun _ h=>by cases h),hB,hb⟩
theorem Di.below {base B:Nat} {w w':World} {v:Value} {ls:List CH.Version} (h:Di base B w v ls) (hb:Below w.heap.size w w'):Di base B w' v ls:=by
 obtain⟨xs,h1,h2,h3,h4,h5⟩:=h
 exact⟨xs,h1,ownsRow_below h2 hb,fun x hx=>(h3 x hx).below hb (nT h4 h5),h4,nT h5 hb.size⟩
theorem verInfo:(prog.info? 29).map (fun i=>(i.zero,i.size,i.bytes))=some (some (.agg #[.int .i64 0,.int .i64 0,.int .i64 0,.string ⟨#[]⟩,.slice none 0 0,.int .i64 0,.slice none 0 0,.slice none 0 0]),8,120):=by kernel_rfl
theorem _root_.Go.World.grownBy.cells {w w':World} {row:Option Nat} (h:w.grownBy w' row) {p:Addr} {v:Value} (hp:w.cell? p=some v) (hne:row≠some p.block):w'.cell? p=some v:=by
 rw [cell?_block (h.block _ (World.block_lt_of_cell? w p hp) hne.symm)]
 exact hp
theorem append_vers {w:World} {ops:Array Oper} {rest:List Oper} {o:Oper} {a:Act} {Q:Exit→Act→World→Prop} (hgd:o.guard=none) (s x:Operand)
  (ho:o.op=.call { callee:=.builtin .append,args:=#[s,x],argTypes:=#[141,141] })
  (base:Nat) (v:Value) (n:Nat) (xs:List Value) (hs:a.eval s=v) (hown:w.ownsRow base 29 8 v n xs) (vx:Value) (m:Nat) (news:List Value) (hx:a.eval x=vx)
  (hX:Source w vx m news) (hl:news.length=m*8) (h1:∀ u∈news,u.oneCell'=true) (hlen:n+m≤1000000) (hbase:base≤w.heap.size)
  (h:∀ v' w',w'.ownsRow base 29 8 v' (n+m) (xs++news)→w.grownBy w' v.ownBlock→(v'.ownBlock=v.ownBlock∨v'.ownBlock=some w.heap.size)→wpList prog ops Q rest (a.put o.dst v') w') :
  wpList prog ops Q (o::rest) a w:=by
 obtain⟨i,hi,hz0,hz1,hz2⟩:=info_parts verInfo
 refine wpList_append_any w hgd s x 141 ho base 29 i _ 8 120 underlying141 hi hz0 hz1 hz2 rfl (by decide) v n _ hs hown vx m news hx hX hl h1 ?_ ?_ hbase h
 ·unfold maxLen;omega
 ·omega
end
end Go.Proofs.YtjepldaciejieaaGreatDoor
namespace CH
def cmpI (a b:Int):Int:=if a<b then -1 else if b<a then 1 else 0
end CH
namespace Go.Proofs.YtjepldaciejieaaGreatDoor
open Go.RowKit Go.Lib Go.Shelf Go.Sort
structure VP where
 v:CH.Version
 a1:Option Addr
 n1:Nat
 c1:Nat
 a2:Option Addr
 n2:Nat
 c2:Nat
 a3:Option Addr
 n3:Nat
 c3:Nat
def VP.s (x:VP):VerV:=⟨.slice x.a1 x.n1 x.c1,.slice x.a2 x.n2 x.c2,.slice x.a3 x.n3 x.c3⟩
instance : Inhabited VP := ⟨⟨default, none, 0, 0, none, 0, 0, none, 0, 0⟩⟩
theorem isNaN_any (a:Int) (w:World):Calls Tryz.prog 120 #[.int .i64 a] w (fun e w'=>e=.returned (.bool false)∧w=w'):=by
 have q:(a != a)=false:=by simp
 go_enter Tryz.func120,Tryz.ntmps120
 go_wp2
 go_ret
 exact⟨rfl,rfl⟩
theorem compare_any (a b:Int) (w:World):Calls Tryz.prog 76 #[.int .i64 a,.int .i64 b] w (fun e w'=>e=.returned (.int .i64 (CH.cmpI a b))∧w=w'):=by
 obtain⟨r,hr⟩:∃ r,CH.cmpI a b=r:=⟨_,rfl⟩
 rw [hr]
 unfold CH.cmpI at hr
 rcases (by omega:a<b∨(¬ a<b∧b<a)∨(¬ a<b∧¬ b<a)) with h|⟨h,h'⟩|⟨h,h'⟩
 ·rw [if_pos h] at hr
  subst hr
  have q:decide (a<b)=true:=decide_eq_true h
  go_enter Tryz.func76,Tryz.ntmps76
  go_wp2_with (first|(refine (isNaN_any _ _).mono ?_;rintro e w' ⟨rfl,rfl⟩)|fail)
  go_ret
  exact⟨rfl,rfl⟩
 ·rw [if_neg h,if_pos h'] at hr
  subst hr
  have q:decide (a<b)=false:=decide_eq_false h
  have q':decide (b<a)=true:=decide_eq_true h'
  go_enter Tryz.func76,Tryz.ntmps76
  go_wp2_with (first|(refine (isNaN_any _ _).mono ?_;rintro e w' ⟨rfl,rfl⟩)|fail)
  go_ret
  exact⟨rfl,rfl⟩
 ·rw [if_neg h,if_neg h'] at hr
  subst hr
  have q:decide (a<b)=false:=decide_eq_false h
  have q':decide (b<a)=false:=decide_eq_false h'
  go_enter Tryz.func76,Tryz.ntmps76
  go_wp2_with (first|(refine (isNaN_any _ _).mono ?_;rintro e w' ⟨rfl,rfl⟩)|fail)
  go_ret
  exact⟨rfl,rfl⟩
end Go.Proofs.YtjepldaciejieaaGreatDoor
namespace Go.Proofs.YtjepldaciejieaaGreatDoor
section
open Go.Lib Go.Proofs.Tryz Go.RowKit Go.Shelf Go.Sort
section
variable {α β:Type} [Inhabited α] [Inhabited β] (f:α→β) (lt:β→β→Bool) (hd:f default=default)
end
end
section
open Go.Lib Go.Proofs.Tryz Go.RowKit Go.Shelf Go.Sort
def cmpP (a b:Int × Int):Int:=if CH.cmpI a.1 b.1 != 0 then CH.cmpI a.1 b.1 else CH.cmpI a.2 b.2
theorem orInt_any (a b:Int) (g:Nat) (w:World) (h0:w.cell? ⟨g,0,none⟩=some (.int .i64 a)) (h1:w.cell? ⟨g,1,none⟩=some (.int .i64 b)) :
  Calls prog 75 #[.slice (some ⟨g,0,none⟩) 2 2] w (fun e w'=>e=.returned (.int .i64 (if a != 0 then a else b))∧w=w'):=by
 obtain⟨R,hR⟩:∃ R,Hid ((if a != 0 then a else b)=R):=⟨_,hid rfl⟩
 rw [hR.out]
 go_enter func75,ntmps75
 go_wp2_with fail
 go_loopw [8] (fun i wr=>∃ k:Nat,k≤2∧i=.int .i64 k∧w=wr∧Hid (1≤k→a=0)∧Hid (2≤k→b=0)) (fun i _=>2 - (RowKit.intOf i).toNat)
 case atStart=>exact⟨0,by omega,rfl,rfl,hid (fun h=>by omega),hid (fun h=>by omega)⟩
 case round =>
  obtain⟨k,hk,rfl,rfl,ha,hb⟩:=hrel
  rcases (by omega:k=0∨k=1∨k=2) with rfl|rfl|rfl
  ·by_cases h:a=0
   ·have q:(a != 0)=false:=by simp [h]
    have h:=hid h
    go_wp2
    go_roundw
    case rel=>exact⟨1,by omega,by go_num,by trivial,hid (fun _=>h.out),hid (fun h=>by omega)⟩
    case measure=>simp [RowKit.intOf]
   ·have q:(a != 0)=true:=by simp [h]
    have hRa:R=a:=by rw [← hR.out,q];rfl
    subst hRa
    go_wp2
    go_ret
    exact⟨rfl,rfl⟩
  ·have ha0:a=0:=ha.out (by omega)
   have hRb:R=b:=by rw [← hR.out,ha0];rfl
   subst hRb
   by_cases h:R=0
   ·have q:(R != 0)=false:=by simp [h]
    have h:=hid h
    go_wp2
    go_roundw
    case rel=>exact⟨2,by omega,by go_num,by trivial,hid (fun _=>ha0),hid (fun _=>h.out)⟩
    case measure=>simp [RowKit.intOf]
   ·have q:(R != 0)=true:=by simp [h]
    go_wp2
    go_ret
    exact⟨rfl,rfl⟩
  ·have ha0:a=0:=ha.out (by omega)
   have hb0:b=0:=hb.out (by omega)
   have hR0:R=0:=by rw [← hR.out,ha0,hb0];rfl
   subst hR0
   go_wp2
   go_ret
   exact⟨rfl,rfl⟩
theorem alloc2_sndP (w:World) (o1 o2:Obj):((w.alloc o1).alloc o2).heap[w.heap.size+1]?=some o2:=by
 have:=heap_alloc_last (w.alloc o1) o2
 rwa [World.size_alloc] at this
theorem alloc2_fstP (w:World) (o1 o2:Obj):((w.alloc o1).alloc o2).heap[w.heap.size]?=some o1 :=
 (((Below.refl _ (w.alloc o1)).alloc nR o2).block w.heap.size (by simp)).trans (heap_alloc_last w o1)
theorem alloc3_grow (w:World) (o1 o2 o3:Obj):∃ q os',(((w.alloc o1).alloc o2).alloc o3).drew=grow (w.drewN q) os':=by
 refine⟨1,#[o1,o2,o3],?_⟩
 simp only [World.alloc,grow,World.drewN,World.drew]
 congr 1
theorem cmpP_any (x y:Int × Int) (w:World):Calls prog 74 #[.agg (encP x).toArray,.agg (encP y).toArray] w (fun e w'=>e=.returned (.int .i64 (cmpP x y))∧∃ q os',w'=grow (w.drewN q) os'):=by
 obtain⟨x1,x2⟩:=x
 obtain⟨y1,y2⟩:=y
 obtain⟨r,hr⟩:∃ r,cmpP (x1,x2) (y1,y2)=r:=⟨_,rfl⟩
 unfold cmpP at hr
 dsimp only at hr
 have hC1:=fun W=>compare_any x1 y1 W
 have hC2:=fun W=>compare_any x2 y2 W
 rw [show cmpP (x1,x2) (y1,y2)=r from hr]
 generalize CH.cmpI x1 y1=c1 at *
 generalize CH.cmpI x2 y2=c2 at *
 have hO:=fun (g:Nat) (W:World) h0 h1=>orInt_any c1 c2 g W h0 h1
 rw [hr] at hO
 have hC1:=hid hC1
 have hC2:=hid hC2
 have hO:=hid hO
 have hG:=hid (alloc3_grow w)
 clear hr
 simp only [encP]
 go_enter func74,ntmps74
 go_wp2_with fail
 obtain⟨W0,hW0⟩:∃ W0,(w.alloc (.cells #[.int .i64 x1,.int .i64 x2] 89)).alloc (.cells #[.int .i64 y1,.int .i64 y2] 89)=W0:=⟨_,rfl⟩
 have hp:=alloc2_fstP w (.cells #[.int .i64 x1,.int .i64 x2] 89) (.cells #[.int .i64 y1,.int .i64 y2] 89)
 have hq:=alloc2_sndP w (.cells #[.int .i64 x1,.int .i64 x2] 89) (.cells #[.int .i64 y1,.int .i64 y2] 89)
 have hGW:∀ o,∃ q os',(W0.alloc o).drew=grow (w.drewN q) os':=fun o=>by rw [← hW0];exact hG.out _ _ o
 rw [hW0] at hp hq ⊢
 have hGW:=hid hGW
 clear hG hW0
 have hpl:=(aZ hp)
 have hql:=(aZ hq)
 have SS:∀ W',Below W0.heap.size W0 W'→W'.cell? ⟨w.heap.size,0,none⟩=some (.int .i64 x1)∧W'.cell? ⟨w.heap.size,1,none⟩=some (.int .i64 x2)∧W'.cell? ⟨w.heap.size+1,0,none⟩=some (.int .i64 y1)∧W'.cell? ⟨w.heap.size+1,1,none⟩=some (.int .i64 y2):=fun W' hb =>
  ⟨cell_of ((hb.block _ hpl).trans hp) 0,cell_of ((hb.block _ hpl).trans hp) 1,cell_of ((hb.block _ hql).trans hq) 0,cell_of ((hb.block _ hql).trans hq) 1⟩
 have hBd:Below W0.heap.size W0 W0.drew:=(Below.refl _ W0).drew
 have SS:=hid SS
 clear hp hq hpl hql
 go_region_held3 (fun W'=>W'.cell? ⟨w.heap.size,0,none⟩=some (.int .i64 x1)∧W'.cell? ⟨w.heap.size,1,none⟩=some (.int .i64 x2)∧W'.cell? ⟨w.heap.size+1,0,none⟩=some (.int .i64 y1)∧W'.cell? ⟨w.heap.size+1,1,none⟩=some (.int .i64 y2)) (first|exact SS.out _ hBd|exact SS.out _ (hBd.alloc hBd.size _)) (first
  |(go_at_call 76;with_reducible refine (hC1.out _).mono ?_;rintro e w' ⟨rfl,rfl⟩)
  |(go_at_call 76;with_reducible refine (hC2.out _).mono ?_;rintro e w' ⟨rfl,rfl⟩)
  |(go_at_call 75;refine (hO.out _ _ (cell_of (heap_alloc_last _ _) 0) (cell_of (heap_alloc_last _ _) 1)).mono ?_;rintro e w' ⟨rfl,rfl⟩))
 go_wp2
 go_ret
 exact⟨rfl,hGW.out _⟩
def insP_ren:Ren:=⟨fun|20=>203|n=>n,fun|22=>144|24=>89|25=>151|n=>n,fun n=>n⟩
theorem insP_lays:SlLaysF0.n20 prog insP_ren:={
 mixed:=by kernel_rfl
 f20:=⟨Tryz.f203.name,by decide,func203.trans (congrArg some (by kernel_rfl))⟩
 t0:=underlying0
 a0:=isAgg0
 z0:=sizeOf0
 v0:=zeroValue0
 t3:=underlying3
 a3:=isAgg3
 z3:=sizeOf3
 v3:=zeroValue3
 t4:=underlying4
 a4:=isAgg4
 z4:=sizeOf4
 v4:=zeroValue4
 t22:=underlying144
 a22:=isAgg144
 z22:=sizeOf144
 v22:=zeroValue144
 t25:=underlying151
 a25:=isAgg151
 z25:=sizeOf151
 v25:=zeroValue151 }
theorem insP_any (g cap:Nat) (d:Array (Int × Int)) (w:World) (hH:HoldsK encP 2 w g 0 d) (hblk:g<w.heap.size) (hn:d.size≤12) :
  Calls prog 203 #[.slice (some ⟨g,0,none⟩) d.size cap,.int .i64 0,.int .i64 (d.size:Nat),.func (.func 74) #[] #[]] w fun e w' =>
   e=.returned (.tuple #[])∧∃ n os,w'=sortWorldK encP 2 w g 0 n (Sort.insertionSort (ltOf cmpP) d 0 d.size) os :=
 AnyQ.insertionSortCmpFunc (α:=Int × Int) insP_lays 2 isAgg89 sizeOf89 encP (fun _=>rfl) encP_one cmpP 74 #[] g 0 cap 0 d.size d w (fun args W=>by kernel_rfl) (fun m os dk _ x y=>cmpP_any x y _) hH hblk (Nat.zero_le _) nR (by omega)
theorem pdqP_any (g cap:Nat) (d:Array (Int × Int)) (lim:Int) (w:World) (hH:HoldsK encP 2 w g 0 d) (hblk:g<w.heap.size) (hn:d.size≤12) :
  Calls prog 170 #[.slice (some ⟨g,0,none⟩) d.size cap,.int .i64 0,.int .i64 (d.size:Nat),.int .i64 lim,.func (.func 74) #[] #[]] w fun e w' =>
   e=.returned (.tuple #[])∧∃ n os,w'=sortWorldK encP 2 w g 0 n (Sort.insertionSort (ltOf cmpP) d 0 d.size) os:=by
 have I:=hid (insP_any g cap d w hH hblk hn)
 obtain⟨Q,hQ⟩:∃ Q:World→Prop,(fun w'=>∃ n os,w'=sortWorldK encP 2 w g 0 n (Sort.insertionSort (ltOf cmpP) d 0 d.size) os)=Q:=⟨_,rfl⟩
 have I:Hid (Calls prog 203 #[.slice (some ⟨g,0,none⟩) d.size cap,.int .i64 0,.int .i64 (d.size:Nat),.func (.func 74) #[] #[]] w fun e w'=>e=.returned (.tuple #[])∧Q w'):=hid (by rw [← hQ];exact I.out)
 have hG:Calls prog 170 #[.slice (some ⟨g,0,none⟩) d.size cap,.int .i64 0,.int .i64 (d.size:Nat),.int .i64 lim,.func (.func 74) #[] #[]] w fun e w'=>e=.returned (.tuple #[])∧Q w':=by
  clear hQ hH hblk
  generalize d.size=N at *
  have q:decide ((N:Int)≤12)=true:=by simp;omega
  go_enter func170,ntmps170
  go_wp2_with fail
  go_loopw [1,2] (fun a b wr=>a=.int .i64 0∧b=.int .i64 N∧w=wr) (fun _ _ _=>0)
  case atStart=>exact⟨rfl,rfl,rfl⟩
  case round =>
   obtain⟨rfl,rfl,rfl⟩:=hrel
   go_wp2_with fail
   refine I.out.mono ?_
   rintro e w1 ⟨rfl,hq⟩
   clear I
   go_wp2
   refine bodyPost_ret (results_none rfl _ _ _) rfl ?_
   exact⟨rfl,hq⟩
 rw [← hQ] at hG
 exact hG
theorem sortP_any (g cap:Nat) (d:Array (Int × Int)) (w:World) (hH:HoldsK encP 2 w g 0 d) (hblk:g<w.heap.size) (hn:d.size≤12) :
  Calls prog 118 #[.slice (some ⟨g,0,none⟩) d.size cap,.func (.func 74) #[] #[]] w fun e w' =>
   e=.returned (.tuple #[])∧∃ n os,w'=sortWorldK encP 2 w g 0 n (Sort.insertionSort (ltOf cmpP) d 0 d.size) os:=by
 have I:=fun lim=>pdqP_any g cap d lim w hH hblk hn
 obtain⟨Q,hQ⟩:∃ Q:World→Prop,(fun w'=>∃ n os,w'=sortWorldK encP 2 w g 0 n (Sort.insertionSort (ltOf cmpP) d 0 d.size) os)=Q:=⟨_,rfl⟩
 have I:Hid (∀ lim,Calls prog 170 #[.slice (some ⟨g,0,none⟩) d.size cap,.int .i64 0,.int .i64 (d.size:Nat),.int .i64 lim,.func (.func 74) #[] #[]] w fun e w'=>e=.returned (.tuple #[])∧Q w'):=hid (by rw [← hQ];exact I)
 have hG:Calls prog 118 #[.slice (some ⟨g,0,none⟩) d.size cap,.func (.func 74) #[] #[]] w fun e w'=>e=.returned (.tuple #[])∧Q w':=by
  clear hQ hH hblk
  generalize d.size=N at *
  have hu:IntKind.u64.wrap (N:Int)=(N:Int):=by
   rw [IntKind.wrap_u64]
   omega
  go_enter func118,ntmps118
  go_wp2_with fail
  refine (Tryz.bits_Len (N:Int) _ (by omega) (by omega)).mono ?_
  rintro e w1 ⟨rfl,rfl⟩
  go_wp2_with fail
  refine (I.out _).mono ?_
  rintro e w2 ⟨rfl,hq⟩
  clear I
  go_wp2
  go_end0
  exact⟨rfl,hq⟩
 rw [← hQ] at hG
 exact hG
theorem insPNil_any (w:World):Calls prog 203 #[.slice none 0 0,.int .i64 0,.int .i64 0,.func (.func 74) #[] #[]] w fun e w'=>e=.returned (.tuple #[])∧w=w':=by
 go_enter func203,ntmps203
 go_wp2_with fail
 go_loopw [8] (fun a wr=>a=.int .i64 1∧w=wr) (fun _ _=>0)
 case atStart=>exact⟨rfl,rfl⟩
 case round =>
  obtain⟨rfl,rfl⟩:=hrel
  go_wp2
  go_end0
  exact⟨rfl,rfl⟩
theorem pdqPNil_any (lim:Int) (w:World):Calls prog 170 #[.slice none 0 0,.int .i64 0,.int .i64 0,.int .i64 lim,.func (.func 74) #[] #[]] w fun e w'=>e=.returned (.tuple #[])∧w=w':=by
 go_enter func170,ntmps170
 go_wp2_with fail
 go_loopw [1,2] (fun a b wr=>a=.int .i64 0∧b=.int .i64 0∧w=wr) (fun _ _ _=>0)
 case atStart=>exact⟨rfl,rfl,rfl⟩
 case round =>
  obtain⟨rfl,rfl,rfl⟩:=hrel
  go_wp2_with fail
  refine (insPNil_any w).mono ?_
  rintro e w1 ⟨rfl,rfl⟩
  go_wp2
  refine bodyPost_ret (results_none rfl _ _ _) rfl ?_
  exact⟨rfl,rfl⟩
theorem sortPNil_any (w:World):Calls prog 118 #[.slice none 0 0,.func (.func 74) #[] #[]] w fun e w'=>e=.returned (.tuple #[])∧w=w':=by
 have hu:IntKind.u64.wrap (0:Int)=(0:Int):=by
  rw [IntKind.wrap_u64]
  omega
 go_enter func118,ntmps118
 go_wp2_with fail
 refine (Tryz.bits_Len 0 _ (by omega) (by omega)).mono ?_
 rintro e w1 ⟨rfl,rfl⟩
 go_wp2_with fail
 refine (pdqPNil_any _ _).mono ?_
 rintro e w2 ⟨rfl,rfl⟩
 go_wp2
 go_end0
 exact⟨rfl,rfl⟩
def PlacesAt (B:Nat) (w:World) (v:Value) (ls:List (Int × Int)):Prop :=
 ∃ a cap,v=.slice a ls.length cap∧ls.length≤cap∧cap≤9223372036854775807 ∧
  (ls≠[]→∃ b off,a=some ⟨b,off,none⟩∧b<B∧∀ j p,ls[j]?=some p→w.cell? ⟨b,off+j*2,none⟩=some (intV p.1)∧w.cell? ⟨b,off+j*2+1,none⟩=some (intV p.2))
theorem PlacesAt.below {B B':Nat} {w w':World} {v:Value} {ls:List (Int × Int)} (h:PlacesAt B w v ls) (hb:Below B' w w') (hB:B≤B'):PlacesAt B w' v ls:=by
 obtain⟨a,cap,h1,h2,h3,h4⟩:=h
 refine⟨a,cap,h1,h2,h3,fun hne=>?_⟩
 obtain⟨b,off,e,hlt,hx⟩:=h4 hne
 refine⟨b,off,e,hlt,fun j p hj=>⟨(hb.cell (p:=⟨b,off+j*2,none⟩) (nL hlt hB)).trans (hx j p hj).1,(hb.cell (p:=⟨b,off+j*2+1,none⟩) (nL hlt hB)).trans (hx j p hj).2⟩⟩
theorem flat2:∀ (l:List (Int × Int)) (t:Nat),t<l.length*2→(l.flatMap encP)[t]?=some ((encP l.toArray[t / 2]!)[t % 2]!)
 | [],t,h=>by simp at h
 | x::l,t,h=>by
  rw [List.flatMap_cons]
  by_cases h8:t<2
  ·rw [List.getElem?_append_left h8]
   have e1:t / 2=0:=Nat.div_eq_of_lt h8
   have e2:t % 2=t:=Nat.mod_eq_of_lt h8
   rw [e1,e2]
   have:t<(encP x).length:=h8
   simp [this]
  ·rw [List.getElem?_append_right (by show 2≤t;omega)]
   show (l.flatMap encP)[t - 2]?=_
   rw [flat2 l (t - 2) (by rw [List.length_cons] at h;omega)]
   have e1:t / 2=(t - 2) / 2+1:=by omega
   have e2:t % 2=(t - 2) % 2:=by omega
   rw [e1,e2]
   simp
theorem below_sortWorldP {C g n:Nat} {w:World} {d:Array (Int × Int)} {os:Array Obj} (hC:C≤g) (hw:C≤w.heap.size):Below C w (sortWorldK encP 2 w g 0 n d os):=by
 refine⟨rfl,rfl,rfl,size_sortWorldK_c encP 2 w g 0 n d os,fun k hk=>?_⟩
 show ((w.heap.modify g (onCells (putCells id 0 (flatK encP 2 d))))++os)[k]?=w.heap[k]?
 rw [Array.getElem?_append_left (by simp;omega),Array.getElem?_modify,if_neg (by omega)]
theorem sortedP_row {base g cap:Nat} {w:World} {ps:List (Int × Int)} (hO:w.ownsRow base 89 2 (.slice (some ⟨g,0,none⟩) ps.length cap) ps.length (ps.flatMap encP)) (hbw:base≤w.heap.size) :
  HoldsK encP 2 w g 0 ps.toArray∧g<w.heap.size∧∀ w',(∃ n os,w'=sortWorldK encP 2 w g 0 n (Sort.insertionSort (ltOf cmpP) ps.toArray 0 ps.toArray.size) os) →
   ∃ ls:List (Int × Int),ls.length=ps.length∧(∀ p∈ls,p∈ps)∧PlacesAt w'.heap.size w' (.slice (some ⟨g,0,none⟩) ps.length cap) ls∧Below base w w':=by
 have h2':=hO
 obtain⟨hlen,⟨e,h0⟩|⟨g',cap',cur,e,hb,hg,hn,hc,hsz,htk⟩⟩:=hO
 ·cases e
 simp only [Value.slice.injEq,Option.some.injEq,Addr.mk.injEq,and_true,true_and] at e
 obtain⟨rfl,rfl⟩:=e
 have hglt:g<w.heap.size:=(aZ hg)
 have hH:HoldsK encP 2 w g 0 ps.toArray:=by
  intro t ht
  rw [size_flatK] at ht
  have ht':t<ps.length*2:=by simpa using ht
  rw [get_flatK _ _ _ _ ht]
  refine⟨?_,Aj hg _⟩
  rw [Nat.zero_add,World.ownsRow.cellAt h2' t ht']
  exact flat2 ps t ht'
 refine⟨hH,hglt,?_⟩
 rintro w' ⟨n,os,rfl⟩
 have hinv:=CH.insertionSort_inv (lt:=ltOf cmpP) (I:=fun L=>L.length=ps.length∧∀ y∈L,y∈ps) (fun l m x y _ h=>⟨by simpa using h.1,fun z hz=>h.2 z (by
  simp only [List.mem_append,List.mem_cons] at hz ⊢
  rcases hz with h|h|h|h
  ·exact .inl h
  ·exact .inr (.inr (.inl h))
  ·exact .inr (.inl h)
  ·exact .inr (.inr (.inr h)))⟩) ps ⟨rfl,fun _ h=>h⟩
 rw [show ps.length=ps.toArray.size from by simp] at hinv
 obtain⟨d',hd'⟩:∃ d',Sort.insertionSort (ltOf cmpP) ps.toArray 0 ps.toArray.size=d':=⟨_,rfl⟩
 rw [hd'] at hinv ⊢
 have hs':d'.size=ps.toArray.size:=by have:=hinv.1;simpa using this
 have hH':=holdsK_sortWorldK_c encP 2 w g 0 ps.toArray d' n os hH hglt hs'
 have hBb:Below base w (sortWorldK encP 2 w g 0 n d' os):=below_sortWorldP hb hbw
 have hgs:w.heap.size≤(sortWorldK encP 2 w g 0 n d' os).heap.size:=hBb.size
 have hsl:d'.toList.length=ps.length:=by simp [hs']
 refine⟨d'.toList,hsl,hinv.2,⟨_,cap,by rw [hsl],by rw [hsl];exact hn,by unfold maxLen at hc;omega,fun _=>⟨g,0,rfl,nL hglt hgs,fun j p hj=>?_⟩⟩,hBb⟩
 have hjl:j<d'.size:=by have:=(lS hj);simpa using this
 have hat:d'[j]! =p:=by
  rw [Array.getElem?_toList] at hj
  rw [getElem!_def,hj]
 have k0:=(HoldsK.cell hH' hjl (show 0<2 by omega)).1
 have k1:=(HoldsK.cell hH' hjl (show 1<2 by omega)).1
 rw [hat] at k0 k1
 exact⟨k0,k1⟩
def SortedRet (w:World) (kvs:List ((Int × Int) × Value)) (e:Ending) (w':World):Prop :=
 ∃ a c ls,e=.returned (.slice a kvs.length c)∧ls.length=kvs.length∧(∀ p∈ls,p∈kvs.map (·.1))∧PlacesAt w'.heap.size w' (.slice a kvs.length c) ls∧Below w.heap.size w w'
theorem sortedFuncP_any (Bm r:Nat) (kvs:List ((Int × Int) × Value)) (w:World) (hBm:Bm<w.heap.size) (hm:w.cell? ⟨Bm,0,none⟩=some (.map (some r))) (hmap:A6 Al r w kvs) (hk:(kvs.map (·.1)).Nodup) (hN:kvs.length≤12) :
  Calls prog 72 #[.func (.func 119) #[] #[.pointer (some ⟨Bm,0,none⟩)],.func (.func 74) #[] #[]] w (SortedRet w kvs):=by
 have A:=hid (collectP_any Bm r kvs w hBm hm hmap hk (by omega))
 clear hm hmap
 have hk:=hid hk
 have hN:=hid hN
 go_enter func72,ntmps72
 go_wp2_with fail
 refine A.out.mono ?_
 rintro e w1 ⟨a,n,c,ps,rfl,hK,hown,hn,hb⟩
 have hpl:ps.length=kvs.length:=by
  have h1:=nodup_len ps (kvs.map (·.1)) hK.1 (fun p hp=>(hK.2 p).1 hp)
  have h2:=nodup_len (kvs.map (·.1)) ps hk.out (fun p hp=>(hK.2 p).2 hp)
  rw [List.length_map] at h1 h2
  omega
 have hN:=hN.out
 obtain⟨M,hM⟩:∃ M,Hid (kvs.length=M):=⟨_,hid rfl⟩
 rw [hM.out] at hpl hN
 subst hn
 clear A
 have hown':=hown
 obtain⟨hlen,⟨e0,h0⟩|⟨g,cap,cur,e0,_,_,_⟩⟩:=hown
 ·simp only [Value.slice.injEq] at e0
  obtain⟨rfl,_,rfl⟩:=e0
  have hM0:M=0:=by omega
  subst hM0
  rw [h0]
  clear hlen hown' hpl
  go_wp2_with fail
  refine (sortPNil_any w1).mono ?_
  rintro e w2 ⟨rfl,rfl⟩
  go_wp2
  go_ret
  exact⟨none,0,[],by rw [hM.out];rfl,by rw [hM.out];rfl,(fun p hp=>by cases hp),⟨none,0,by rw [hM.out];rfl,Nat.le_refl _,by omega,fun h=>absurd rfl h⟩,hb⟩
 ·simp only [Value.slice.injEq] at e0
  obtain⟨rfl,_,rfl⟩:=e0
  obtain⟨hH,hglt,hpost⟩:=sortedP_row hown' hb.size
  have S:=sortP_any g c ps.toArray w1 hH hglt (by simp;omega)
  obtain⟨Q,hQ⟩:∃ Q:World→Prop,(fun w'=>∃ n os,w'=sortWorldK encP 2 w1 g 0 n (Sort.insertionSort (ltOf cmpP) ps.toArray 0 ps.toArray.size) os)=Q:=⟨_,rfl⟩
  have hpost:Hid (∀ w',Q w'→_):=hid (by rw [← hQ];exact hpost)
  have S:Hid (Calls prog 118 #[.slice (some ⟨g,0,none⟩) ps.length c,.func (.func 74) #[] #[]] w1 fun e w'=>e=.returned (.tuple #[])∧Q w'):=hid (by rw [← hQ];simpa using S)
  have hK:=hid hK
  clear hQ hH hown' hlen
  rw [hpl] at S hpost ⊢
  go_wp2_with fail
  refine S.out.mono ?_
  rintro e w2 ⟨rfl,hq⟩
  have hp:=hid (hpost.out w2 hq)
  clear hq S hpost
  go_wp2
  go_ret
  obtain⟨ls,h1,h2,h3,h4⟩:=hp.out
  exact⟨_,c,ls,by rw [hM.out];rfl,by rw [hM.out];exact h1,fun p hp=>(hK.out.2 p).1 (h2 p hp),by rw [hM.out];exact h3,hb.trans h4⟩
theorem FKVs.keys {B:Nat} {w:World}:∀ {l:List ((Int × Int) × Value)} {m:CH.Forks},FKVs B w l m→l.map (·.1)=m.map (·.1)
 | [],[],_=>rfl
 |(_,_)::l,(_,_)::m,h=>by
  obtain⟨⟨rfl,_⟩,h4⟩:=h
  simp [FKVs.keys h4]
 | [],_::_,h=>h.elim
 | _::_,[],h=>h.elim
theorem FKVs.length {B:Nat} {w:World} {l:List ((Int × Int) × Value)} {m:CH.Forks} (h:FKVs B w l m):l.length=m.length:=by
 have:=congrArg List.length h.keys
 simpa using this
theorem lookK_of_key {β:Type} {p:Int × Int}:∀ {l:List ((Int × Int) × β)},p∈l.map (·.1)→∃ f,CH.lookK p l=some f∧(p,f)∈l
 | [],h=>by simp at h
 |(q,x)::l,h=>by
  rw [CH.lookK]
  by_cases e:p=q
  ·subst e
   exact⟨x,by simp,by simp⟩
  ·obtain⟨f,h1,h2⟩:=lookK_of_key (l:=l) (p:=p) (by simpa [e] using h)
   exact⟨f,by rw [if_neg (by simpa using e)];exact h1,by simp [h2]⟩
def pairCells (x:(CH.Version × CH.Version) × (VerV × VerV)):List Value:=Ac x.1.1 x.2.1++Ac x.1.2 x.2.2
theorem pairCells_one {B:Nat} {w:World} {x:(CH.Version × CH.Version) × (VerV × VerV)} (h1:VerAt B w x.1.1 x.2.1) (h2:VerAt B w x.1.2 x.2.2):∀ u∈pairCells x,u.oneCell'=true:=by
 intro u hu
 rcases List.mem_append.1 hu with h|h
 ·exact Dp h1 u h
 ·exact Dp h2 u h
theorem pairInfo:(prog.info? 92).map (fun i=>(i.zero,i.size,i.bytes))=some (some (.agg #[.int .i64 0,.int .i64 0,.int .i64 0,.string ⟨#[]⟩,.slice none 0 0,.int .i64 0,.slice none 0 0,.slice none 0 0,.int .i64 0,.int .i64 0,.int .i64 0,.string ⟨#[]⟩,.slice none 0 0,.int .i64 0,.slice none 0 0,.slice none 0 0]),16,240):=by kernel_rfl
def C5 (base B:Nat) (w:World) (v:Value) (forks:CH.Forks) (n:Nat):Prop :=
 ∃ xs:List ((CH.Version × CH.Version) × (VerV × VerV)),xs.length=n∧w.ownsRow base 92 16 v n (xs.flatMap pairCells)∧(∀ x∈xs,VerAt B w x.1.1 x.2.1∧VerAt B w x.1.2 x.2.2∧∃ p,(p,x.1)∈forks)∧B≤base∧base≤w.heap.size
theorem C5.nil {base B:Nat} {w:World} {forks:CH.Forks} (hB:B≤base) (hb:base≤w.heap.size):C5 base B w (.slice none 0 0) forks 0:=⟨[],rfl,World.ownsRow_nil w base _ _,(fun _ h=>by cases h),hB,hb⟩
theorem C5.below {base B:Nat} {w w':World} {v:Value} {forks:CH.Forks} {n:Nat} (h:C5 base B w v forks n) (hb:Below w.heap.size w w'):C5 base B w' v forks n:=by
 obtain⟨xs,h1,h2,h3,h4,h5⟩:=h
 exact⟨xs,h1,ownsRow_below h2 hb,fun x hx=>⟨(h3 x hx).1.below hb (nT h4 h5),(h3 x hx).2.1.below hb (nT h4 h5),(h3 x hx).2.2⟩,h4,nT h5 hb.size⟩
theorem C5.form {base B:Nat} {w:World} {v:Value} {forks:CH.Forks} {n:Nat} (h:C5 base B w v forks n):∃ a c,v=.slice a n c∧n≤c:=by
 obtain⟨xs,h1,⟨hlen,⟨rfl,h0⟩|⟨g,cap,cur,rfl,_,_,hn,_⟩⟩,_⟩:=h
 ·exact⟨none,0,by rw [h0],by omega⟩
 ·exact⟨_,cap,rfl,hn⟩
def ForksRet (w:World) (forks:CH.Forks) (e:Ending) (w':World):Prop:=∃ v base,e=.returned v∧w.heap.size≤base∧C5 base w.heap.size w' v forks forks.length∧Below w.heap.size w w'
theorem mapsKeysP_any (r:Nat) (w:World):Calls prog 73 #[.map (some r)] w fun e w' =>
  e=.returned (.func (.func 119) #[] #[.pointer (some ⟨w.heap.size,0,none⟩)])∧w.alloc (.cells #[.map (some r)] 83)=w':=by
 go_enter func73,ntmps73
 go_wp2
 go_ret
 exact⟨rfl,rfl⟩
theorem append_pair_op {w:World} {o:Oper} {a:Act} {K:Act→World→Prop} {Q:Exit→Act→World→Prop} (s x:Operand)
  (ho:o.op=.call { callee:=.builtin .append,args:=#[s,x],argTypes:=#[45,45] })
  (base:Nat) (v:Value) (n:Nat) (xs:List Value) (hs:a.eval s=v) (hown:w.ownsRow base 92 16 v n xs) (g c:Nat) (news:List Value) (hx:a.eval x=.slice (some ⟨g,0,none⟩) 1 c)
  (hcell:w.rangeAt g 0 news) (hl:news.length=16) (h1:∀ u∈news,u.oneCell'=true) (hlen:n≤1000000) (hbase:base≤w.heap.size)
  (h:∀ v' w',w'.ownsRow base 92 16 v' (n+1) (xs++news)→w.grownBy w' v.ownBlock→K (a.put o.dst v') w'):o.wp prog a w K Q:=by
 obtain⟨i,hi,hz0,hz1,hz2⟩:=info_parts pairInfo
 refine wp_append_own w s x 45 ho base 92 i _ 16 240 underlying45 hi hz0 hz1 hz2 rfl (by decide) v n _ hs hown ⟨g,0,none⟩ 1 c news hx (by rw [hl]) ?_ h1 ?_ ?_ hbase ?_
 ·intro j u hj
  have:=hcell j u hj
  rw [Nat.zero_add] at this
  rw [show (⟨g,0,none⟩:Addr).add j=⟨g,j,none⟩ from by simp [Addr.add];omega]
  exact this
 ·unfold maxLen;omega
 ·omega
 ·intro v' w' h1 h2 _
  exact h v' w' h1 h2
theorem sorted_forks_any (c o r:Nat) (kvs:List ((Int × Int) × Value)) (forks:CH.Forks) (w:World) (hc:w.cell? ⟨c,o,none⟩=some (.map (some r))) (hm:A6 Al r w kvs) (hkv:FKVs w.heap.size w kvs forks) (hnd:(forks.map (·.1)).Nodup) (hN:forks.length≤12) :
  Calls prog 35 #[.pointer (some ⟨c,o,none⟩)] w (ForksRet w forks):=by
 have hclt:=World.block_lt_of_cell? w _ hc
 have hk:(kvs.map (·.1)).Nodup:=by rw [hkv.keys];exact hnd
 have hle:=hkv.length
 have hkeys:=hkv.keys
 have hm:=hid hm
 have hkv:=hid hkv
 have hk:=hid hk
 obtain⟨N,hNN⟩:∃ N,Hid (forks.length=N):=⟨_,hid rfl⟩
 rw [hNN.out] at hN hle
 go_enter func35,ntmps35
 go_wp2_with fail
 refine (mapsKeysP_any r w).mono ?_
 rintro e W1 ⟨rfl,hW1⟩
 have hb1:Below w.heap.size w W1:=by rw [← hW1];exact (Below.refl _ w).alloc nR _
 have hc1:W1.cell? ⟨w.heap.size,0,none⟩=some (.map (some r)):=by rw [← hW1];exact cell_of (heap_alloc_last w _) 0
 have hs1:w.heap.size<W1.heap.size:=by rw [← hW1];simp
 have SF:=hid (sortedFuncP_any w.heap.size r kvs W1 hs1 hc1 (hm.out.below hb1) hk.out (by omega))
 clear hW1 hc1 hs1
 go_wp2_with fail
 refine SF.out.mono ?_
 rintro e w2 ⟨a,cc,ls,rfl,hl,hsub,hP,hb2⟩
 obtain⟨a',cap',hv',hcap1,hcap2,hpc⟩:=hP
 have hB2:=hid (hb1.trans (hb2.mono hb1.size))
 rw [hle] at hl hv' ⊢
 rw [hl] at hv' hcap1
 simp only [Value.slice.injEq,true_and] at hv'
 obtain⟨rfl,rfl⟩:=hv'
 have hpc:=hid hpc
 have hsub:=hid hsub
 have hl:=hid hl
 have hkeys:=hid hkeys
 clear SF hb1 hb2
 go_wp2_with fail
 go_loopw [3,13] (fun ov i wr=>∃ k:Nat,k≤N∧i=.int .i64 k∧Hid (C5 w2.heap.size w.heap.size wr ov forks k)∧Hid (Below w2.heap.size w2 wr)) (fun _ i _=>N - (RowKit.intOf i).toNat)
 case atStart=>exact⟨0,Nat.zero_le _,rfl,hid (C5.nil hB2.out.size nR),hid (Below.refl _ _)⟩
 case round =>
  obtain⟨k,hkN,rfl,hO,hBr⟩:=hrel
  by_cases hlt:k<N
  ·obtain⟨b,off,rfl,hbl,hx⟩:=hpc.out (by intro h;have:=hl.out;simp [h] at this;omega)
   obtain⟨⟨p1,p2⟩,hxk⟩:∃ p,ls[k]?=some p:=⟨_,lZ (by rw [hl.out];exact hlt)⟩
   obtain⟨e1,e2⟩:=hx k _ hxk
   have d1:wr.cell? ⟨b,off+k*2,none⟩=some (.int .i64 p1):=(hBr.out.cell (p:=⟨b,off+k*2,none⟩) hbl).trans e1
   have d2:wr.cell? ⟨b,off+k*2+1,none⟩=some (.int .i64 p2):=(hBr.out.cell (p:=⟨b,off+k*2+1,none⟩) hbl).trans e2
   have hmem:=hsub.out _ (List.mem_of_getElem? hxk)
   rw [hkeys.out] at hmem
   obtain⟨⟨f1,f2⟩,hlk,hmf⟩:=lookK_of_key hmem
   obtain⟨j,x,hf,s,s',hxx,hv1,hv2⟩:=hkv.out.some 0 hlk
   obtain⟨ax1,nx1,cx1,ax2,nx2,cx2,ax3,nx3,cx3,rfl⟩:=hv1.sl
   obtain⟨ay1,ny1,cy1,ay2,ny2,cy2,ay3,ny3,cy3,rfl⟩:=hv2.sl
   have hBw:Below w.heap.size w wr:=hB2.out.trans (hBr.out.mono hB2.out.size)
   have L:=fun (W:World) (hb:Below w.heap.size w W)=>place_lookup1 underlying83 _ pairZero (hm.out.below hb) (p1,p2)
   rw [hf,hxx] at L
   simp only [Option.map_some,Option.getD_some] at L
   dsimp only [Al,Ac,List.cons_append,List.nil_append] at L
   have hone:=hid (pairCells_one (x:=((f1,f2),(⟨.slice ax1 nx1 cx1,.slice ax2 nx2 cx2,.slice ax3 nx3 cx3⟩,⟨.slice ay1 ny1 cy1,.slice ay2 ny2 cy2,.slice ay3 ny3 cy3⟩))) hv1 hv2)
   have hv1:=hid hv1
   have hv2:=hid hv2
   have hmf:=hid hmf
   obtain⟨av,cv,rfl,hcv⟩:=hO.out.form
   have SS:=hid fun (W':World) (hb:Below w.heap.size w W') (hq:W'.heap[wr.heap.size]?=some (.cells #[.int .i64 p1,.int .i64 p2] 89 (0,0))) =>
    (⟨(hb.cell (p:=⟨c,o,none⟩) hclt).trans hc,cell_of hq 0,cell_of hq 1,L W' hb⟩:W'.cell? ⟨c,o,none⟩=some (.map (some r))∧W'.cell? ⟨wr.heap.size,0,none⟩=some (.int .i64 p1)∧W'.cell? ⟨wr.heap.size,1,none⟩=some (.int .i64 p2)∧(Instr.lookup 83 (.map (some r)) (.agg #[.int .i64 p1,.int .i64 p2]) false).run prog W'=.ok (.agg #[.int .i64 f1.authority,.int .i64 f1.number,.int .i64 f1.pos,.string ⟨f1.prev.toArray⟩,.slice ax1 nx1 cx1,.int .i64 f1.sel.index,.slice ax2 nx2 cx2,.slice ax3 nx3 cx3,.int .i64 f2.authority,.int .i64 f2.number,.int .i64 f2.pos,.string ⟨f2.prev.toArray⟩,.slice ay1 ny1 cy1,.int .i64 f2.sel.index,.slice ay2 ny2 cy2,.slice ay3 ny3 cy3]) W')
   clear L hx hxx hf hlk hmem hxk e1 e2
   go_wp2_with fail
   obtain⟨W4,hW4⟩:∃ W4,wr.alloc (.cells #[.int .i64 p1,.int .i64 p2] 89)=W4:=⟨_,rfl⟩
   have hb4:Below wr.heap.size wr W4:=by rw [← hW4];exact (Below.refl _ wr).alloc nR _
   have hq4:W4.heap[wr.heap.size]?=some (.cells #[.int .i64 p1,.int .i64 p2] 89 (0,0)):=by rw [← hW4];exact heap_alloc_last wr _
   rw [hW4]
   clear hW4 d1 d2
   have hql:wr.heap.size<W4.heap.size:=(aZ hq4)
   have hBd:Below wr.heap.size wr W4.drew:=hb4.drew
   have hBa:∀ ob,Below wr.heap.size wr (W4.drew.alloc ob):=fun ob=>hBd.alloc hBd.size ob
   have hqa:∀ ob,(W4.drew.alloc ob).heap[wr.heap.size]?=some (.cells #[.int .i64 p1,.int .i64 p2] 89 (0,0)):=fun ob=>(Below.heap_alloc W4.drew ob _ hql).trans hq4
   have hBw4:∀ {W':World},Below wr.heap.size wr W'→Below w.heap.size w W':=fun h=>hBw.trans (h.mono hBw.size)
   have hBw:=hid hBw
   obtain⟨xs,hx1,hx2,hx3,hx4,hx5⟩:=hO.out
   have hx3:=hid hx3
   have hrow:∀ ob,(W4.drew.alloc ob).ownsRow w2.heap.size 92 16 (.slice av k cv) k (xs.flatMap pairCells):=fun ob=>ownsRow_below hx2 (hBa ob)
   have hgb:∀ g,(Value.slice av k cv).ownBlock=some g→w2.heap.size≤g∧g<wr.heap.size:=fun g e=>by
    rcases hx2.2 with⟨e0,_⟩|⟨g',cap,cur,e0,h1,h2,_⟩
    ·rw [e0] at e;cases e
    ·rw [e0] at e
     simp only [Value.ownBlock,Option.some.injEq] at e
     subst e
     exact⟨h1,(aZ h2)⟩
   have hgb:=hid hgb
   clear hx2 hO
   have hx1:=hid hx1
   refine wp_region_noPanic ?_
   refine wp_region_held_drew (S:=fun W'=>W'.cell? ⟨c,o,none⟩=some (.map (some r))∧W'.cell? ⟨wr.heap.size,0,none⟩=some (.int .i64 p1)∧W'.cell? ⟨wr.heap.size,1,none⟩=some (.int .i64 p2)∧(Instr.lookup 83 (.map (some r)) (.agg #[.int .i64 p1,.int .i64 p2]) false).run prog W'=.ok (.agg #[.int .i64 f1.authority,.int .i64 f1.number,.int .i64 f1.pos,.string ⟨f1.prev.toArray⟩,.slice ax1 nx1 cx1,.int .i64 f1.sel.index,.slice ax2 nx2 cx2,.slice ax3 nx3 cx3,.int .i64 f2.authority,.int .i64 f2.number,.int .i64 f2.pos,.string ⟨f2.prev.toArray⟩,.slice ay1 ny1 cy1,.int .i64 f2.sel.index,.slice ay2 ny2 cy2,.slice ay3 ny3 cy3]) W') (by kernel_rfl) (SS.out _ (hBw4 hBd) hq4) (fun hHeld=>?_)
   refine tk 0 (v:=.slice av k cv) rfl (by rfl) hHeld ?_ ?_
   ·intro W hSw
    (try dsimp only at hSw)
    go_simp
   (try simp only [Act.put,pA,pB,pC])
   refine tk 1 (v:=.pointer (some ⟨c,o,none⟩)) rfl (by rfl) hHeld ?_ ?_
   ·intro W hSw
    (try dsimp only at hSw)
    go_simp
   (try simp only [Act.put,pA,pB,pC])
   refine tk 2 (v:=.pointer (some ⟨c,o,none⟩)) rfl (by rfl) hHeld ?_ ?_
   ·intro W hSw
    (try dsimp only at hSw)
    go_simp
   (try simp only [Act.put,pA,pB,pC])
   refine tk 3 (v:=.pointer (some ⟨c,o,none⟩)) rfl (by rfl) hHeld ?_ ?_
   ·intro W hSw
    (try dsimp only at hSw)
    go_simp
   (try simp only [Act.put,pA,pB,pC])
   refine tk 4 (v:=.map (some r)) rfl (by rfl) hHeld ?_ ?_
   ·intro W hSw
    (try dsimp only at hSw)
    go_simp
   (try simp only [Act.put,pA,pB,pC])
   refine tk 5 (v:=.agg #[.int .i64 p1,.int .i64 p2]) rfl (by rfl) hHeld ?_ ?_
   ·intro W hSw
    (try dsimp only at hSw)
    go_simp
   (try simp only [Act.put,pA,pB,pC])
   refine tk 6 (v:=.agg #[.int .i64 f1.authority,.int .i64 f1.number,.int .i64 f1.pos,.string ⟨f1.prev.toArray⟩,.slice ax1 nx1 cx1,.int .i64 f1.sel.index,.slice ax2 nx2 cx2,.slice ax3 nx3 cx3,.int .i64 f2.authority,.int .i64 f2.number,.int .i64 f2.pos,.string ⟨f2.prev.toArray⟩,.slice ay1 ny1 cy1,.int .i64 f2.sel.index,.slice ay2 ny2 cy2,.slice ay3 ny3 cy3]) rfl (by rfl) hHeld ?_ ?_
   ·intro W hSw
    (try dsimp only at hSw)
    go_simp
   (try simp only [Act.put,pA,pB,pC])
   refine rk 7 rfl (fun K hK=>?_)
   go_simp
   refine hK.out _ _ (SS.out _ (hBw4 (hBa _)) (hqa _)) (fun hHeld=>?_)
   clear hK K
   (try simp only [Act.put,pA,pB,pC])
   refine rk 8 rfl (fun K hK=>?_)
   rw [if_pos (by rfl)]
   refine append_pair_op _ _ rfl w2.heap.size (.slice av k cv) k (xs.flatMap pairCells) rfl (hrow _) W4.heap.size 1 [.int .i64 f1.authority,.int .i64 f1.number,.int .i64 f1.pos,.string ⟨f1.prev.toArray⟩,.slice ax1 nx1 cx1,.int .i64 f1.sel.index,.slice ax2 nx2 cx2,.slice ax3 nx3 cx3,.int .i64 f2.authority,.int .i64 f2.number,.int .i64 f2.pos,.string ⟨f2.prev.toArray⟩,.slice ay1 ny1 cy1,.int .i64 f2.sel.index,.slice ay2 ny2 cy2,.slice ay3 ny3 cy3] rfl (Bl W4.drew _ _) rfl hone.out (by omega) (by have:=hBr.out.size;have:=hb4.size;simp;omega) ?_
   intro v5 w5 hO5 hg5
   have hB5:Below w2.heap.size wr w5:=((hBa _).mono hBr.out.size).grown hg5 (by have:=hBr.out.size;have:=hb4.size;simp;omega) (fun g e=>(hgb.out g e).1)
   have hq5:w5.heap[wr.heap.size]?=some (.cells #[.int .i64 p1,.int .i64 p2] 89 (0,0)):=(hg5.block _ (by simp;omega) (fun e=>by have:=(hgb.out _ e.symm).2;omega)).trans (hqa _)
   have hBw5:Below w.heap.size w w5:=hBw.out.trans (hB5.mono hB2.out.size)
   have hOn:C5 w2.heap.size w.heap.size w5 v5 forks (k+1):=by
    refine⟨xs++[((f1,f2),(⟨.slice ax1 nx1 cx1,.slice ax2 nx2 cx2,.slice ax3 nx3 cx3⟩,⟨.slice ay1 ny1 cy1,.slice ay2 ny2 cy2,.slice ay3 ny3 cy3⟩))],by rw [List.length_append,hx1.out];rfl,?_,fun y hy=>?_,hx4,nT hBr.out.size hB5.size⟩
    ·rw [List.flatMap_append]
     exact hO5
    ·have hBx:Below w.heap.size wr w5:=hB5.mono hB2.out.size
     rcases List.mem_append.1 hy with h|h
     ·obtain⟨a1,a2,a3⟩:=hx3.out y h
      exact⟨a1.below hBx nR,a2.below hBx nR,a3⟩
     ·rw [List.mem_singleton] at h
      subst h
      exact⟨hv1.out.below hBw5 nR,hv2.out.below hBw5 nR,_,hmf.out⟩
   have hOn:=hid hOn
   obtain⟨a5,c5,rfl,hc5⟩:=hOn.out.form
   refine hK.out _ _ (SS.out _ hBw5 hq5) (fun hHeld=>?_)
   clear hK K
   (try simp only [Act.put,pA,pB,pC])
   refine tk 9 (v:=.slice a5 (k+1) c5) rfl (by rfl) hHeld ?_ ?_
   ·intro W hSw
    (try dsimp only at hSw)
    go_simp
   (try simp only [Act.put,pA,pB,pC])
   refine wpAnyH_done (by kernel_rfl) (NoPanic.normal ?_) _
   have hBr5:=hid (hBr.out.trans hB5)
   clear hHeld SS hrow hqa hBa hBw4 hB5 hBw5 hO5 hg5 hq5
   go_wp2
   go_roundw
   case rel=>exact⟨k+1,by omega,by go_num,hOn,hBr5⟩
   case measure=>simp [RowKit.intOf];omega
  ·obtain rfl:k=N:=by omega
   obtain⟨av,cv,rfl,hcv⟩:=hO.out.form
   go_wp2
   go_ret
   exact⟨_,w2.heap.size,rfl,hB2.out.size,by rw [hNN.out];exact hO.out,hB2.out.trans (hBr.out.mono hB2.out.size)⟩
theorem forks_any (c r1 r2:Nat) (keys:List (List UInt8)) (known:CH.Known) (forks:CH.Forks) (w:World) (hC:ChainAt w c r1 r2 keys known forks) (hnd:(forks.map (·.1)).Nodup) (hN:forks.length≤12) :
  Calls prog 15 #[.pointer (some ⟨c,0,none⟩)] w (ForksRet w forks):=by
 obtain⟨vk,hb0,_⟩:=hC.ex
 obtain⟨kvs,hm,hkv⟩:=hC.forks
 have S:=hid (sorted_forks_any c 2 r2 kvs forks w (cell_of hb0 2) hm hkv hnd hN)
 obtain⟨N,hNN⟩:∃ N,Hid (forks.length=N):=⟨_,hid rfl⟩
 clear hb0 hm hkv hC
 go_enter func15,ntmps15
 go_wp2_with fail
 refine S.out.mono ?_
 rintro e w1 ⟨v,base,rfl,hbb,hO,hb⟩
 obtain⟨a,cc,rfl,hcv⟩:=hO.form
 rw [hNN.out] at hO ⊢
 have hO:=hid hO
 clear S
 go_wp2
 go_ret
 exact⟨_,base,rfl,hbb,by rw [hNN.out];exact hO.out,hb⟩
def sliceLenV:Value→Nat
 | .slice _ n _=>n
 | _=>0
def FollowRet (w:World) (B:Nat) (r:List CH.Version × List UInt8) (e:Ending) (w':World):Prop :=
 ∃ v,e=.returned (.tuple #[v,.string ⟨r.2.toArray⟩])∧Di w.heap.size B w' v r.1∧Below w.heap.size w w'
theorem verZeroF (w:World):(zeroValue 29).run prog w=.ok (.agg #[.int .i64 0,.int .i64 0,.int .i64 0,.string ⟨#[]⟩,.slice none 0 0,.int .i64 0,.slice none 0 0,.slice none 0 0]) w:=by kernel_rfl
theorem alloc2_fstF (w:World) (o1 o2:Obj):((w.alloc o1).alloc o2).heap[w.heap.size]?=some o1 :=
 (((Below.refl _ (w.alloc o1)).alloc nR o2).block w.heap.size (by simp)).trans (heap_alloc_last w o1)
theorem below_of_grown {w w':World} {row:Option Nat} {C:Nat} (h:w.grownBy w' row) (hC:C≤w.heap.size) (hr:∀ j,row=some j→C≤j):Below C w w' :=
 ⟨h.os,h.tape,h.output,h.size,fun k hk=>h.block k (by omega) (fun e=>by have:=hr k e.symm;omega)⟩
theorem versCells_snoc (xs:List (CH.Version × VerV)) (v:CH.Version) (s:VerV):Ew (xs++[(v,s)])=Ew xs++Ac v s:=by
 unfold Ew
 rw [List.flatMap_append]
 simp
theorem Di.form {base B:Nat} {w:World} {v:Value} {ls:List CH.Version} (h:Di base B w v ls):∃ av cv,v=.slice av ls.length cv∧ls.length≤cv:=by
 obtain⟨xs,hx1,hx2,hx3,hx4,hx5⟩:=h
 obtain⟨hlen,⟨rfl,h0⟩|⟨g,cap,cur,rfl,hb,hg,hn,hc,hsz,htk⟩⟩:=hx2
 ·exact⟨none,0,by rw [h0],by omega⟩
 ·exact⟨_,cap,rfl,hn⟩
theorem follow_stop (known:List ((Int × Int) × CH.Version)) (a:Int) (f:Nat) (out:List CH.Version) (hd:List UInt8) (last:Int) (h:CH.lookK (a,(out.length:Int)+1) known=none):CH.follow CH.msg known a f out hd last=(out,hd):=by
 cases f with
 | zero=>rfl
 | succ f=>rw [CH.follow,h]
theorem follow_any (c r1 B:Nat) (known:List ((Int × Int) × CH.Version)) (kvs:List ((Int × Int) × Value)) (a:Int) (w:World) (hG:Gc w) (hc1:w.cell? ⟨c,1,none⟩=some (.map (some r1))) (hm0:A6 Al r1 w kvs) (hkv0:KVs B w kvs known) (hBw:B≤w.heap.size) (hn:∀ p v,(p,v)∈known→p.2≤200) :
  Calls prog 71 #[.pointer (some ⟨c,0,none⟩),.int .i64 a] w (FollowRet w B (CH.fol CH.msg known a)):=by
 obtain⟨R,hR⟩:∃ R,Hid (CH.fol CH.msg known a=R):=⟨_,hid rfl⟩
 rw [hR.out]
 have hclt:c<w.heap.size:=World.block_lt_of_cell? w _ hc1
 replace hc1:=hid hc1
 replace hm0:=hid hm0
 replace hkv0:=hid hkv0
 replace hn:=hid hn
 go_enter func71,ntmps71
 go_wp2_with fail
 go_loopw [6,7,8] (fun ov hv lv wr=>∃ (out:List CH.Version) (hd:List UInt8) (last:Int) (f:Nat),Hid (Di w.heap.size B wr ov out)∧hv=.string ⟨hd.toArray⟩∧lv=.int .i64 last∧Hid (Below w.heap.size w wr)∧f+out.length=201∧Hid (CH.follow CH.msg known a f out hd last=R)) (fun ov _ _ _=>201 - sliceLenV ov)
 case atStart=>exact⟨[],[],0,201,hid (Di.nil hBw nR),rfl,rfl,hid (Below.refl _ _),rfl,hR⟩
 case round =>
  obtain⟨out,hd,last,f,hO,rfl,rfl,hB,hf,hI⟩:=hrel
  obtain⟨av,cv,rfl,hcv⟩:=hO.out.form
  have hm:=hm0.out.below hB.out
  have hkv:=hkv0.out
  have c1:wr.cell? ⟨c,1,none⟩=some (.map (some r1)):=(hB.out.cell (p:=⟨c,1,none⟩) hclt).trans hc1.out
  have L:=Dw underlying80 _ verZeroF hm (a,(out.length:Int)+1)
  have hn201:out.length≤201:=by omega
  cases hlk:CH.lookK (a,(out.length:Int)+1) known with
  | none =>
   have hRR:(out,hd)=R:=(follow_stop known a f out hd last hlk).symm.trans hI.out
   rw [hkv.none 0 hlk] at L
   simp only [Option.map_none,Option.getD_none,Option.isSome_none] at L
   subst hRR
   clear hI hkv hm
   generalize hN:out.length=n at *
   replace hN:=hid hN
   dsimp only [Al] at L
   clear hR
   go_wp2_with fail
   refine bodyPost_ret (results_tmp2 rfl _ _ _) rfl ?_
   exact⟨_,rfl,hO.out.below ((Below.refl _ wr).alloc nR _),hB.out.alloc hB.out.size _⟩
  | some v =>
   obtain⟨j,s,hfk,hvs⟩:=hkv.some 0 hlk
   rw [hfk] at L
   simp only [Option.map_some,Option.getD_some,Option.isSome_some] at L
   have h200:=hn.out _ _ (CH.lookK_mem hlk)
   dsimp only at h200
   obtain⟨f,rfl⟩:∃ f',f=f'+1:=⟨f - 1,by omega⟩
   have hI1:=hI.out
   rw [CH.follow,hlk] at hI1
   dsimp only at hI1
   have hB2:=hB.out
   have hBp:Below B w wr:=hB2.mono hBw
   obtain⟨jj,s',hfk',hvs'⟩:=hkv0.out.some 0 hlk
   have hss:s'=s∧VerAt B w v s:=by
    rw [hfk'] at hfk
    simp only [Option.some.injEq,Prod.mk.injEq,Value.agg.injEq] at hfk
    have:=congrArg Array.toList hfk.2
    simp only [Ac] at this
    obtain⟨x1,x2,x3⟩:=s
    obtain⟨y1,y2,y3⟩:=s'
    simp at this
    obtain⟨e1,e2,e3⟩:=this
    subst e1 e2 e3
    exact⟨rfl,hvs'⟩
   have hvs:=hss.2
   clear hss hvs' hfk'
   have HV:=hid fun (W:World) (hb:Below w.heap.size w W)=>hvs.below hb hBw
   have M:=fun (W:World) (hb:Below w.heap.size w W)=>Cj v s W (hG.below hb) ((HV.out W hb).mono (nT hBw hb.size))
   simp only [resV_msg] at M
   generalize errInt (CH.message v)=me at M
   have hone:=hid (Dp hvs)
   obtain⟨va,v1,v2⟩:=s
   obtain⟨xa,ya,e1,_,_⟩:=hvs.acts.form
   obtain⟨x1,y1,e2,_,_⟩:=hvs.sig.form
   obtain⟨x2,y2,e3,_,_⟩:=hvs.path.form
   change va=_ at e1
   change v1=_ at e2
   change v2=_ at e3
   subst e1 e2 e3
   clear hvs hkv hfk hI hR hm
   have eb:((⟨v.prev.toArray⟩:ByteArray)==⟨hd.toArray⟩)=(v.prev==hd):=Cm _ _
   obtain⟨b1,hb1⟩:∃ b,(v.prev==hd)=b:=⟨_,rfl⟩
   obtain⟨b2,hb2⟩:∃ b,decide (v.pos<last)=b:=⟨_,rfl⟩
   have ebn:(v.prev != hd)=!b1:=by rw [← hb1];rfl
   rw [ebn,hb2] at hI1
   rw [hb1] at eb
   replace hI1:=hid hI1
   replace hlk:=hid hlk
   clear ebn
   dsimp only [Ac,Al] at L M
   replace M:=hid M
   generalize hN:out.length=n at *
   replace hN:=hid hN
   generalize v.acts.length=n0 at *
   generalize v.sel.sig.length=n1 at *
   generalize v.sel.path.length=n2 at *
   rcases (by cases b1 <;> cases b2 <;> simp:(b1=false)∨(b1=true∧b2=true)∨(b1=true∧b2=false)) with rfl|⟨rfl,rfl⟩|⟨rfl,rfl⟩
   ·have hRR:(out,hd)=R:=by rw [← hI1.out];rfl
    subst hRR
    go_wp2_with fail
    refine bodyPost_ret (results_tmp2 rfl _ _ _) rfl ?_
    exact⟨_,rfl,hO.out.below ((Below.refl _ wr).alloc nR _),hB.out.alloc hB.out.size _⟩
   ·have hRR:(out,hd)=R:=by rw [← hI1.out];rfl
    subst hRR
    go_wp2_with fail
    refine bodyPost_ret (results_tmp2 rfl _ _ _) rfl ?_
    exact⟨_,rfl,hO.out.below ((Below.refl _ wr).alloc nR _),hB.out.alloc hB.out.size _⟩
   ·have hI2:Hid (CH.follow CH.msg known a f (out++[v]) (CH.msg v) v.pos=R):=hid (by rw [← hI1.out];rfl)
    clear hI1
    obtain⟨xs,hx1,hx2,hx3,hx4,hx5⟩:=hO.out
    rw [hN.out] at hx2
    have hW2:∀ o1 o2,((wr.alloc o1).alloc o2).ownsRow w.heap.size 29 8 (.slice av n cv) n (Ew xs):=fun o1 o2=>World.ownsRow.alloc (World.ownsRow.alloc hx2 o1) o2
    have hsz:=hB2.size
    have hx3:=hid hx3
    have hx1:=hid hx1
    have hob:∀ j,(Value.slice av n cv).ownBlock=some j→w.heap.size≤j:=by
     obtain⟨_,⟨e,_⟩|⟨g,cap,cur,e,hb,_⟩⟩:=hx2
     ·rw [e];intro j hj;cases hj
     ·rw [e];intro j hj;simp [Value.ownBlock] at hj;omega
    have hob2:∀ j,(Value.slice av n cv).ownBlock=some j→j<wr.heap.size:=by
     obtain⟨_,⟨e,_⟩|⟨g,cap,cur,e,_,hg,_⟩⟩:=hx2
     ·rw [e];intro j hj;cases hj
     ·rw [e];intro j hj
      simp [Value.ownBlock] at hj
      subst hj
      exact (aZ hg)
    have hob:=hid hob
    have hob2:=hid hob2
    have hW2:=hid hW2
    clear hx2
    go_wp2_with (at_builtin;refine append_vers rfl _ _ rfl w.heap.size _ n (Ew xs) rfl (hW2.out _ _) _ 1 [.int .i64 v.authority,.int .i64 v.number,.int .i64 v.pos,.string ⟨v.prev.toArray⟩,.slice xa n0 ya,.int .i64 v.sel.index,.slice x1 n1 y1,.slice x2 n2 y2] rfl (.inl ⟨⟨wr.heap.size+1,0,none⟩,1,rfl,?c1⟩) rfl ?c2 ?c3 ?c4 ?_)
    case c1 =>
     intro j u hj
     rw [Go.WideShapes.add_plain]
     have:=Bl (wr.alloc (.cells #[.int .i64 v.authority,.int .i64 v.number,.int .i64 v.pos,.string ⟨v.prev.toArray⟩,.slice xa n0 ya,.int .i64 v.sel.index,.slice x1 n1 y1,.slice x2 n2 y2] 29)) [.int .i64 v.authority,.int .i64 v.number,.int .i64 v.pos,.string ⟨v.prev.toArray⟩,.slice xa n0 ya,.int .i64 v.sel.index,.slice x1 n1 y1,.slice x2 n2 y2] 29 j u hj
     rwa [World.size_alloc] at this
    case c2=>exact hone.out
    case c3=>omega
    case c4=>simp;omega
    ·intro v' w' g1 g2 g3
     have hBa:Below w.heap.size w ((wr.alloc (.cells #[.int .i64 v.authority,.int .i64 v.number,.int .i64 v.pos,.string ⟨v.prev.toArray⟩,.slice xa n0 ya,.int .i64 v.sel.index,.slice x1 n1 y1,.slice x2 n2 y2] 29)).alloc (.cells #[.int .i64 v.authority,.int .i64 v.number,.int .i64 v.pos,.string ⟨v.prev.toArray⟩,.slice xa n0 ya,.int .i64 v.sel.index,.slice x1 n1 y1,.slice x2 n2 y2] 29)):=(hB2.alloc hB2.size _).alloc (by simp;omega) _
     have hbl:=alloc2_fstF wr (.cells #[.int .i64 v.authority,.int .i64 v.number,.int .i64 v.pos,.string ⟨v.prev.toArray⟩,.slice xa n0 ya,.int .i64 v.sel.index,.slice x1 n1 y1,.slice x2 n2 y2] 29) (.cells #[.int .i64 v.authority,.int .i64 v.number,.int .i64 v.pos,.string ⟨v.prev.toArray⟩,.slice xa n0 ya,.int .i64 v.sel.index,.slice x1 n1 y1,.slice x2 n2 y2] 29)
     have hgb:Below w.heap.size ((wr.alloc (.cells #[.int .i64 v.authority,.int .i64 v.number,.int .i64 v.pos,.string ⟨v.prev.toArray⟩,.slice xa n0 ya,.int .i64 v.sel.index,.slice x1 n1 y1,.slice x2 n2 y2] 29)).alloc (.cells #[.int .i64 v.authority,.int .i64 v.number,.int .i64 v.pos,.string ⟨v.prev.toArray⟩,.slice xa n0 ya,.int .i64 v.sel.index,.slice x1 n1 y1,.slice x2 n2 y2] 29)) w':=below_of_grown g2 hBa.size (hob.out)
     have hB3:Below w.heap.size w w':=hBa.trans hgb
     have hbl':=(g2.block wr.heap.size (by simp;omega) (fun e=>by have:=hob2.out _ e.symm;omega)).trans hbl
     have hV3:=hid (HV.out w' hB3)
     have hlt3:wr.heap.size<w'.heap.size:=(aZ hbl')
     have hO3:Di w.heap.size B w' v' (out++[v]):=by
      refine⟨xs++[(v,⟨.slice xa n0 ya,.slice x1 n1 y1,.slice x2 n2 y2⟩)],by rw [List.map_append,hx1.out];rfl,?_,?_,hx4,hB3.size⟩
      ·rw [List.length_append,hN.out,List.length_singleton]
       rw [versCells_snoc]
       exact g1
      ·intro x hx
       rcases List.mem_append.1 hx with h|h
       ·have q:=hx3.out x h
        exact q.below ((((Below.refl B wr).alloc (nT hBw hsz) _).alloc (by simp;omega) _).trans (hgb.mono hBw)) nR
       ·cases List.mem_singleton.1 h
        exact hV3.out
     obtain⟨a',c',rfl,_⟩:=hO3.form
     have hlen3:(out++[v]).length=n+1:=by rw [List.length_append,hN.out];rfl
     rw [hlen3]
     have k0:w'.cell? ⟨wr.heap.size,0,none⟩=some (.int .i64 v.authority):=cell_of hbl' 0
     have k1:w'.cell? ⟨wr.heap.size,1,none⟩=some (.int .i64 v.number):=cell_of hbl' 1
     have k2:w'.cell? ⟨wr.heap.size,2,none⟩=some (.int .i64 v.pos):=cell_of hbl' 2
     have k3:w'.cell? ⟨wr.heap.size,3,none⟩=some (.string ⟨v.prev.toArray⟩):=cell_of hbl' 3
     have k4:w'.cell? ⟨wr.heap.size,4,none⟩=some (.slice xa n0 ya):=cell_of hbl' 4
     have k5:w'.cell? ⟨wr.heap.size,5,none⟩=some (.int .i64 v.sel.index):=cell_of hbl' 5
     have k6:w'.cell? ⟨wr.heap.size,6,none⟩=some (.slice x1 n1 y1):=cell_of hbl' 6
     have k7:w'.cell? ⟨wr.heap.size,7,none⟩=some (.slice x2 n2 y2):=cell_of hbl' 7
     have hO3:=hid hO3
     have hlen3:=hid hlen3
     clear hgb hBa g1 g2 g3 hbl hbl' hW2 hone
     go_wp2_with fail
     refine (M.out w' hB3).mono ?_
     rintro e w4 ⟨rfl,hb4⟩
     have hB4:Hid (Below w.heap.size w w4):=hid (hB3.trans (hb4.mono hB3.size))
     have hO4:Hid (Di w.heap.size B w4 (.slice a' (n+1) c') (out++[v])):=hid (by have:=hO3.out.below hb4;rwa [hlen3.out] at this)
     clear k0 k1 k2 k3 k4 k5 k6 k7 hb4 hO3
     go_wp2
     go_roundw
     case rel=>exact⟨out++[v],CH.msg v,v.pos,f,hO4,rfl,rfl,hB4,by have:=hlen3.out;omega,hI2⟩
     case measure=>simp [sliceLenV];omega
def Ints (B:Nat) (w:World) (v:Value) (ls:List Int):Prop :=
 ∃ a cap,v=.slice a ls.length cap∧ls.length≤cap∧cap≤9223372036854775807 ∧
  (ls≠[]→∃ b off,a=some ⟨b,off,none⟩∧b<B∧∀ j n,ls[j]?=some n→w.cell? ⟨b,off+j,none⟩=some (intV n))
theorem Ints.below {B B':Nat} {w w':World} {v:Value} {ls:List Int} (h:Ints B w v ls) (hb:Below B' w w') (hB:B≤B'):Ints B w' v ls:=by
 obtain⟨a,cap,hv,h1,h2,h3⟩:=h
 refine⟨a,cap,hv,h1,h2,fun hne=>?_⟩
 obtain⟨b,off,ha,hlt,hc⟩:=h3 hne
 exact⟨b,off,ha,hlt,fun j l hj=>(hb.cell (p:=⟨b,off+j,none⟩) (nL hlt hB)).trans (hc j l hj)⟩
theorem Ints.mono {B B':Nat} {w:World} {v:Value} {ls:List Int} (h:Ints B w v ls) (hB:B≤B'):Ints B' w v ls:=by
 obtain⟨a,cap,hv,h1,h2,h3⟩:=h
 refine⟨a,cap,hv,h1,h2,fun hne=>?_⟩
 obtain⟨b,off,ha,hlt,hc⟩:=h3 hne
 exact⟨b,off,ha,nL hlt hB,hc⟩
end
end Go.Proofs.YtjepldaciejieaaGreatDoor
namespace CH
def counts (msg:Version→Str) (known:Known) (n:Nat):List Int:=(List.range n).map fun (a:Nat)=>(((fol msg known (a:Int)).1.length:Nat):Int)
end CH
namespace Go.Proofs.YtjepldaciejieaaGreatDoor
open Go.RowKit Go.Lib Go.Shelf Go.Sort
theorem counts_len (msg:CH.Version→List UInt8) (known:CH.Known) (n:Nat):(CH.counts msg known n).length=n:=by simp [CH.counts]
theorem follow_chain (c r1 r2:Nat) (keys:List (List UInt8)) (known:CH.Known) (forks:CH.Forks) (a:Int) (w:World) (hG:Gc w) (hC:ChainAt w c r1 r2 keys known forks) (hn:∀ p v,(p,v)∈known→p.2≤200) :
  Calls Tryz.prog 71 #[.pointer (some ⟨c,0,none⟩),.int .i64 a] w (FollowRet w w.heap.size (CH.fol CH.msg known a)):=by
 obtain⟨vk,h1,_⟩:=hC.ex
 obtain⟨kvs,h2,h3⟩:=hC.known
 exact follow_any c r1 w.heap.size known kvs a w hG (cell_of h1 1) h2 h3 (Nat.le_refl _) hn
def IntsRet (w:World) (ls:List Int) (e:Ending) (w':World):Prop:=∃ v,e=.returned v∧Ints w'.heap.size w' v ls∧Below w.heap.size w w'
theorem intInfo:(Tryz.prog.info? 3).map (fun i=>(i.zero,i.size,i.bytes))=some (some (.int .i64 0),1,8):=by kernel_rfl
def rowK (cs:List Int) (N k:Nat):Array Value:=((cs.take k++List.replicate (N - k) 0).map intV).toArray
theorem rowK_set (cs:List Int) (N k:Nat) (x:Int) (hN:cs.length=N) (hk:k<N) (hx:cs[k]?=some x):(rowK cs N k).setIfInBounds k (.int .i64 x)=rowK cs N (k+1):=by
 have h1:(cs.take k).length=k:=by rw [List.length_take];omega
 have h2:List.replicate (N - k) (0:Int)=0::List.replicate (N - (k+1)) 0:=by rw [← List.replicate_succ];congr 1;omega
 unfold rowK
 rw [h2,List.take_add_one,hx,List.setIfInBounds_toArray]
 congr 1
 rw [List.map_append,List.map_cons,List.set_append_right _ _ (by rw [List.length_map,h1];exact Nat.le_refl _),List.length_map,h1,Nat.sub_self]
 simp
theorem rowK_at (cs:List Int) (N k:Nat) (hN:cs.length=N) (hk:k<N):(rowK cs N k)[k]?=some (.int .i64 0):=by
 have h1:(cs.take k).length=k:=by rw [List.length_take];omega
 unfold rowK
 rw [List.getElem?_toArray,List.map_append,List.getElem?_append_right (by rw [List.length_map,h1];exact Nat.le_refl _),List.length_map,h1,Nat.sub_self]
 have:N - k=(N - k - 1)+1:=by omega
 rw [this,List.replicate_succ]
 rfl
theorem rowK_done (cs:List Int) (N:Nat) (hN:cs.length=N):rowK cs N N=(cs.map intV).toArray:=by
 unfold rowK
 rw [List.take_of_length_le (by omega),Nat.sub_self]
 simp
theorem vector_any (c r1 r2:Nat) (keys:List (List UInt8)) (known:CH.Known) (forks:CH.Forks) (w:World) (hG:Gc w) (hC:ChainAt w c r1 r2 keys known forks) (hn:∀ p v,(p,v)∈known→p.2≤200) (hkl:keys.length≤1000) :
  Calls Tryz.prog 34 #[.pointer (some ⟨c,0,none⟩)] w (IntsRet w (CH.counts CH.msg known keys.length)):=by
 have HF:=hid fun (W:World) (hb:Below w.heap.size w W) (k:Nat)=>follow_chain c r1 r2 keys known forks (k:Int) W (hG.below hb) (hC.below hb) hn
 obtain⟨vk,hb00,hks⟩:=hC.ex
 obtain⟨ak,ck,rfl,_,_⟩:=hks.form
 have hclt:c<w.heap.size:=(Array.getElem?_eq_some_iff.1 hb00).1
 have kc:w.cell? ⟨c,0,none⟩=some (.slice ak keys.length ck):=cell_of hb00 0
 have hcl:=counts_len CH.msg known keys.length
 have hat:∀ k,k<keys.length→(CH.counts CH.msg known keys.length)[k]?=some (((CH.fol CH.msg known (k:Int)).1.length:Nat):Int):=fun k hk=>by
  unfold CH.counts
  rw [List.getElem?_map,List.getElem?_range hk]
  rfl
 generalize CH.counts CH.msg known keys.length=cs at *
 clear hb00 hks hC hn hG
 generalize keys.length=N at *
 have hat:=hid hat
 have hcl:=hid hcl
 have hmk:=fun W=>run_make_row' (P:=Tryz.prog) 95 3 (.int .i64 0) 8 Tryz.underlying95 intInfo rfl .i64 .i64 N (by omega) (by omega) W
 go_enter Tryz.func34,Tryz.ntmps34
 go_wp2_with fail
 have hrow0:(w.alloc (.cells (madeCells #[.int .i64 0] N) 3)).heap[w.heap.size]?=some (.cells (rowK cs N 0) 3 (0,0)):=by
  rw [heap_alloc_last w _]
  congr 2
  unfold rowK
  apply Array.ext'
  rw [List.take_zero,List.nil_append,Nat.sub_zero,List.map_replicate]
  apply List.ext_getElem?
  intro i
  by_cases hi:i<N
  ·simp [madeCells,hi,Nat.mod_one]
  ·simp [madeCells,hi]
 have hBa:Below w.heap.size w (w.alloc (.cells (madeCells #[.int .i64 0] N) 3)):=(Below.refl _ w).alloc (Nat.le_refl _) _
 clear hmk
 generalize w.alloc (.cells (madeCells #[.int .i64 0] N) 3)=W at *
 have hBa:=hid hBa
 have hrow0:=hid hrow0
 go_loopw [17] (fun i wr=>∃ k:Nat,k≤N∧i=.int .i64 k∧Hid (Below w.heap.size w wr)∧Hid (wr.heap[w.heap.size]?=some (.cells (rowK cs N k) 3 (0,0)))) (fun i _=>N - (RowKit.intOf i).toNat)
 case atStart=>exact⟨0,Nat.zero_le _,rfl,hBa,hrow0⟩
 case round =>
  obtain⟨k,hk,rfl,hBr,hrow⟩:=hrel
  by_cases hlt:k<N
  ·go_wp2_with fail
   refine (HF.out wr hBr.out k).mono ?_
   rintro e w1 ⟨v,rfl,hO,hb1⟩
   have hx:=hid (hat.out k hlt)
   obtain⟨av,cv,rfl,_⟩:=hO.form
   have hr1:=(hb1.block w.heap.size (Array.getElem?_eq_some_iff.1 hrow.out).1).trans hrow.out
   have hB1:Below w.heap.size w w1:=hBr.out.trans (hb1.mono hBr.out.size)
   have kc0:w1.cell? ⟨w.heap.size,k,none⟩=some (.int .i64 0):=(cell_of hr1 k).trans (rowK_at cs N k hcl.out hlt)
   have kf0:w1.frozen? ⟨w.heap.size,k,none⟩=false:=Aj hr1 k
   have hr2:=Ai w1 w.heap.size k (.int .i64 (((CH.fol CH.msg known (k:Int)).1.length:Nat):Int)) _ _ _ hr1
   rw [rowK_set cs N k _ hcl.out hlt hx.out] at hr2
   clear hO hb1 hr1 hrow hBr
   generalize (CH.fol CH.msg known (k:Int)).1.length=m at *
   generalize (CH.fol CH.msg known (k:Int)).2=s at *
   have hB2:Hid (Below w.heap.size w (w1.setCell ⟨w.heap.size,k,none⟩ (.int .i64 m))):=hid (hB1.setCell (Nat.le_refl _) _)
   have hr2:=hid hr2
   have hB1:=hid hB1
   have z0:(0:Int)≤(k:Int):=by omega
   have zk:((k:Int)).toNat=k:=by omega
   have hk':(k:Int)<(N:Int):=by omega
   go_wp2
   go_roundw
   case rel=>exact⟨k+1,by omega,by go_num,hB2,hr2⟩
   case measure=>simp [RowKit.intOf];omega
  ·obtain rfl:k=N:=by omega
   have hfin:=hrow.out
   rw [rowK_done cs k hcl.out] at hfin
   have hlt2:=(Array.getElem?_eq_some_iff.1 hfin).1
   have hI:Ints wr.heap.size wr (.slice (some ⟨w.heap.size,0,none⟩) k k) cs:=by
    refine⟨_,k,by rw [hcl.out],by rw [hcl.out];exact Nat.le_refl _,by omega,fun _=>⟨w.heap.size,0,rfl,hlt2,fun j n hj=>?_⟩⟩
    rw [Nat.zero_add,cell_of hfin j]
    simp [hj]
   have hI:=hid hI
   have hBr2:=hid hBr.out
   clear hfin hrow
   go_wp2
   go_ret
   exact⟨_,rfl,hI.out,hBr2.out⟩
end Go.Proofs.YtjepldaciejieaaGreatDoor
namespace Go.Proofs.YtjepldaciejieaaGreatDoor
section
open Go.Lib Go.Proofs.Tryz Go.RowKit Go.Shelf Go.Sort
theorem lawVec_any (c r1 r2:Nat) (key:List UInt8) (known:CH.Known) (forks:CH.Forks) (m n:Nat) (w:World) (hG:Gc w) (hC:ChainAt w c r1 r2 [key] known forks) (hn:∀ p v,(p,v)∈known→p.2≤200) (hm:(CH.fol CH.msg known 0).1.length=m) :
  Calls prog 14 #[.pointer (some ⟨c,0,none⟩),.int .i64 n] w (Ret w (.bool ((m:Int)==(n:Int)))):=by
 have V:=vector_any c r1 r2 [key] known forks w hG hC hn (by simp)
 have hc:CH.counts CH.msg known [key].length=[(m:Int)]:=by
  show CH.counts CH.msg known 1=_
  unfold CH.counts
  rw [← hm]
  rfl
 rw [hc] at V
 have V:=hid V
 clear hc hm hn hC hG
 obtain⟨R,hR⟩:∃ R,Hid (((m:Int)==(n:Int))=R):=⟨_,hid rfl⟩
 rw [hR.out]
 go_enter func14,ntmps14
 go_wp2_with fail
 refine V.out.mono ?_
 rintro e w1 ⟨v,rfl,hI,hb⟩
 clear V
 obtain⟨a,cap,rfl,_,_,hx⟩:=hI
 obtain⟨b,off,rfl,hlt,hcell⟩:=hx (by simp)
 have k0:w1.cell? ⟨b,off,none⟩=some (.int .i64 m):=by
  have:=hcell 0 _ rfl
  rwa [Nat.add_zero] at this
 simp only [List.length_singleton]
 clear hcell hx
 have hR:=hR.out
 go_wp2
 go_ret
 exact⟨by rw [← hR];rfl,hb⟩
theorem digest_len {l:List UInt8} (h:CH.isDigest l=true):l.length=16:=by
 unfold CH.isDigest at h
 rw [Bool.and_eq_true] at h
 exact beq_iff_eq.1 h.1
theorem Ef {ls:List (List UInt8)} (hl:ls.length≤18) (h:∀ x∈ls,CH.isDigest x=true):Short ls∧∀ l∈ls,l≠[] :=
 ⟨⟨by omega,fun l hx=>by rw [digest_len (h l hx)];omega⟩,fun l hx e=>by
  have:=digest_len (h l hx)
  rw [e] at this
  cases this⟩
theorem Dr (B:Nat) (w:World):Strs B w (.slice none 0 0) []:=⟨none,0,rfl,Nat.le_refl _,by omega,fun h=>absurd rfl h⟩
theorem mk_any (i:Nat) (hi:i<2) (number pos:Int) (prev:List UInt8) (acts:List CH.Act) (m:List UInt8) (hn:number=(i:Int)+1) (hpos:I64 pos) (hp:prev.length≤10000) (hm:CH.message (CH.bareOf number pos prev acts)=.ok m)
  (ht:∃ t,CH.vText (CH.sealed i (CH.bareOf number pos prev acts) m)=.ok t):MakeS (CH.sealed i (CH.bareOf number pos prev acts) m) number pos prev acts:=by
 intro w va hG hA
 obtain⟨t,ht⟩:=ht
 have d1:=Ef (by rw [CH.length_sig];omega) (CH.isDigest_sig CH.sS i m)
 have d2:=Ef (by rw [CH.length_path];omega) (CH.isDigest_path (CH.keys CH.sS 1) i)
 have h0:I64 0:=⟨by decide,by decide⟩
 have hnm:I64 number:=⟨by omega,by omega⟩
 have hsm:Short []:=⟨by simp,fun _ h=>by cases h⟩
 have C:=make_any (CH.bareOf number pos prev acts) i 1 CH.sS m t va w hG ⟨hA,Dr _ _,Dr _ _,⟨h0,hnm,hpos,hp,h0,hsm,hsm⟩⟩ rfl hn hm (by decide) (by decide) (by omega) ht d1.1 d2.1 d1.2 d2.2
 refine C.mono ?_
 rintro e w' ⟨s,rfl,hv,hb⟩
 obtain⟨a1,n1,c1,a2,n2,c2,a3,n3,c3,rfl⟩:=hv.sl
 exact⟨_,_,_,_,_,_,_,_,_,rfl,hv,hb⟩
theorem ends_s (n:Int) (hn:I64 n):EndsS n [CH.endAct n]:=by
 intro w
 refine (ends_any n hn w).mono ?_
 rintro e w' ⟨v,rfl,hA,hb⟩
 obtain⟨a,c,rfl,_,_⟩:=hA.form
 exact⟨_,_,_,rfl,hA,hb⟩
theorem add_s {V:CH.Version} {known:CH.Known} {forks:CH.Forks} {er:Int} {known':CH.Known} {forks':CH.Forks} (h:CH.addV chkV hK known forks V=(er,known',forks')):AddS CH.hKey V known forks er known' forks':=by
 intro w0 w l c r1 r2 s h9 hS hC hv
 have A:=add_any c r1 r2 hK known forks V s w hS.gc hC.1 hv
 have e:addC hK known forks V=(er,known',forks'):=h
 rw [e] at A
 refine A.mono ?_
 intro e w' hR
 have hS':=hS.added hC.1 hC.2.1 hC.2.2 h9 hR
 obtain⟨rfl,hC',_⟩:=hR
 exact⟨rfl,hS',hC',hC.2⟩
theorem vec_s {known:CH.Known} {n:Nat} (hn:∀ p v,(p,v)∈known→p.2≤200) (hm:(CH.fol CH.msg known 0).1.length=n):VecS CH.hKey known n:=by
 intro w0 w l c r1 r2 forks hS hC
 refine (lawVec_any c r1 r2 CH.hKey known forks n n w hS.gc hC.1 hn hm).mono ?_
 rintro e w' ⟨rfl,hb⟩
 exact⟨by simp,hS.go hb,hC.1.below hb,hC.2⟩
theorem holdAct_at (B:Nat) (w:World):ActAt B w CH.holdAct nilV:=by
 have s0:Strs B w nilS []:=Dr B w
 have hf:Ca (.mk 0 [] 0 0 []):=by
  unfold Ca Ch
  exact⟨by simp,trivial⟩
 have hc:(CH.Formula.mk 0 [] 0 0 []).count≤100000000:=by
  unfold CH.Formula.count CH.countAll;omega
 have hd:(CH.Formula.mk 0 [] 0 0 []).depth≤100000000:=by
  unfold CH.Formula.depth CH.depthAll;omega
 have i0:I64 0:=⟨by decide,by decide⟩
 have z:(0:Nat)≤10000:=by omega
 have z1:(0:Nat)≤100000:=by omega
 have z2:(2:Nat)≤10000:=by omega
 have sh:Short []:=⟨z1,fun l h=>by cases h⟩
 refine⟨⟨none,0,rfl,Nat.le_refl _,by omega,fun h=>absurd rfl h⟩,⟨?_,⟨i0,i0,i0,i0⟩,z,z,z,hf,hc,hd⟩,s0,s0,s0,⟨⟨z,⟨z,z1,fun _ h=>by cases h⟩⟩,i0,z,sh,sh,⟨z2,z2,z2,z,z,sh⟩,z,⟨by show (-9223372036854775808:Int)≤6;decide,by show (6:Int)≤9223372036854775807;decide⟩,i0⟩⟩
 show Am B w (.mk 0 [] 0 0 []) nilS
 unfold Am
 exact⟨none,0,rfl,Nat.le_refl _,by omega,fun h=>absurd rfl h⟩
theorem key_digest:CH.isDigest CH.hKey=true:=by
 unfold CH.hKey CH.pub
 exact CH.isDigest_root _
theorem keysOk_one:keysOk [CH.hKey]=true:=by
 have h:=key_digest
 unfold keysOk CH.digests
 simp [h]
theorem hf:HF CH.hKey CH.m1 CH.hOne CH.hTwo CH.hOther CH.hEarly [CH.endAct 1] [CH.endAct 2] [CH.endAct 3] kC1 kC2 kD1 kD2 kX1 kX2 fC fD:={
 pub:=fun w hG=>public_any CH.sS 1 w hG (by decide) (by decide)
 new:=fun w v hG hv=>by
  refine (new_any v [CH.hKey] w hG hv (fun l hl=>?_) (by simp)).mono ?_
  ·rw [List.mem_singleton] at hl
   rw [hl,digest_len key_digest]
   omega
  ·rintro e w' ⟨hb,hif⟩
   rw [if_pos keysOk_one] at hif
   obtain⟨c,r1,r2,rfl,hC,_,g2,g3⟩:=hif
   exact⟨c,r1,r2,rfl,hC,g2,g3,hb⟩
 e1:=ends_s 1 ⟨by decide,by decide⟩
 e2:=ends_s 2 ⟨by decide,by decide⟩
 e3:=ends_s 3 ⟨by decide,by decide⟩
 m1:=mk_any 0 (by decide) 1 100 [] [CH.endAct 1] CH.m1 rfl ⟨by decide,by decide⟩ (by decide) CH.msgOne CH.textOne
 m2:=mk_any 1 (by decide) 2 100 CH.m1 [CH.endAct 2] CH.m2 rfl ⟨by decide,by decide⟩ (by decide) CH.msgTwo CH.textTwo
 m3:=mk_any 0 (by decide) 1 100 [] [CH.endAct 3] CH.m3 rfl ⟨by decide,by decide⟩ (by decide) CH.msgOther CH.textOther
 m4:=mk_any 1 (by decide) 2 99 CH.m1 [] CH.m4 rfl ⟨by decide,by decide⟩ (by decide) CH.msgEarly CH.textEarly
 msg:=fun w s hG hv=>by
  have:=Cj CH.hOne s w hG hv
  have e:CH.message CH.hOne=.ok CH.m1:=(CH.message_sealed 0 CH.bOne CH.m1 rfl).trans CH.msgOne
  rw [e] at this
  exact this
 ac1:=add_s addC1
 ac2:=add_s addC2
 ac3:=add_s addC3
 ac4:=add_s addC4
 ad1:=add_s addD1
 ad2:=add_s addD2
 ad3:=add_s addD3
 ax1:=add_s addX1
 ax2:=add_s addX2
 vc1:=vec_s (n:=0) (by simp [kC1]) folC1
 vc2:=vec_s (n:=2) (by
  rintro⟨a,b⟩ v h
  simp [kC2] at h
  show b≤200
  rcases h with h|h <;> omega) folC2
 vd2:=vec_s (n:=1) (by
  rintro⟨a,b⟩ v h
  simp [kD2] at h
  show b≤200
  rcases h with h|h <;> omega) folD2
 vx2:=vec_s (n:=1) (by
  rintro⟨a,b⟩ v h
  simp [kX2] at h
  show b≤200
  rcases h with h|h <;> omega) folX2
 forks:=fun w0 w l c r1 r2 hS hC=>by
  refine (forks_any c r1 r2 [CH.hKey] kC2 fC w hC.1 (by simp [fC]) (by simp [fC])).mono ?_
  rintro e w' ⟨v,base,rfl,_,hO,hb⟩
  obtain⟨a,cap,rfl,_⟩:=hO.form
  exact⟨a,cap,rfl,hS.go hb⟩
 act:=fun w hG=>by
  have:=actTextC CH.holdAct nilV w hG (holdAct_at _ _)
  rw [holdText] at this
  exact this }
theorem lawHead_any (w:World) (hG:Gc w):Calls prog 4 #[] w (Ret w (.bool true)):=head_walk hf w hG
abbrev sealV (v:CH.Version) (secret:List UInt8) (h i:Nat) (m:List UInt8):CH.Version:={ v with sel:=⟨i,CH.sig secret i m,CH.path (CH.keys secret h) i⟩ }
theorem msg_seal (v:CH.Version) (x:CH.Seal):CH.message { v with sel:=x }=CH.message v:=rfl
theorem chk_seal {v:CH.Version} {secret m t:List UInt8} {h i:Nat} (hh:h≤8) (hi:i<2 ^ h) (hn:v.number=(i:Int)+1) (hm:CH.message v=.ok m) (ht:CH.vText (sealV v secret h i m)=.ok t):chkV (sealV v secret h i m) (CH.pub secret h)=true:=by
 have e:CH.msg (sealV v secret h i m)=m:=by
  unfold CH.msg
  rw [msg_seal,hm]
 rw [chkV_ok ht,e]
 dsimp only [sealV]
 rw [verify_sealed secret m h i hh hi,Bool.and_true,beq_iff_eq,hn]
 omega
theorem chk_other {v:CH.Version} {key:List UInt8} (hi:v.sel.index=v.number - 1):chkV { v with number:=v.number+1 } key=false:=by
 unfold chkV
 split
 ·rfl
 ·rw [Bool.and_eq_false_iff]
  left
  simp only [beq_eq_false_iff_ne,ne_eq]
  omega
theorem vText_ne {v:CH.Version} {e:Int} (h:CH.vText v=.error e):e≠0:=by
 unfold CH.vText at h
 split at h
 ·cases h;decide
 ·split at h
  ·dsimp only at h
   split at h
   ·cases h;decide
   ·cases h
  ·cases h;decide
theorem message_err {v:CH.Version} {e:Int} (h:CH.message v=.error e):e≠0:=by
 unfold CH.message at h
 split at h
 ·rename_i e' he
  cases h
  exact vText_ne he
 ·cases h
theorem message_nums {v:CH.Version} {m:List UInt8} (h:CH.message v=.ok m):1≤v.number∧v.number≤200:=by
 unfold CH.message at h
 split at h
 ·cases h
 ·rename_i t ht
  have:=CH.vText_nums ht
  exact⟨this.2.1,this.2.2⟩
def MakeRet (w:World) (v:CH.Version) (secret:List UInt8) (h:Int) (e:Ending) (w':World):Prop :=
 Below w.heap.size w w'∧((∃ er,er≠0∧e=.returned (.tuple #[.agg A7.toArray,.int .i64 er])) ∨
  ∃ (i k:Nat) (m t:List UInt8) (s:VerV),v.number=(i:Int)+1∧h=(k:Int)∧i<2 ^ k∧CH.message v=.ok m∧CH.vText (sealV v secret k i m)=.ok t∧e=.returned (.tuple #[.agg (Ac (sealV v secret k i m) s).toArray,.int .i64 0])∧VerAt w'.heap.size w' (sealV v secret k i m) s)
theorem makeAll_any (v:CH.Version) (h:Int) (secret:List UInt8) (va:Value) (w:World) (hG:Gc w) (hA:VerAt w.heap.size w v ⟨va,.slice none 0 0,.slice none 0 0⟩) (hv:v.sel=⟨0,[],[]⟩) (hs:secret.length≤1000000) (hh:h≤8) :
  Calls prog 6 #[.int .i64 v.authority,.int .i64 v.number,.int .i64 v.pos,.string ⟨v.prev.toArray⟩,va,.string ⟨secret.toArray⟩,.int .i64 h] w (MakeRet w v secret h):=by
 cases hm:CH.message v with
 | error er =>
  refine (make_err1 v h er secret va w hG hA hv hm (message_err hm)).mono ?_
  rintro e w' ⟨rfl,hb⟩
  exact⟨hb,.inl ⟨er,message_err hm,rfl⟩⟩
 | ok m =>
  have hn:=message_nums hm
  obtain⟨i,hi⟩:∃ i:Nat,v.number=(i:Int)+1:=⟨(v.number - 1).toNat,by omega⟩
  by_cases hbad:h<0∨∃ k:Nat,h=k∧k≤8∧2 ^ k≤i
  ·refine (make_err2 v h i secret m va w hG hA hv hi (by omega) hm hbad).mono ?_
   rintro e w' ⟨rfl,hb⟩
   exact⟨hb,.inl ⟨1,by decide,rfl⟩⟩
  ·obtain⟨k,rfl⟩:∃ k:Nat,h=(k:Int):=⟨h.toNat,by omega⟩
   have hik:i<2 ^ k:=by
    rcases Nat.lt_or_ge i (2 ^ k) with h1|h1
    ·exact h1
    ·exact absurd (.inr ⟨k,rfl,by omega,h1⟩) hbad
   have d1:=Ef (by rw [CH.length_sig];omega) (CH.isDigest_sig secret i m)
   have d2:=Ef (by rw [CH.length_path];omega) (CH.isDigest_path (CH.keys secret k) i)
   refine (make_fin v i k secret m _ va w hG hA hv hi hm hs (by omega) hik rfl (fun er her=>vText_ne her) d1.1 d2.1 d1.2 d2.2).mono ?_
   rintro e w' ⟨hb,⟨s,rfl,e2,t,ht⟩|⟨er,rfl,ht⟩⟩
   ·exact⟨hb,.inr ⟨i,k,m,t,s,hi,rfl,hik,hm,ht,rfl,e2⟩⟩
   ·exact⟨hb,.inl ⟨er,vText_ne ht,rfl⟩⟩
theorem strs_new (w:World) (ls:List (List UInt8)) (h:ls.length≤1000000):Strs (w.alloc (.cells (ls.map strV).toArray 9)).heap.size (w.alloc (.cells (ls.map strV).toArray 9)) (.slice (some ⟨w.heap.size,0,none⟩) ls.length ls.length) ls:=(Eo w ls h).strs
theorem fewActs_any (v:Value) (l:List CH.Act) (w:World) (hv:D8 w.heap.size w v l) :
  Calls prog 5 #[v,.int .i64 5] w (Ret w (.bool (CH.fewActs l 5))):=by
 obtain⟨a,cap,rfl,hl,hcap,hne⟩:=hv
 obtain⟨R,hR⟩:∃ R,Hid (CH.fewActs l 5=R):=⟨_,hid rfl⟩
 rw [hR.out]
 have hne:=hid hne
 obtain⟨N,hN⟩:∃ N,l.length=N:=⟨_,rfl⟩
 rw [hN] at hl ⊢
 have hN:=hid hN
 go_enter func5,ntmps5
 go_wp2_with fail
 go_loopw [5] (fun i wr=>∃ k:Nat,k≤N∧i=.int .i64 k∧Hid (Below w.heap.size w wr)∧Hid ((l.take k).all CH.fewAct=true)) (fun i _=>N - (RowKit.intOf i).toNat)
 case atStart=>exact⟨0,Nat.zero_le _,rfl,hid (Below.refl _ _),hid rfl⟩
 case round =>
  obtain⟨k,hk,rfl,hBr,hI⟩:=hrel
  by_cases hlt:k<N
  ·obtain⟨b,off,rfl,hbl,hcells⟩:=hne.out (by intro h;have:=hN.out;simp [h] at this;omega)
   obtain⟨x,hx⟩:∃ x,l[k]?=some x:=⟨_,lZ (by rw [hN.out];exact hlt)⟩
   obtain⟨sx,hc,hat⟩:=hcells k x hx
   have hrg:wr.rangeAt b (off+k*37) (As x sx):=fun j u hj=>(hBr.out.cell (p:=⟨b,off+k*37+j,none⟩) hbl).trans (hc j u hj)
   have hlen:(prog.info? 63).map (·.size)=some (As x sx).length:=by kernel_rfl
   have h1c:=hid (actCells_oneR hat)
   have hlenA:(As x sx).length=37:=rfl
   have HA:=hid fun (W:World) (hb:Below w.heap.size w W)=>(hat.below hb nR).mono hb.size
   have hx:=hid hx
   clear hcells hc hat
   obtain⟨vn,vk,vm,vp,vj⟩:=sx
   have n35:(As x ⟨vn,vk,vm,vp,vj⟩)[35]?=some (.string ⟨x.id.toArray⟩):=rfl
   have n6:(As x ⟨vn,vk,vm,vp,vj⟩)[6]?=some (.string ⟨x.measure.id.toArray⟩):=rfl
   have n7:(As x ⟨vn,vk,vm,vp,vj⟩)[7]?=some (.string ⟨x.measure.authority.toArray⟩):=rfl
   have n9:(As x ⟨vn,vk,vm,vp,vj⟩)[9]?=some (.string ⟨x.measure.target.toArray⟩):=rfl
   have n18:(As x ⟨vn,vk,vm,vp,vj⟩)[18]?=some (.string ⟨x.licence.id.toArray⟩):=rfl
   generalize hC:As x { vn:=vn,vk:=vk,vm:=vm,vp:=vp,vj:=vj }=C at *
   have hn1:=hid (Bl wr C 63)
   have hrg:=hid hrg
   have hC:=hid hC
   go_upto_region 5 with (first|refine wpList_load_mid rfl 63 _ rfl b (off+k*37) rfl C _ hrg.out underlying63 rfl hlen ?_|refine Av rfl 63 _ _ rfl C rfl rfl (by rw [hlenA];rfl) hlen h1c.out ?_)
   have hb0:Below w.heap.size w (wr.alloc (.cells C.toArray 63)):=hBr.out.alloc hBr.out.size _
   have hblk:(wr.alloc (.cells C.toArray 63)).heap[wr.heap.size]?=some (.cells C.toArray 63 (0,0)):=heap_alloc_last wr _
   generalize wr.alloc (.cells C.toArray 63)=W1 at *
   have hlt1:wr.heap.size<W1.heap.size:=(aZ hblk)
   have KC:Hid (∀ (W:World),W.heap[wr.heap.size]?=some (.cells C.toArray 63 (0,0))→∀ (i:Nat) (u:Value),C[i]?=some u→W.cell? ⟨wr.heap.size,i,none⟩=some u):=hid fun W hW i u hu=>(cell_of hW i).trans (by simpa using hu)
   have k35:=KC.out W1 hblk 35 _ n35
   have k6:=KC.out W1 hblk 6 _ n6
   have k7:=KC.out W1 hblk 7 _ n7
   have k9:=KC.out W1 hblk 9 _ n9
   have k18:=KC.out W1 hblk 18 _ n18
   clear hrg hn1 n35 n6 n7 n9 n18
   go_upto_region 6 with (fail)
   have RB:Hid (∀ (W:World),W.heap[wr.heap.size]?=some (.cells C.toArray 63 (0,0))→W.rangeAt wr.heap.size 1 (A4 x.change vn)∧W.rangeAt wr.heap.size 10 (Af x.measure.when_ vk).toList∧W.rangeAt wr.heap.size 25 (Ar x.holding vj)∧W.cell? ⟨wr.heap.size,19,none⟩=some vm∧W.cell? ⟨wr.heap.size,20,none⟩=some vp):=hid fun W hW=>by
    have h0:W.rangeAt wr.heap.size 0 (As x { vn:=vn,vk:=vk,vm:=vm,vp:=vp,vj:=vj }):=fun j u hj=>by
     rw [hC.out] at hj
     rw [Nat.zero_add]
     exact KC.out W hW j u hj
    have q1:=Bj (l:=[intV x.kind]) h0 1 rfl
    have q2:=Bj (l:=A4 x.change vn) q1 6 rfl
    have q3:=Bj (l:=Aq x.measure vk) q2 18 rfl
    have q4:=Bj (l:=Bq x.licence vm vp) q3 25 rfl
    have q5:=Cg (l:=Aq x.measure vk) q2
    have q6:=Bj (l:=[strV x.measure.id,strV x.measure.authority,intV x.measure.kind,strV x.measure.target]) (m:=(Af x.measure.when_ vk).toList++[intV x.measure.start,intV x.measure.until_,intV x.measure.wind]) q5 10 rfl
    exact⟨Cg q1,Cg q6,Cg q4,q3 1 _ rfl,q3 2 _ rfl⟩
   obtain⟨W2,hW2⟩:∃ W2,W1.alloc (.cells #[strV x.id,strV x.measure.id,strV x.measure.authority,strV x.measure.target,strV x.licence.id] 9)=W2:=⟨_,rfl⟩
   have hb2:Below W1.heap.size W1 W2:=by rw [← hW2];exact (Below.refl _ W1).alloc nR _
   have hs5:Strs W2.heap.size W2 (.slice (some ⟨W1.heap.size,0,none⟩) 5 5) [x.id,x.measure.id,x.measure.authority,x.measure.target,x.licence.id]:=by
    rw [← hW2]
    exact strs_new W1 [x.id,x.measure.id,x.measure.authority,x.measure.target,x.licence.id] (by simp)
   rw [hW2]
   clear hW2
   have hblk2:=(hb2.block _ hlt1).trans hblk
   have hbW2:Below w.heap.size w W2:=hb0.trans (hb2.mono hb0.size)
   have hlt2:wr.heap.size<W2.heap.size:=nL hlt1 hb2.size
   clear k35 k6 k7 k9 k18 hb2 hblk hb0
   have HS:=hid fun (W:World) (hb:Below W2.heap.size W2 W)=>(hs5.below hb nR).mono hb.size
   clear hs5
   obtain⟨p1,hp1⟩:∃ p,Hid (CH.fewChange x.change=p):=⟨_,hid rfl⟩
   obtain⟨p2,hp2⟩:∃ p,Hid (CH.smallF x.measure.when_ 60=p):=⟨_,hid rfl⟩
   obtain⟨p3,hp3⟩:∃ p,Hid (CH.short60 [x.id,x.measure.id,x.measure.authority,x.measure.target,x.licence.id] 5=p):=⟨_,hid rfl⟩
   obtain⟨p4,hp4⟩:∃ p,Hid (CH.short60 x.licence.measures 70=p):=⟨_,hid rfl⟩
   obtain⟨p5,hp5⟩:∃ p,Hid (CH.short60 x.licence.parties 70=p):=⟨_,hid rfl⟩
   obtain⟨p6,hp6⟩:∃ p,Hid (CH.fewHold x.holding=p):=⟨_,hid rfl⟩
   have hact:Hid (CH.fewAct x=(p1&&(p2&&(p3&&(p4&&(p5&&p6)))))):=hid (by rw [← hp1.out,← hp2.out,← hp3.out,← hp4.out,← hp5.out,← hp6.out];rfl)
   have hfalse:Hid ((p1&&(p2&&(p3&&(p4&&(p5&&p6)))))=false→R=false):=hid fun h=>by
    rw [← hR.out]
    unfold CH.fewActs
    rw [CH.all_false_of _ l k x hx.out (hact.out.trans h)]
    rfl
   have F1:=hid (hp1.out ▸ fewChange_any x.change vn W2 (HA.out W2 hbW2).names)
   have F2:=hid fun (W:World) (hb:Below w.heap.size w W)=>hp2.out ▸ smallF_any x.measure.when_ vk 60 W (HA.out W hb).kids (by decide) (by decide)
   have F3:=hid fun (W:World) (hb:Below W2.heap.size W2 W)=>hp3.out ▸ short_any _ _ 5 W (HS.out W hb)
   have F4:=hid fun (W:World) (hb:Below w.heap.size w W)=>hp4.out ▸ short_any _ _ 70 W (HA.out W hb).lm
   have F5:=hid fun (W:World) (hb:Below w.heap.size w W)=>hp5.out ▸ short_any _ _ 70 W (HA.out W hb).lp
   obtain⟨r1,_,_,_,_⟩:=RB.out W2 hblk2
   have r1:=hid r1
   have hi61:(prog.info? 54).map (·.size)=some 5:=by kernel_rfl
   have hi64:(prog.info? 57).map (·.size)=some 5:=by kernel_rfl
   have hi56:(prog.info? 49).map (·.size)=some 10:=by kernel_rfl
   go_wp2_with (refine wpList_load_mid rfl 54 _ rfl wr.heap.size 1 rfl (A4 x.change vn) _ r1.out underlying54 rfl hi61 ?_)
   refine F1.out.mono ?_
   rintro e w3 ⟨rfl,hb3⟩
   have hb3':Below W2.heap.size W2 w3:=hb3
   have hblk3:=(hb3.block _ hlt2).trans hblk2
   have hbW3:Below w.heap.size w w3:=hbW2.trans (hb3.mono hbW2.size)
   have hlt3:wr.heap.size<w3.heap.size:=nL hlt2 hb3.size
   clear F1 r1 hb3
   cases p1 with
   | false =>
    go_wp2
    go_ret
    exact⟨by rw [hfalse.out rfl];rfl,hbW3⟩
   | true =>
    obtain⟨_,r2,_,_,_⟩:=RB.out w3 hblk3
    have r2:=hid r2
    go_wp2_with (refine Ak rfl 57 _ rfl wr.heap.size 10 rfl (Af x.measure.when_ vk).toList _ r2.out underlying57 rfl hi64 ?_)
    refine (F2.out w3 hbW3).mono ?_
    rintro e w4 ⟨rfl,hb4⟩
    have hb4':Below W2.heap.size W2 w4:=hb3'.trans (hb4.mono hb3'.size)
    have hblk4:=(hb4.block _ hlt3).trans hblk3
    have hbW4:Below w.heap.size w w4:=hbW3.trans (hb4.mono hbW3.size)
    have hlt4:wr.heap.size<w4.heap.size:=nL hlt3 hb4.size
    clear F2 r2 hb4
    cases p2 with
    | false =>
     go_wp2
     go_ret
     exact⟨by rw [hfalse.out rfl];rfl,hbW4⟩
    | true =>
     go_wp2_with fail
     refine (F3.out w4 hb4').mono ?_
     rintro e w5 ⟨rfl,hb5⟩
     have hblk5:=(hb5.block _ hlt4).trans hblk4
     have hbW5:Below w.heap.size w w5:=hbW4.trans (hb5.mono hbW4.size)
     have hlt5:wr.heap.size<w5.heap.size:=nL hlt4 hb5.size
     clear F3 hb5
     cases p3 with
     | false =>
      go_wp2
      go_ret
      exact⟨by rw [hfalse.out rfl];rfl,hbW5⟩
     | true =>
      obtain⟨_,_,_,k19,_⟩:=RB.out w5 hblk5
      go_wp2_with fail
      refine (F4.out w5 hbW5).mono ?_
      rintro e w6 ⟨rfl,hb6⟩
      have hblk6:=(hb6.block _ hlt5).trans hblk5
      have hbW6:Below w.heap.size w w6:=hbW5.trans (hb6.mono hbW5.size)
      have hlt6:wr.heap.size<w6.heap.size:=nL hlt5 hb6.size
      clear F4 hb6 k19
      cases p4 with
      | false =>
       go_wp2
       go_ret
       exact⟨by rw [hfalse.out rfl];rfl,hbW6⟩
      | true =>
       obtain⟨_,_,_,_,k20⟩:=RB.out w6 hblk6
       go_wp2_with fail
       refine (F5.out w6 hbW6).mono ?_
       rintro e w7 ⟨rfl,hb7⟩
       have hblk7:=(hb7.block _ hlt6).trans hblk6
       have hbW7:Below w.heap.size w w7:=hbW6.trans (hb7.mono hbW6.size)
       have hlt7:wr.heap.size<w7.heap.size:=nL hlt6 hb7.size
       clear F5 hb7 k20
       cases p5 with
       | false =>
        go_wp2
        go_ret
        exact⟨by rw [hfalse.out rfl];rfl,hbW7⟩
       | true =>
        obtain⟨_,_,r3,_,_⟩:=RB.out w7 hblk7
        generalize hLL:Ar x.holding vj=LL at *
        have hlen10:LL.length=10:=by rw [← hLL];rfl
        have hLL:=hid hLL
        have hi56':(prog.info? 49).map (·.size)=some LL.length:=by rw [hlen10];exact hi56
        have r3:=hid r3
        clear RB
        go_wp2_with (refine Ak rfl 49 _ rfl wr.heap.size 25 rfl LL _ r3.out underlying49 rfl hi56' ?_)
        rw [fold_new LL _ (by rw [hlen10];rfl)]
        have hbb:Below w7.heap.size w7 (w7.alloc (.cells LL.toArray 49)):=(Below.refl _ w7).alloc nR _
        have hbW8:Below w.heap.size w (w7.alloc (.cells LL.toArray 49)):=hbW7.trans (hbb.mono hbW7.size)
        have F6:=hid (hp6.out ▸ fewHold_any (.slice (some ⟨w7.heap.size,0,none⟩) 1 1) x.holding (w7.alloc (.cells LL.toArray 49)) ⟨w7.heap.size,vj,rfl,by simp,fun j y hj=>by
         rw [hLL.out] at hj
         have:=Bl w7 LL 49 j y hj
         rwa [Nat.zero_add] at this,(HA.out _ hbW8).hj⟩)
        refine F6.out.mono ?_
        rintro e w8 ⟨rfl,hb8⟩
        have hbW9:Below w.heap.size w w8:=hbW8.trans (hb8.mono hbW8.size)
        clear F6 hb8 hbb hlen10 r3
        cases p6 with
        | false =>
         go_wp2
         go_ret
         exact⟨by rw [hfalse.out rfl];rfl,hbW9⟩
        | true =>
         have hI':Hid ((l.take (k+1)).all CH.fewAct=true):=hid (by rw [CH.all_take_snoc _ l k x hx.out,hI.out,hact.out];rfl)
         have hB':Hid (Below w.heap.size w w8):=hid hbW9
         go_wp2
         go_roundw
         case rel=>exact⟨k+1,by omega,by go_num,hB',hI'⟩
         case measure=>simp [RowKit.intOf];omega
  ·obtain rfl:k=N:=by omega
   have hall:l.all CH.fewAct=true:=by have:=hI.out;rwa [← hN.out,List.take_length] at this
   go_wp2
   go_ret
   have hk5:decide ((k:Int)≤5)=R:=by
    rw [← hR.out]
    unfold CH.fewActs
    rw [hall,hN.out,Bool.true_and,decide_eq_decide]
    omega
   exact⟨by rw [← hk5];rfl,hBr.out⟩
end
section
open Go.Deep Go.Lib Go.Proofs.Tryz Go.RowKit Go.Shelf Go.Sort Go.WideShapes
section
variable {H:Type} {enc:TypeId × Value→H} {w:World} {spare:Nat→Bool} {held:Bool}
theorem open_sl {t e:TypeId} {C fuel:Nat} {cs:List Value} {x:DataW H × List MemPlace} (ht:prog.underlying t=some (.slice e)) (hC:prog.cellsOf e=C) (hpos:0<C)
  (h:DataW.trod enc prog w 0 spare held fuel t cs=some x) :
  ∃ a len cap,cs=[.slice a len cap]∧len≤cap∧cap≤9223372036854775807 ∧
   (len≠0→∃ b off,a=some ⟨b,off,none⟩∧b<w.heap.size∧∀ j,j<len→∃ cs' k y,k<fuel∧cs'.length=C∧(∀ i u,cs'[i]?=some u→w.cell? ⟨b,off+j*C+i,none⟩=some u)∧DataW.trod enc prog w 0 spare held k e cs'=some y):=by
 subst hC
 rcases DataW.trod_slice ht h with⟨h0,_⟩|⟨a,len,cap,elems,rest,n,hn,rfl,_,_,hl,hm,hlen,hel,_,_⟩
 ·exact⟨none,0,0,h0,by omega,by omega,fun h=>absurd rfl h⟩
 ·unfold maxLen at hm
  refine⟨some a,len,cap,rfl,hl,by omega,fun hne=>?_⟩
  have key:∀ j,j<len→∃ cs' y,cs'.length=prog.cellsOf e∧(∀ i,i<prog.cellsOf e→w.cell? ((a.add (j*prog.cellsOf e)).add i)=cs'[i]?)∧DataW.trod enc prog w 0 spare held n e cs'=some y:=fun j hj=>by
   have h1:=hel j hj
   rw [lZ (by omega)] at h1
   obtain⟨cs',h2,h3⟩:=Option.bind_eq_some_iff.1 h1
   obtain⟨_,h4,h5⟩:=World.cells?_some h2
   exact⟨cs',_,h4,h5,h3⟩
  have hplain:∃ b off,a=⟨b,off,none⟩∧b<w.heap.size:=by
   obtain⟨cs',y,h4,h5,_⟩:=key 0 (by omega)
   have h6:=h5 0 hpos
   rw [lZ (by omega)] at h6
   have e0:(a.add (0*prog.cellsOf e)).add 0=a:=by simp [Addr.add]
   rw [e0] at h6
   have h7:=World.block_lt_of_cell? w _ h6
   obtain⟨b,off,sub⟩:=a
   cases sub with
   | none=>exact⟨b,off,rfl,h7⟩
   | some q =>
    exfalso
    unfold World.cell? at h6
    split at h6
    ·simp at h6
    ·cases h6
  obtain⟨b,off,rfl,hb⟩:=hplain
  refine⟨b,off,rfl,hb,fun j hj=>?_⟩
  obtain⟨cs',y,h4,h5,h6⟩:=key j hj
  refine⟨cs',n,y,by omega,h4,fun i u hu=>?_,h6⟩
  have hi:i<cs'.length:=(lS hu)
  have h7:=h5 i (by omega)
  rw [Deep.add_add,hu] at h7
  rw [Nat.add_assoc,← Go.WideShapes.add_plain]
  exact h7
theorem open_fld {t:TypeId} {fs:Array Field} {fuel:Nat} {cs:List Value} {x:DataW H × List MemPlace} (ht:prog.underlying t=some (.struct fs)) (h:DataW.trod enc prog w 0 spare held fuel t cs=some x)
  (i:Nat) (e:TypeId) (o n:Nat) (hf:(fs[i]?).map (fun f=>(f.type,f.offset))=some (e,o)) (hn:prog.cellsOf e=n) :
  ∃ k y,k<fuel∧DataW.trod enc prog w 0 spare held k e ((cs.drop o).take n)=some y:=by
 obtain⟨xs,k,rfl,_,_,hlen,hx⟩:=DataW.trod_struct ht h
 cases hi:fs[i]? with
 | none=>rw [hi] at hf;cases hf
 | some f =>
  rw [hi] at hf
  simp only [Option.map_some,Option.some.injEq,Prod.mk.injEq] at hf
  obtain⟨rfl,rfl⟩:=hf
  have hlt:i<xs.length:=by rw [hlen];exact (aZ hi)
  have:=hx i f hi
  rw [hn,lZ hlt] at this
  exact⟨k,_,by omega,this⟩
theorem open_len {t:TypeId} {fs:Array Field} {fuel:Nat} {cs:List Value} {x:DataW H × List MemPlace} (ht:prog.underlying t=some (.struct fs)) (h:DataW.trod enc prog w 0 spare held fuel t cs=some x)
  (n:Nat) (hn:prog.cellsOf t=n):cs.length=n:=by
 obtain⟨xs,k,_,_,hl,_,_⟩:=DataW.trod_struct ht h
 rw [hl,hn]
theorem open_i {k:Nat} {cs:List Value} {y:DataW H × List MemPlace} (h:DataW.trod enc prog w 0 spare held k 3 cs=some y):∃ n:Int,cs=[intV n]∧I64 n:=by
 obtain⟨n,h1,_,h3⟩:=DataW.trod_int underlying3 h
 rw [Lit.wf_int_iff] at h3
 exact⟨n,h1,h3⟩
theorem open_s {k:Nat} {cs:List Value} {y:DataW H × List MemPlace} (h:DataW.trod enc prog w 0 spare held k 9 cs=some y):∃ l:List UInt8,cs=[strV l]∧l.length≤9223372036854775807:=by
 obtain⟨s,h1,_,h3⟩:=DataW.trod_string underlying9 h
 unfold maxLen at h3
 obtain⟨⟨l⟩⟩:=s
 refine⟨l,h1,?_⟩
 have:l.length≤2 ^ 63 - 1:=h3
 omega
theorem list_of {α:Type} {p:Nat→α→Prop}:∀ n,(∀ j,j<n→∃ x,p j x)→∃ l:List α,l.length=n∧∀ j x,l[j]?=some x→p j x
 | 0,_=>⟨[],rfl,fun j x h=>by simp at h⟩
 | n+1,h=>by
  obtain⟨l,hl,hx⟩:=list_of n (fun j hj=>h j (by omega))
  obtain⟨x,hp⟩:=h n (by omega)
  refine⟨l++[x],by simp [hl],fun j y hj=>?_⟩
  rcases Nat.lt_trichotomy j n with h1|h1|h1
  ·rw [List.getElem?_append_left (by omega)] at hj
   exact hx j y hj
  ·subst h1
   rw [← hl] at hj
   simp at hj
   subst hj
   exact hp
  ·rw [List.getElem?_eq_none (by simp;omega)] at hj
   cases hj
theorem open_ss {k:Nat} {cs:List Value} {y:DataW H × List MemPlace} (h:DataW.trod enc prog w 0 spare held k 25 cs=some y) :
  ∃ v ls,cs=[v]∧Strs w.heap.size w v ls∧∀ l∈ls,l.length≤9223372036854775807:=by
 obtain⟨a,len,cap,rfl,h1,h2,h3⟩:=open_sl (C:=1) underlying25 (by kernel_rfl) (by decide) h
 by_cases h0:len=0
 ·subst h0
  exact⟨_,[],rfl,⟨a,cap,rfl,h1,h2,fun hne=>absurd rfl hne⟩,fun _ h=>by cases h⟩
 ·obtain⟨b,off,rfl,hb,hx⟩:=h3 h0
  obtain⟨ls,hl,hp⟩:=list_of (p:=fun j (l:List UInt8)=>w.cell? ⟨b,off+j,none⟩=some (strV l)∧l.length≤9223372036854775807) len (fun j hj=>by
   obtain⟨cs',k',y',_,_,hc,ht⟩:=hx j hj
   obtain⟨l,rfl,hl⟩:=open_s ht
   have:=hc 0 _ rfl
   rw [Nat.mul_one,Nat.add_zero] at this
   exact⟨l,this,hl⟩)
  refine⟨_,ls,rfl,⟨_,cap,by rw [hl],by omega,h2,fun _=>⟨b,off,rfl,hb,fun j l hj=>(hp j l hj).1⟩⟩,fun l hl'=>?_⟩
  obtain⟨j,hj⟩:=List.mem_iff_getElem?.1 hl'
  exact (hp j l hj).2
theorem open_names {k:Nat} {cs:List Value} {y:DataW H × List MemPlace} (h:DataW.trod enc prog w 0 spare held k 50 cs=some y) :
  ∃ v ns,cs=[v]∧Cc w.heap.size w v ns:=by
 obtain⟨a,len,cap,rfl,h1,h2,h3⟩:=open_sl (C:=2) underlying50 (by kernel_rfl) (by decide) h
 by_cases h0:len=0
 ·subst h0
  exact⟨_,[],rfl,⟨a,cap,rfl,h1,h2,fun hne=>absurd rfl hne⟩⟩
 ·obtain⟨b,off,rfl,hb,hx⟩:=h3 h0
  obtain⟨ns,hl,hp⟩:=list_of (p:=fun j (n:CH.Name)=>∃ vw,w.cell? ⟨b,off+j*2,none⟩=some (.int .i64 n.script)∧w.cell? ⟨b,off+j*2+1,none⟩=some vw∧Strs w.heap.size w vw n.words) len (fun j hj=>by
   obtain⟨cs',k',y',_,hlen,hc,ht⟩:=hx j hj
   obtain⟨_,_,_,t0⟩:=open_fld underlying157 ht 0 3 0 1 rfl (by kernel_rfl)
   obtain⟨_,_,_,t1⟩:=open_fld underlying157 ht 1 25 1 1 rfl (by kernel_rfl)
   match cs',hlen with
   | [c0,c1],_ =>
    obtain⟨n,e0,_⟩:=open_i t0
    obtain⟨v,ls,e1,hs,_⟩:=open_ss t1
    simp at e0 e1
    subst e0 e1
    exact⟨⟨n,ls⟩,_,hc 0 _ rfl,hc 1 _ rfl,hs⟩)
  exact⟨_,ns,rfl,⟨_,cap,by rw [hl],by omega,h2,fun _=>⟨b,off,rfl,hb,hp⟩⟩⟩
theorem rowAt_of {B:Nat}:∀ (l:List CH.Formula) (b off:Nat),(∀ (j:Nat) (f:CH.Formula),l[j]?=some f→∃ vk,w.cell? ⟨b,off+j*5,none⟩=some (.int .i64 f.op)∧w.cell? ⟨b,off+j*5+1,none⟩=some (.string ⟨f.name.toArray⟩)∧w.cell? ⟨b,off+j*5+2,none⟩=some (.int .i64 f.cmp)∧w.cell? ⟨b,off+j*5+3,none⟩=some (.int .i64 f.n)∧w.cell? ⟨b,off+j*5+4,none⟩=some vk∧Am B w f vk)→RowAt B w l b off
 | [],_,_,_=>by unfold RowAt;trivial
 | f::l,b,off,h=>by
  unfold RowAt
  refine⟨?_,rowAt_of l b (off+5) fun j g hj=>?_⟩
  ·have:=h 0 f rfl
   rw [Nat.zero_mul,Nat.add_zero] at this
   exact this
  ·have:=h (j+1) g (by simpa using hj)
   rw [show off+(j+1)*5=off+5+j*5 from by omega] at this
   exact this
def formCells (f:CH.Formula) (vk:Value):List Value:=[intV f.op,strV f.name,intV f.cmp,intV f.n,vk]
theorem open_form:∀ (k:Nat) {cs:List Value} {y:DataW H × List MemPlace},DataW.trod enc prog w 0 spare held k 57 cs=some y→∃ f vk,cs=formCells f vk∧Am w.heap.size w f vk:=by
 intro k
 induction k using Nat.strongRecOn with
 | _ k ih =>
  intro cs y ht
  have hlen:=open_len underlying57 ht 5 (by kernel_rfl)
  obtain⟨_,_,_,t0⟩:=open_fld underlying57 ht 0 3 0 1 rfl (by kernel_rfl)
  obtain⟨_,_,_,t1⟩:=open_fld underlying57 ht 1 9 1 1 rfl (by kernel_rfl)
  obtain⟨_,_,_,t2⟩:=open_fld underlying57 ht 2 3 2 1 rfl (by kernel_rfl)
  obtain⟨_,_,_,t3⟩:=open_fld underlying57 ht 3 3 3 1 rfl (by kernel_rfl)
  obtain⟨k4,_,hk4,t4⟩:=open_fld underlying57 ht 4 55 4 1 rfl (by kernel_rfl)
  obtain⟨a,len,cap,e4,h1,h2,h3⟩:=open_sl (C:=5) underlying55 (by kernel_rfl) (by decide) t4
  obtain⟨op,e0,_⟩:=open_i t0
  obtain⟨name,e1,_⟩:=open_s t1
  obtain⟨cmp,e2,_⟩:=open_i t2
  obtain⟨n,e3,_⟩:=open_i t3
  match cs,hlen with
  | [c0,c1,c2,c3,c4],_ =>
   simp at e0 e1 e2 e3 e4
   subst e0 e1 e2 e3 e4
   by_cases h0:len=0
   ·subst h0
    refine⟨.mk op name cmp n [],_,rfl,?_⟩
    unfold Am
    exact⟨a,cap,rfl,h1,h2,fun hne=>absurd rfl hne⟩
   ·obtain⟨b,off,rfl,hb,hx⟩:=h3 h0
    obtain⟨kids,hl,hp⟩:=list_of (p:=fun j (f:CH.Formula)=>∃ vk,w.cell? ⟨b,off+j*5,none⟩=some (.int .i64 f.op)∧w.cell? ⟨b,off+j*5+1,none⟩=some (.string ⟨f.name.toArray⟩)∧w.cell? ⟨b,off+j*5+2,none⟩=some (.int .i64 f.cmp)∧w.cell? ⟨b,off+j*5+3,none⟩=some (.int .i64 f.n)∧w.cell? ⟨b,off+j*5+4,none⟩=some vk∧Am w.heap.size w f vk) len (fun j hj=>by
     obtain⟨cs',k',y',hk',_,hc,ht'⟩:=hx j hj
     obtain⟨f,vk,rfl,hK⟩:=ih k' (by omega) ht'
     exact⟨f,vk,hc 0 _ rfl,hc 1 _ rfl,hc 2 _ rfl,hc 3 _ rfl,hc 4 _ rfl,hK⟩)
    refine⟨.mk op name cmp n kids,_,rfl,?_⟩
    unfold Am
    exact⟨_,cap,by rw [hl],by omega,h2,fun _=>⟨b,off,rfl,hb,rowAt_of kids b off hp⟩⟩
structure ActNums (a:CH.Act):Prop where
 kind:I64 a.kind
 n:I64 a.n
 pos:I64 a.change.pos
 meas:MeasureNums a.measure
theorem open_change {k:Nat} {cs:List Value} {y:DataW H × List MemPlace} (ht:DataW.trod enc prog w 0 spare held k 54 cs=some y) :
  ∃ c vn,cs=A4 c vn∧Cc w.heap.size w vn c.entry.names∧I64 c.pos:=by
 have hlen:=open_len underlying54 ht 5 (by kernel_rfl)
 obtain⟨_,_,_,t0⟩:=open_fld underlying54 ht 0 3 0 1 rfl (by kernel_rfl)
 obtain⟨_,_,_,t1⟩:=open_fld underlying54 ht 1 9 1 1 rfl (by kernel_rfl)
 obtain⟨_,_,_,t2⟩:=open_fld underlying54 ht 2 52 2 2 rfl (by kernel_rfl)
 obtain⟨_,_,_,t3⟩:=open_fld underlying54 ht 3 3 4 1 rfl (by kernel_rfl)
 obtain⟨_,_,_,u0⟩:=open_fld underlying52 t2 0 9 0 1 rfl (by kernel_rfl)
 obtain⟨_,_,_,u1⟩:=open_fld underlying52 t2 1 50 1 1 rfl (by kernel_rfl)
 obtain⟨kind,e0,_⟩:=open_i t0
 obtain⟨id,e1,_⟩:=open_s t1
 obtain⟨eid,e2,_⟩:=open_s u0
 obtain⟨vn,ns,e3,hN⟩:=open_names u1
 obtain⟨pos,e4,hp⟩:=open_i t3
 match cs,hlen with
 | [c0,c1,c2,c3,c4],_ =>
  simp at e0 e1 e2 e3 e4
  subst e0 e1 e2 e3 e4
  exact⟨⟨kind,id,⟨eid,ns⟩,pos⟩,_,rfl,hN,hp⟩
theorem open_meas {k:Nat} {cs:List Value} {y:DataW H × List MemPlace} (ht:DataW.trod enc prog w 0 spare held k 59 cs=some y) :
  ∃ m vk,cs=Aq m vk∧Am w.heap.size w m.when_ vk∧MeasureNums m:=by
 have hlen:=open_len underlying59 ht 12 (by kernel_rfl)
 obtain⟨_,_,_,t0⟩:=open_fld underlying59 ht 0 9 0 1 rfl (by kernel_rfl)
 obtain⟨_,_,_,t1⟩:=open_fld underlying59 ht 1 9 1 1 rfl (by kernel_rfl)
 obtain⟨_,_,_,t2⟩:=open_fld underlying59 ht 2 3 2 1 rfl (by kernel_rfl)
 obtain⟨_,_,_,t3⟩:=open_fld underlying59 ht 3 9 3 1 rfl (by kernel_rfl)
 obtain⟨_,_,_,t4⟩:=open_fld underlying59 ht 4 57 4 5 rfl (by kernel_rfl)
 obtain⟨_,_,_,t5⟩:=open_fld underlying59 ht 5 3 9 1 rfl (by kernel_rfl)
 obtain⟨_,_,_,t6⟩:=open_fld underlying59 ht 6 3 10 1 rfl (by kernel_rfl)
 obtain⟨_,_,_,t7⟩:=open_fld underlying59 ht 7 3 11 1 rfl (by kernel_rfl)
 obtain⟨id,e0,_⟩:=open_s t0
 obtain⟨au,e1,_⟩:=open_s t1
 obtain⟨kind,e2,n2⟩:=open_i t2
 obtain⟨tg,e3,_⟩:=open_s t3
 obtain⟨f,vk,e4,hK⟩:=open_form _ t4
 obtain⟨x5,e5,n5⟩:=open_i t5
 obtain⟨x6,e6,n6⟩:=open_i t6
 obtain⟨x7,e7,n7⟩:=open_i t7
 match cs,hlen with
 | [c0,c1,c2,c3,c4,c5,c6,c7,c8,c9,c10,c11],_ =>
  simp [formCells] at e0 e1 e2 e3 e4 e5 e6 e7
  obtain⟨f0,f1,f2,f3,f4⟩:=e4
  subst e0 e1 e2 e3 f0 f1 f2 f3 f4 e5 e6 e7
  exact⟨⟨id,au,kind,tg,f,x5,x6,x7⟩,_,rfl,hK,⟨n2,n5,n6,n7⟩⟩
theorem open_lic {k:Nat} {cs:List Value} {y:DataW H × List MemPlace} (ht:DataW.trod enc prog w 0 spare held k 61 cs=some y) :
  ∃ l vm vp,cs=Bq l vm vp∧Strs w.heap.size w vm l.measures∧Strs w.heap.size w vp l.parties:=by
 have hlen:=open_len underlying61 ht 7 (by kernel_rfl)
 obtain⟨_,_,_,t0⟩:=open_fld underlying61 ht 0 9 0 1 rfl (by kernel_rfl)
 obtain⟨_,_,_,t1⟩:=open_fld underlying61 ht 1 25 1 1 rfl (by kernel_rfl)
 obtain⟨_,_,_,t2⟩:=open_fld underlying61 ht 2 25 2 1 rfl (by kernel_rfl)
 obtain⟨_,_,_,t3⟩:=open_fld underlying61 ht 3 3 3 1 rfl (by kernel_rfl)
 obtain⟨_,_,_,t4⟩:=open_fld underlying61 ht 4 3 4 1 rfl (by kernel_rfl)
 obtain⟨_,_,_,t5⟩:=open_fld underlying61 ht 5 3 5 1 rfl (by kernel_rfl)
 obtain⟨_,_,_,t6⟩:=open_fld underlying61 ht 6 3 6 1 rfl (by kernel_rfl)
 obtain⟨id,e0,_⟩:=open_s t0
 obtain⟨vm,lm,e1,hm,_⟩:=open_ss t1
 obtain⟨vp,lp,e2,hp,_⟩:=open_ss t2
 obtain⟨x3,e3,_⟩:=open_i t3
 obtain⟨x4,e4,_⟩:=open_i t4
 obtain⟨x5,e5,_⟩:=open_i t5
 obtain⟨x6,e6,_⟩:=open_i t6
 match cs,hlen with
 | [c0,c1,c2,c3,c4,c5,c6],_ =>
  simp at e0 e1 e2 e3 e4 e5 e6
  subst e0 e1 e2 e3 e4 e5 e6
  exact⟨⟨id,lm,lp,x3,x4,x5,x6⟩,_,_,rfl,hm,hp⟩
theorem open_hold {k:Nat} {cs:List Value} {y:DataW H × List MemPlace} (ht:DataW.trod enc prog w 0 spare held k 49 cs=some y) :
  ∃ l vj,cs=Ar l vj∧Strs w.heap.size w vj l.joint:=by
 have hlen:=open_len underlying49 ht 10 (by kernel_rfl)
 obtain⟨_,_,_,t0⟩:=open_fld underlying49 ht 0 9 0 1 rfl (by kernel_rfl)
 obtain⟨_,_,_,t1⟩:=open_fld underlying49 ht 1 9 1 1 rfl (by kernel_rfl)
 obtain⟨_,_,_,t2⟩:=open_fld underlying49 ht 2 9 2 1 rfl (by kernel_rfl)
 obtain⟨_,_,_,t3⟩:=open_fld underlying49 ht 3 9 3 1 rfl (by kernel_rfl)
 obtain⟨_,_,_,t4⟩:=open_fld underlying49 ht 4 9 4 1 rfl (by kernel_rfl)
 obtain⟨_,_,_,t5⟩:=open_fld underlying49 ht 5 25 5 1 rfl (by kernel_rfl)
 obtain⟨_,_,_,t6⟩:=open_fld underlying49 ht 6 3 6 1 rfl (by kernel_rfl)
 obtain⟨_,_,_,t7⟩:=open_fld underlying49 ht 7 3 7 1 rfl (by kernel_rfl)
 obtain⟨_,_,_,t8⟩:=open_fld underlying49 ht 8 3 8 1 rfl (by kernel_rfl)
 obtain⟨_,_,_,t9⟩:=open_fld underlying49 ht 9 3 9 1 rfl (by kernel_rfl)
 obtain⟨x0,e0,_⟩:=open_s t0
 obtain⟨x1,e1,_⟩:=open_s t1
 obtain⟨x2,e2,_⟩:=open_s t2
 obtain⟨x3,e3,_⟩:=open_s t3
 obtain⟨x4,e4,_⟩:=open_s t4
 obtain⟨vj,x5,e5,hj,_⟩:=open_ss t5
 obtain⟨x6,e6,_⟩:=open_i t6
 obtain⟨x7,e7,_⟩:=open_i t7
 obtain⟨x8,e8,_⟩:=open_i t8
 obtain⟨x9,e9,_⟩:=open_i t9
 match cs,hlen with
 | [c0,c1,c2,c3,c4,c5,c6,c7,c8,c9],_ =>
  simp at e0 e1 e2 e3 e4 e5 e6 e7 e8 e9
  subst e0 e1 e2 e3 e4 e5 e6 e7 e8 e9
  exact⟨⟨x0,x1,x2,x3,x4,x5,x6,x7,x8,x9⟩,_,rfl,hj⟩
theorem split37 {α:Type} (cs:List α) (h:cs.length=37):cs=(cs.drop 0).take 1++((cs.drop 1).take 5++((cs.drop 6).take 12++((cs.drop 18).take 7++((cs.drop 25).take 10++((cs.drop 35).take 1++(cs.drop 36).take 1))))):=by
 have key:∀ (o n m:Nat),m=o+n→cs.drop o=(cs.drop o).take n++cs.drop m:=fun o n m e=>by
  subst e
  rw [← List.drop_drop,List.take_append_drop]
 have e36:(cs.drop 36).take 1=cs.drop 36:=List.take_of_length_le (by simp;omega)
 rw [e36,← key 35 1 36 rfl,← key 25 10 35 rfl,← key 18 7 25 rfl,← key 6 12 18 rfl,← key 1 5 6 rfl,← key 0 1 1 rfl,List.drop_zero]
theorem open_act {k:Nat} {cs:List Value} {y:DataW H × List MemPlace} (ht:DataW.trod enc prog w 0 spare held k 63 cs=some y) :
  ∃ a s,cs=As a s∧ActRaw w.heap.size w a s∧ActNums a:=by
 have hlen:=open_len underlying63 ht 37 (by kernel_rfl)
 obtain⟨_,_,_,t0⟩:=open_fld underlying63 ht 0 3 0 1 rfl (by kernel_rfl)
 obtain⟨_,_,_,t1⟩:=open_fld underlying63 ht 1 54 1 5 rfl (by kernel_rfl)
 obtain⟨_,_,_,t2⟩:=open_fld underlying63 ht 2 59 6 12 rfl (by kernel_rfl)
 obtain⟨_,_,_,t3⟩:=open_fld underlying63 ht 3 61 18 7 rfl (by kernel_rfl)
 obtain⟨_,_,_,t4⟩:=open_fld underlying63 ht 4 49 25 10 rfl (by kernel_rfl)
 obtain⟨_,_,_,t5⟩:=open_fld underlying63 ht 5 9 35 1 rfl (by kernel_rfl)
 obtain⟨_,_,_,t6⟩:=open_fld underlying63 ht 6 3 36 1 rfl (by kernel_rfl)
 obtain⟨kind,e0,n0⟩:=open_i t0
 obtain⟨c,vn,e1,hN,np⟩:=open_change t1
 obtain⟨m,vk,e2,hK,nm⟩:=open_meas t2
 obtain⟨l,vm,vp,e3,hm,hp⟩:=open_lic t3
 obtain⟨h,vj,e4,hj⟩:=open_hold t4
 obtain⟨id,e5,_⟩:=open_s t5
 obtain⟨n,e6,nn⟩:=open_i t6
 refine⟨⟨kind,c,m,l,h,id,n⟩,⟨vn,vk,vm,vp,vj⟩,?_,⟨hN,hK,hm,hp,hj⟩,⟨n0,nn,np,nm⟩⟩
 rw [split37 cs hlen,e0,e1,e2,e3,e4,e5,e6]
 rfl
theorem open_acts {k:Nat} {cs:List Value} {y:DataW H × List MemPlace} (h:DataW.trod enc prog w 0 spare held k 22 cs=some y) :
  ∃ v l,cs=[v]∧D8 w.heap.size w v l∧∀ a∈l,ActNums a:=by
 obtain⟨a,len,cap,rfl,h1,h2,h3⟩:=open_sl (C:=37) underlying22 (by kernel_rfl) (by decide) h
 by_cases h0:len=0
 ·subst h0
  exact⟨_,[],rfl,⟨a,cap,rfl,h1,h2,fun hne=>absurd rfl hne⟩,fun _ h=>by cases h⟩
 ·obtain⟨b,off,rfl,hb,hx⟩:=h3 h0
  obtain⟨l,hl,hp⟩:=list_of (p:=fun j (x:CH.Act)=>(∃ s,(∀ i u,(As x s)[i]?=some u→w.cell? ⟨b,off+j*37+i,none⟩=some u)∧ActRaw w.heap.size w x s)∧ActNums x) len (fun j hj=>by
   obtain⟨cs',k',y',_,_,hc,ht⟩:=hx j hj
   obtain⟨x,s,rfl,hr,hn⟩:=open_act ht
   exact⟨x,⟨s,hc,hr⟩,hn⟩)
  refine⟨_,l,rfl,⟨_,cap,by rw [hl],by omega,h2,fun _=>⟨b,off,rfl,hb,fun j x hj=>(hp j x hj).1⟩⟩,fun x hx=>?_⟩
  obtain⟨j,hj⟩:=List.mem_iff_getElem?.1 hx
  exact (hp j x hj).2
structure VerRaw (B:Nat) (w:World) (v:CH.Version) (s:VerV):Prop where
 acts:D8 B w s.va v.acts
 sig:Strs B w s.v1 v.sel.sig
 path:Strs B w s.v2 v.sel.path
def VersRaw (B:Nat) (w:World) (v:Value) (l:List CH.Version):Prop :=
 ∃ a cap,v=.slice a l.length cap∧l.length≤cap∧cap≤9223372036854775807 ∧
  (l≠[]→∃ b off,a=some ⟨b,off,none⟩∧b<B∧∀ j x,l[j]?=some x→∃ s,(∀ i u,(Ac x s)[i]?=some u→w.cell? ⟨b,off+j*8+i,none⟩=some u)∧VerRaw B w x s)
end
end
end Go.Proofs.YtjepldaciejieaaGreatDoor
namespace CH
def fewVer (v:Version):Bool:=fewActs v.acts 5&&(decide (v.prev.length≤60)&&(short60 v.sel.sig 30&&short60 v.sel.path 30))
def few (l:List Version) (most:Nat):Bool:=l.all fewVer&&decide (l.length≤most)
end CH
namespace Go.Proofs.YtjepldaciejieaaGreatDoor
open Go.RowKit Go.Lib Go.Shelf Go.Sort
theorem D8.form {B:Nat} {w:World} {v:Value} {l:List CH.Act} (h:D8 B w v l):∃ a cap,v=.slice a l.length cap:=by
 obtain⟨a,cap,h1,_⟩:=h
 exact⟨a,cap,h1⟩
theorem VerRaw.below {B B':Nat} {w w':World} {v:CH.Version} {s:VerV} (h:VerRaw B w v s) (hb:Below B' w w') (hB:B≤B'):VerRaw B w' v s:=⟨h.acts.below hb hB,h.sig.below hb hB,h.path.below hb hB⟩
theorem VerRaw.mono {B B':Nat} {w:World} {v:CH.Version} {s:VerV} (h:VerRaw B w v s) (hB:B≤B'):VerRaw B' w v s:=⟨h.acts.mono hB,h.sig.mono hB,h.path.mono hB⟩
end Go.Proofs.YtjepldaciejieaaGreatDoor
namespace Go.Proofs.YtjepldaciejieaaGreatDoor
section
open Go.Lib Go.Proofs.Tryz Go.RowKit Go.Shelf Go.Sort
theorem short60_short {ls:List (List UInt8)} {n:Nat} (h:CH.short60 ls n=true) (hn:n≤100000):Short ls:=by
 unfold CH.short60 at h
 simp only [Bool.and_eq_true,List.all_eq_true,decide_eq_true_eq] at h
 exact⟨by omega,fun l hl=>by have:=h.1 l hl;omega⟩
mutual
theorem shortF_of:∀ (f:CH.Formula),f.names100→Ca f
 | .mk _ _ _ _ kids,h=>by
  unfold CH.Formula.names100 at h
  unfold Ca
  exact⟨by omega,shortAll_of kids h.2⟩
theorem shortAll_of:∀ (l:List CH.Formula),CH.names100All l→Ch l
 | [],_=>by unfold Ch;trivial
 | f::l,h=>by
  unfold CH.names100All at h
  unfold Ch
  exact⟨shortF_of f h.1,shortAll_of l h.2⟩
end
mutual
theorem depth_le_count:∀ (f:CH.Formula),f.depth≤f.count
 | .mk _ _ _ _ kids=>by
  unfold CH.Formula.depth CH.Formula.count
  have:=depthAll_le kids
  omega
theorem depthAll_le:∀ (l:List CH.Formula),CH.depthAll l≤CH.countAll l
 | []=>by unfold CH.depthAll CH.countAll;omega
 | f::l=>by
  unfold CH.depthAll CH.countAll
  have h1:=depth_le_count f
  have h2:=depthAll_le l
  omega
end
theorem smallF_use {f:CH.Formula} (h:CH.smallF f 60=true):Ca f∧f.count≤60∧f.depth≤60:=by
 unfold CH.smallF at h
 have h1:=of_decide_eq_true h
 obtain⟨h2,h3⟩:=CH.sizeF_small f 60 (by omega) h1
 have h4:=depth_le_count f
 refine⟨shortF_of f h3,?_,?_⟩ <;> omega
theorem fewChange_small {c:CH.Change} (h:CH.fewChange c=true):ChangeSmall c:=by
 unfold CH.fewChange CH.fewEntry at h
 simp only [Bool.and_eq_true,decide_eq_true_eq,List.all_eq_true] at h
 obtain⟨h1,h2,h3,h4⟩:=h
 refine⟨by omega,⟨by omega,by omega,fun n hn=>?_⟩⟩
 have hn':n∈c.entry.names.take 10:=by rw [List.take_of_length_le (by omega)];exact hn
 have:=h2 n hn'
 unfold CH.fewName at this
 simp only [Bool.and_eq_true,decide_eq_true_eq,List.all_eq_true] at this
 refine⟨by omega,fun l hl=>?_⟩
 have hl':l∈n.words.take 20:=by rw [List.take_of_length_le (by omega)];exact hl
 have:=this.1 l hl'
 omega
theorem fewHold_small {h:CH.Holding} (hf:CH.fewHold h=true):HoldSmall h:=by
 unfold CH.fewHold at hf
 simp only [Bool.and_eq_true,decide_eq_true_eq,List.all_eq_true] at hf
 obtain⟨⟨h1,h2,h3,h4,h5,h6⟩,h7⟩:=hf
 exact⟨by omega,by omega,by omega,by omega,by omega,⟨by omega,fun l hl=>by have:=h7 l hl;omega⟩⟩
theorem act_small {B:Nat} {w:World} {a:CH.Act} {s:ActV} (h:ActRaw B w a s) (hn:ActNums a) (hf:CH.fewAct a=true):ActAt B w a s:=by
 unfold CH.fewAct at hf
 simp only [Bool.and_eq_true] at hf
 obtain⟨h1,h2,h3,h4,h5,h6⟩:=hf
 obtain⟨q1,q2,q3⟩:=smallF_use h2
 have s3:=short60_short h3 (by omega)
 have q5:=s3.2 a.id (by simp)
 have q6:=s3.2 a.measure.id (by simp)
 have q7:=s3.2 a.measure.authority (by simp)
 have q8:=s3.2 a.measure.target (by simp)
 have q9:=s3.2 a.licence.id (by simp)
 exact⟨h.names,⟨h.kids,hn.meas,q6,q7,q8,q1,by omega,by omega⟩,h.lm,h.lp,h.hj,⟨fewChange_small h1,hn.pos,q9,short60_short h4 (by omega),short60_short h5 (by omega),fewHold_small h6,q5,hn.kind,hn.n⟩⟩
theorem acts_small {B:Nat} {w:World} {v:Value} {l:List CH.Act} (h:D8 B w v l) (hn:∀ a∈l,ActNums a) (hf:∀ a∈l,CH.fewAct a=true):Cb B w v l:=by
 obtain⟨a,cap,h1,h2,h3,h4⟩:=h
 refine⟨a,cap,h1,h2,h3,fun hne=>?_⟩
 obtain⟨b,off,e,hlt,hx⟩:=h4 hne
 refine⟨b,off,e,hlt,fun j x hj=>?_⟩
 obtain⟨s,c1,c2⟩:=hx j x hj
 have hm:=List.mem_of_getElem? hj
 exact⟨s,c1,act_small c2 (hn x hm) (hf x hm)⟩
end
section
open Go.Lib Go.Proofs.Tryz Go.RowKit Go.Shelf Go.Sort
attribute [local irreducible] wpQuiet
theorem sameTexts01_any (v v':Value) (ls:List (List UInt8)) (w:World) (hv:Strs w.heap.size w v ls) (hv':Strs w.heap.size w v' ls) :
  Calls prog 49 #[v,v'] w (Ret w (.bool true)):=by
 obtain⟨a,cap,rfl,hl,hcap,hne⟩:=hv
 obtain⟨a',cap',rfl,hl',hcap',hne'⟩:=hv'
 have hne:=hid hne
 have hne':=hid hne'
 obtain⟨N,hN⟩:∃ N,ls.length=N:=⟨_,rfl⟩
 rw [hN] at hl hl' ⊢
 have hN:=hid hN
 go_enter func49,ntmps49
 go_wp2_with fail
 go_loopw [5] (fun i wr=>∃ k:Nat,k≤N∧i=.int .i64 k∧Hid (Below w.heap.size w wr)) (fun i _=>N - (RowKit.intOf i).toNat)
 case atStart=>exact⟨0,Nat.zero_le _,rfl,hid (Below.refl _ _)⟩
 case round =>
  obtain⟨k,hk,rfl,hBr⟩:=hrel
  by_cases hlt:k<N
  ·obtain⟨b,off,rfl,hbl,hcells⟩:=hne.out (by intro h;have:=hN.out;simp [h] at this;omega)
   obtain⟨b',off',rfl,hbl',hcells'⟩:=hne'.out (by intro h;have:=hN.out;simp [h] at this;omega)
   obtain⟨l,hl'⟩:∃ l,ls[k]?=some l:=⟨_,lZ (by rw [hN.out];exact hlt)⟩
   have e1:wr.cell? ⟨b,off+k,none⟩=some (.string ⟨l.toArray⟩):=(hBr.out.cell (p:=⟨b,off+k,none⟩) hbl).trans (hcells k l hl')
   have e2:wr.cell? ⟨b',off'+k,none⟩=some (.string ⟨l.toArray⟩):=(hBr.out.cell (p:=⟨b',off'+k,none⟩) hbl').trans (hcells' k l hl')
   clear hcells hcells' hl'
   have z0:(0:Int)≤(k:Int):=by omega
   have zk:((k:Int)).toNat=k:=by omega
   have hk':(k:Int)<(N:Int):=by omega
   have g1:∀ (d:Nat) (os:Array Obj),(grow (redrawn wr d) os).cell? ⟨b,off+k,none⟩=some (.string ⟨l.toArray⟩):=cell_regrown e1
   have g2:∀ (d:Nat) (os:Array Obj),(grow (redrawn wr d) os).cell? ⟨b',off'+k,none⟩=some (.string ⟨l.toArray⟩):=cell_regrown e2
   go_wp2_with fail
   refine wp_region_quiet_below (by kernel_rfl) (by kernel_rfl) ?_
   repeat (quiet_step (fail))
   refine wpQuiet_nil ?_
   intro wq hbq
   replace hbq:=Ae hbq
   clear g1 g2
   have hB2:Hid (Below w.heap.size w wq):=hid (hBr.out.trans (hbq.mono hBr.out.size))
   clear hbq e1 e2
   go_wp2
   go_roundw
   case rel=>exact⟨k+1,by omega,by go_num,hB2⟩
   case measure=>simp [RowKit.intOf];omega
  ·obtain rfl:k=N:=by omega
   go_wp2
   go_ret
   exact⟨rfl,hBr.out⟩
theorem sameTexts09_any (v v':Value) (ls:List (List UInt8)) (w:World) (hv:Strs w.heap.size w v ls) (hv':Strs w.heap.size w v' ls) :
  Calls prog 191 #[v,v'] w (Ret w (.bool true)):=by
 obtain⟨a,cap,rfl,hl,hcap,hne⟩:=hv
 obtain⟨a',cap',rfl,hl',hcap',hne'⟩:=hv'
 have hne:=hid hne
 have hne':=hid hne'
 obtain⟨N,hN⟩:∃ N,ls.length=N:=⟨_,rfl⟩
 rw [hN] at hl hl' ⊢
 have hN:=hid hN
 go_enter func191,ntmps191
 go_wp2_with fail
 go_loopw [5] (fun i wr=>∃ k:Nat,k≤N∧i=.int .i64 k∧Hid (Below w.heap.size w wr)) (fun i _=>N - (RowKit.intOf i).toNat)
 case atStart=>exact⟨0,Nat.zero_le _,rfl,hid (Below.refl _ _)⟩
 case round =>
  obtain⟨k,hk,rfl,hBr⟩:=hrel
  by_cases hlt:k<N
  ·obtain⟨b,off,rfl,hbl,hcells⟩:=hne.out (by intro h;have:=hN.out;simp [h] at this;omega)
   obtain⟨b',off',rfl,hbl',hcells'⟩:=hne'.out (by intro h;have:=hN.out;simp [h] at this;omega)
   obtain⟨l,hl'⟩:∃ l,ls[k]?=some l:=⟨_,lZ (by rw [hN.out];exact hlt)⟩
   have e1:wr.cell? ⟨b,off+k,none⟩=some (.string ⟨l.toArray⟩):=(hBr.out.cell (p:=⟨b,off+k,none⟩) hbl).trans (hcells k l hl')
   have e2:wr.cell? ⟨b',off'+k,none⟩=some (.string ⟨l.toArray⟩):=(hBr.out.cell (p:=⟨b',off'+k,none⟩) hbl').trans (hcells' k l hl')
   clear hcells hcells' hl'
   have z0:(0:Int)≤(k:Int):=by omega
   have zk:((k:Int)).toNat=k:=by omega
   have hk':(k:Int)<(N:Int):=by omega
   have g1:∀ (d:Nat) (os:Array Obj),(grow (redrawn wr d) os).cell? ⟨b,off+k,none⟩=some (.string ⟨l.toArray⟩):=cell_regrown e1
   have g2:∀ (d:Nat) (os:Array Obj),(grow (redrawn wr d) os).cell? ⟨b',off'+k,none⟩=some (.string ⟨l.toArray⟩):=cell_regrown e2
   go_wp2_with fail
   refine wp_region_quiet_below (by kernel_rfl) (by kernel_rfl) ?_
   repeat (quiet_step (fail))
   refine wpQuiet_nil ?_
   intro wq hbq
   replace hbq:=Ae hbq
   clear g1 g2
   have hB2:Hid (Below w.heap.size w wq):=hid (hBr.out.trans (hbq.mono hBr.out.size))
   clear hbq e1 e2
   go_wp2
   go_roundw
   case rel=>exact⟨k+1,by omega,by go_num,hB2⟩
   case measure=>simp [RowKit.intOf];omega
  ·obtain rfl:k=N:=by omega
   go_wp2
   go_ret
   exact⟨rfl,hBr.out⟩
theorem sameTexts17_any (v v':Value) (ls:List (List UInt8)) (w:World) (hv:Strs w.heap.size w v ls) (hv':Strs w.heap.size w v' ls) :
  Calls prog 103 #[v,v'] w (Ret w (.bool true)):=by
 obtain⟨a,cap,rfl,hl,hcap,hne⟩:=hv
 obtain⟨a',cap',rfl,hl',hcap',hne'⟩:=hv'
 have hne:=hid hne
 have hne':=hid hne'
 obtain⟨N,hN⟩:∃ N,ls.length=N:=⟨_,rfl⟩
 rw [hN] at hl hl' ⊢
 have hN:=hid hN
 go_enter func103,ntmps103
 go_wp2_with fail
 go_loopw [5] (fun i wr=>∃ k:Nat,k≤N∧i=.int .i64 k∧Hid (Below w.heap.size w wr)) (fun i _=>N - (RowKit.intOf i).toNat)
 case atStart=>exact⟨0,Nat.zero_le _,rfl,hid (Below.refl _ _)⟩
 case round =>
  obtain⟨k,hk,rfl,hBr⟩:=hrel
  by_cases hlt:k<N
  ·obtain⟨b,off,rfl,hbl,hcells⟩:=hne.out (by intro h;have:=hN.out;simp [h] at this;omega)
   obtain⟨b',off',rfl,hbl',hcells'⟩:=hne'.out (by intro h;have:=hN.out;simp [h] at this;omega)
   obtain⟨l,hl'⟩:∃ l,ls[k]?=some l:=⟨_,lZ (by rw [hN.out];exact hlt)⟩
   have e1:wr.cell? ⟨b,off+k,none⟩=some (.string ⟨l.toArray⟩):=(hBr.out.cell (p:=⟨b,off+k,none⟩) hbl).trans (hcells k l hl')
   have e2:wr.cell? ⟨b',off'+k,none⟩=some (.string ⟨l.toArray⟩):=(hBr.out.cell (p:=⟨b',off'+k,none⟩) hbl').trans (hcells' k l hl')
   clear hcells hcells' hl'
   have z0:(0:Int)≤(k:Int):=by omega
   have zk:((k:Int)).toNat=k:=by omega
   have hk':(k:Int)<(N:Int):=by omega
   have g1:∀ (d:Nat) (os:Array Obj),(grow (redrawn wr d) os).cell? ⟨b,off+k,none⟩=some (.string ⟨l.toArray⟩):=cell_regrown e1
   have g2:∀ (d:Nat) (os:Array Obj),(grow (redrawn wr d) os).cell? ⟨b',off'+k,none⟩=some (.string ⟨l.toArray⟩):=cell_regrown e2
   go_wp2_with fail
   refine wp_region_quiet_below (by kernel_rfl) (by kernel_rfl) ?_
   repeat (quiet_step (fail))
   refine wpQuiet_nil ?_
   intro wq hbq
   replace hbq:=Ae hbq
   clear g1 g2
   have hB2:Hid (Below w.heap.size w wq):=hid (hBr.out.trans (hbq.mono hBr.out.size))
   clear hbq e1 e2
   go_wp2
   go_roundw
   case rel=>exact⟨k+1,by omega,by go_num,hB2⟩
   case measure=>simp [RowKit.intOf];omega
  ·obtain rfl:k=N:=by omega
   go_wp2
   go_ret
   exact⟨rfl,hBr.out⟩
theorem sameTexts35_any (v v':Value) (ls:List (List UInt8)) (w:World) (hv:Strs w.heap.size w v ls) (hv':Strs w.heap.size w v' ls) :
  Calls prog 102 #[v,v'] w (Ret w (.bool true)):=by
 obtain⟨a,cap,rfl,hl,hcap,hne⟩:=hv
 obtain⟨a',cap',rfl,hl',hcap',hne'⟩:=hv'
 have hne:=hid hne
 have hne':=hid hne'
 obtain⟨N,hN⟩:∃ N,ls.length=N:=⟨_,rfl⟩
 rw [hN] at hl hl' ⊢
 have hN:=hid hN
 go_enter func102,ntmps102
 go_wp2_with fail
 go_loopw [5] (fun i wr=>∃ k:Nat,k≤N∧i=.int .i64 k∧Hid (Below w.heap.size w wr)) (fun i _=>N - (RowKit.intOf i).toNat)
 case atStart=>exact⟨0,Nat.zero_le _,rfl,hid (Below.refl _ _)⟩
 case round =>
  obtain⟨k,hk,rfl,hBr⟩:=hrel
  by_cases hlt:k<N
  ·obtain⟨b,off,rfl,hbl,hcells⟩:=hne.out (by intro h;have:=hN.out;simp [h] at this;omega)
   obtain⟨b',off',rfl,hbl',hcells'⟩:=hne'.out (by intro h;have:=hN.out;simp [h] at this;omega)
   obtain⟨l,hl'⟩:∃ l,ls[k]?=some l:=⟨_,lZ (by rw [hN.out];exact hlt)⟩
   have e1:wr.cell? ⟨b,off+k,none⟩=some (.string ⟨l.toArray⟩):=(hBr.out.cell (p:=⟨b,off+k,none⟩) hbl).trans (hcells k l hl')
   have e2:wr.cell? ⟨b',off'+k,none⟩=some (.string ⟨l.toArray⟩):=(hBr.out.cell (p:=⟨b',off'+k,none⟩) hbl').trans (hcells' k l hl')
   clear hcells hcells' hl'
   have z0:(0:Int)≤(k:Int):=by omega
   have zk:((k:Int)).toNat=k:=by omega
   have hk':(k:Int)<(N:Int):=by omega
   have g1:∀ (d:Nat) (os:Array Obj),(grow (redrawn wr d) os).cell? ⟨b,off+k,none⟩=some (.string ⟨l.toArray⟩):=cell_regrown e1
   have g2:∀ (d:Nat) (os:Array Obj),(grow (redrawn wr d) os).cell? ⟨b',off'+k,none⟩=some (.string ⟨l.toArray⟩):=cell_regrown e2
   go_wp2_with fail
   refine wp_region_quiet_below (by kernel_rfl) (by kernel_rfl) ?_
   repeat (quiet_step (fail))
   refine wpQuiet_nil ?_
   intro wq hbq
   replace hbq:=Ae hbq
   clear g1 g2
   have hB2:Hid (Below w.heap.size w wq):=hid (hBr.out.trans (hbq.mono hBr.out.size))
   clear hbq e1 e2
   go_wp2
   go_roundw
   case rel=>exact⟨k+1,by omega,by go_num,hB2⟩
   case measure=>simp [RowKit.intOf];omega
  ·obtain rfl:k=N:=by omega
   go_wp2
   go_ret
   exact⟨rfl,hBr.out⟩
theorem D7.grow {w W:World} {v:Value} {ns:List CH.Name} (h:D7 w.heap.size w v ns) (hb:Below w.heap.size w W):D7 W.heap.size W v ns:=by
 obtain⟨a,cap,h1,h2,h3,h4⟩:=h
 refine⟨a,cap,h1,h2,h3,fun hne=>?_⟩
 obtain⟨b,off,e,hlt,hc⟩:=h4 hne
 refine⟨b,off,e,nL hlt hb.size,fun j n hj=>?_⟩
 obtain⟨vw,c1,c2,c3⟩:=hc j n hj
 exact⟨vw,(hb.cell (p:=⟨b,off+j*2,none⟩) hlt).trans c1,(hb.cell (p:=⟨b,off+j*2+1,none⟩) hlt).trans c2,(c3.below hb nR).mono hb.size⟩
theorem alloc2_at (w:World) (o1 o2:Obj):((w.alloc o1).alloc o2).heap[w.heap.size]?=some o1∧((w.alloc o1).alloc o2).heap[w.heap.size+1]?=some o2 :=
 ⟨(((Below.refl _ (w.alloc o1)).alloc nR o2).block w.heap.size (by simp)).trans (heap_alloc_last w o1),by have:=heap_alloc_last (w.alloc o1) o2;simpa using this⟩
theorem sameName_any (sc:Int) (v v':Value) (ls:List (List UInt8)) (w:World) (hv:Strs w.heap.size w v ls) (hv':Strs w.heap.size w v' ls) :
  Calls prog 149 #[.agg #[.int .i64 sc,v],.agg #[.int .i64 sc,v']] w (Ret w (.bool true)):=by
 have T:=hid fun (W:World) (hb:Below w.heap.size w W)=>sameTexts09_any v v' ls W ((hv.below hb nR).mono hb.size) ((hv'.below hb nR).mono hb.size)
 have hB0:=hid fun o o2=>((Below.refl _ w).alloc nR o).alloc (by simp) o2
 obtain⟨a,cap,rfl,_,_,_⟩:=hv
 obtain⟨a',cap',rfl,_,_,_⟩:=hv'
 generalize ls.length=n at *
 go_enter func149,ntmps149
 go_wp2_with fail
 refine (T.out _ (hB0.out _ _)).mono ?_
 rintro e w1 ⟨rfl,hb1⟩
 have hB1:=(hB0.out _ _).trans (hb1.mono (hB0.out _ _).size)
 clear T
 go_wp2
 go_ret
 exact⟨rfl,hB1⟩
theorem sameEntry_any (e:CH.Entry) (v v':Value) (w:World) (hv:D7 w.heap.size w v e.names) (hv':D7 w.heap.size w v' e.names) :
  Calls prog 100 #[.agg #[.string ⟨e.id.toArray⟩,v],.agg #[.string ⟨e.id.toArray⟩,v']] w (Ret w (.bool true)):=by
 obtain⟨id,ls⟩:=e
 obtain⟨a,cap,rfl,hl,hcap,hne⟩:=hv
 obtain⟨a',cap',rfl,hl',hcap',hne'⟩:=hv'
 dsimp only at *
 have hne:=hid hne
 have hne':=hid hne'
 obtain⟨N,hN⟩:∃ N,ls.length=N:=⟨_,rfl⟩
 rw [hN] at hl hl' ⊢
 have hN:=hid hN
 have hB0:=fun o o2=>((Below.refl _ w).alloc nR o).alloc (by simp) o2
 have A2:=alloc2_at w
 go_enter func100,ntmps100
 go_wp2_with fail
 generalize hWd:(w.alloc _).alloc _=W at *
 have c1:W.cell? ⟨w.heap.size,1,none⟩=some (.slice a N cap):=by rw [← hWd];exact cell_of (A2 _ _).1 1
 have c1':W.cell? ⟨w.heap.size+1,1,none⟩=some (.slice a' N cap'):=by rw [← hWd];exact cell_of (A2 _ _).2 1
 have hBW:Below w.heap.size w W:=by rw [← hWd];exact hB0 _ _
 have hlW:w.heap.size+1<W.heap.size:=by rw [← hWd];simp
 clear hWd hB0 A2
 go_loopw [5] (fun i wr=>∃ k:Nat,k≤N∧i=.int .i64 k∧Hid (Below W.heap.size W wr)) (fun i _=>N - (RowKit.intOf i).toNat)
 case atStart=>exact⟨0,Nat.zero_le _,rfl,hid (Below.refl _ _)⟩
 case round =>
  obtain⟨k,hk,rfl,hBr⟩:=hrel
  have k1:=(hBr.out.cell (p:=⟨w.heap.size,1,none⟩) (by show w.heap.size<_;omega)).trans c1
  have k1':=(hBr.out.cell (p:=⟨w.heap.size+1,1,none⟩) hlW).trans c1'
  have hBw:Below w.heap.size w wr:=hBW.trans (hBr.out.mono hBW.size)
  by_cases hlt:k<N
  ·obtain⟨b,off,rfl,hbl,hcells⟩:=hne.out (by intro h;have:=hN.out;simp [h] at this;omega)
   obtain⟨b',off',rfl,hbl',hcells'⟩:=hne'.out (by intro h;have:=hN.out;simp [h] at this;omega)
   obtain⟨n,hn'⟩:∃ n,ls[k]?=some n:=⟨_,lZ (by rw [hN.out];exact hlt)⟩
   obtain⟨vw,d1,d2,d3⟩:=hcells k n hn'
   obtain⟨vw',d1',d2',d3'⟩:=hcells' k n hn'
   have e1:=(hBw.cell (p:=⟨b,off+k*2,none⟩) hbl).trans d1
   have e2:=(hBw.cell (p:=⟨b,off+k*2+1,none⟩) hbl).trans d2
   have e1':=(hBw.cell (p:=⟨b',off'+k*2,none⟩) hbl').trans d1'
   have e2':=(hBw.cell (p:=⟨b',off'+k*2+1,none⟩) hbl').trans d2'
   have F:=hid fun (W:World) (hb:Below wr.heap.size wr W)=>sameName_any n.script vw vw' n.words W ((d3.below (hBw.trans (hb.mono hBw.size)) nR).mono (nT hBw.size hb.size)) ((d3'.below (hBw.trans (hb.mono hBw.size)) nR).mono (nT hBw.size hb.size))
   clear hcells hcells' d1 d2 d1' d2' hn'
   obtain⟨vwa,vwc,rfl,_,_⟩:=d3
   obtain⟨vwa',vwc',rfl,_,_⟩:=d3'
   generalize n.words.length=nw at *
   have z0:(0:Int)≤(k:Int):=by omega
   have zk:((k:Int)).toNat=k:=by omega
   have hk':(k:Int)<(N:Int):=by omega
   have g0:∀ (d:Nat) (os:Array Obj),(grow (redrawn wr d) os).cell? ⟨w.heap.size,1,none⟩=some (.slice (some ⟨b,off,none⟩) N cap):=cell_regrown k1
   have g0':∀ (d:Nat) (os:Array Obj),(grow (redrawn wr d) os).cell? ⟨w.heap.size+1,1,none⟩=some (.slice (some ⟨b',off',none⟩) N cap'):=cell_regrown k1'
   have g1:∀ (d:Nat) (os:Array Obj),(grow (redrawn wr d) os).cell? ⟨b,off+k*2,none⟩=some (.int .i64 n.script):=cell_regrown e1
   have g2:∀ (d:Nat) (os:Array Obj),(grow (redrawn wr d) os).cell? ⟨b,off+k*2+1,none⟩=some (.slice vwa nw vwc):=cell_regrown e2
   have g1':∀ (d:Nat) (os:Array Obj),(grow (redrawn wr d) os).cell? ⟨b',off'+k*2,none⟩=some (.int .i64 n.script):=cell_regrown e1'
   have g2':∀ (d:Nat) (os:Array Obj),(grow (redrawn wr d) os).cell? ⟨b',off'+k*2+1,none⟩=some (.slice vwa' nw vwc'):=cell_regrown e2'
   go_wp2_with fail
   refine wp_region_quiet_below (by kernel_rfl) (by kernel_rfl) ?_
   repeat (quiet_step ((with_reducible exact Calls.regrown_of (F.out _ (below_regrown _ _ _)))))
   refine wpQuiet_nil ?_
   intro wq hbq
   replace hbq:=Ae hbq
   clear F g0 g0' g1 g2 g1' g2' e1 e2 e1' e2' k1 k1'
   have hb1:=hbq
   have hB1:Hid (Below W.heap.size W wq):=hid (hBr.out.trans (hb1.mono hBr.out.size))
   go_wp2
   go_roundw
   case rel=>exact⟨k+1,by omega,by go_num,hB1⟩
   case measure=>simp [RowKit.intOf];omega
  ·obtain rfl:k=N:=by omega
   go_wp2
   go_ret
   exact⟨rfl,hBw⟩
theorem sameChange_any (c:CH.Change) (v v':Value) (w:World) (hv:D7 w.heap.size w v c.entry.names) (hv':D7 w.heap.size w v' c.entry.names) :
  Calls prog 50 #[.agg #[.int .i64 c.kind,.string ⟨c.id.toArray⟩,.string ⟨c.entry.id.toArray⟩,v,.int .i64 c.pos],.agg #[.int .i64 c.kind,.string ⟨c.id.toArray⟩,.string ⟨c.entry.id.toArray⟩,v',.int .i64 c.pos]] w (Ret w (.bool true)):=by
 have hB0:=hid fun o o2=>((Below.refl _ w).alloc nR o).alloc (by simp) o2
 have F:=hid fun (W:World) (hb:Below w.heap.size w W)=>sameEntry_any c.entry v v' W (hv.grow hb) (hv'.grow hb)
 have A2:=alloc2_at w
 obtain⟨a,cap,rfl,hl,hcap,_⟩:=hv
 obtain⟨a',cap',rfl,hl',hcap',_⟩:=hv'
 generalize c.entry.names.length=N at *
 go_enter func50,ntmps50
 go_wp2_with fail
 have B:=hB0.out
 generalize hWd:(w.alloc _).alloc _=W at *
 have c4:W.cell? ⟨w.heap.size,4,none⟩=some (.int .i64 c.pos):=by rw [← hWd];exact cell_of (A2 _ _).1 4
 have c4':W.cell? ⟨w.heap.size+1,4,none⟩=some (.int .i64 c.pos):=by rw [← hWd];exact cell_of (A2 _ _).2 4
 have hBW:Below w.heap.size w W:=by rw [← hWd];exact B _ _
 have hlW:w.heap.size+1<W.heap.size:=by rw [← hWd];simp
 clear hWd hB0 A2 B
 refine (F.out _ hBW).mono ?_
 rintro e w1 ⟨rfl,hb1⟩
 have k4:=(hb1.cell (p:=⟨w.heap.size,4,none⟩) (by show w.heap.size<_;omega)).trans c4
 have k4':=(hb1.cell (p:=⟨w.heap.size+1,4,none⟩) hlW).trans c4'
 have hB1:=hBW.trans (hb1.mono hBW.size)
 clear F
 go_wp2
 go_ret
 exact⟨rfl,hB1⟩
end
section
open Go.Lib Go.Proofs.Tryz Go.RowKit Go.Shelf Go.Sort
attribute [local irreducible] wpQuiet
theorem two_cells {w W:World} {C C':List Value} {T T':TypeId} (hW:(w.alloc (.cells C.toArray T)).alloc (.cells C'.toArray T')=W) (W':World) (hb:Below W.heap.size W W') :
  (∀ i u,C[i]?=some u→W'.cell? ⟨w.heap.size,i,none⟩=some u)∧(∀ i u,C'[i]?=some u→W'.cell? ⟨w.heap.size+1,i,none⟩=some u):=by
 subst hW
 have h1:=(hb.block w.heap.size (by simp;omega)).trans (alloc2_at w _ _).1
 have h2:=(hb.block (w.heap.size+1) (by simp)).trans (alloc2_at w _ _).2
 exact⟨fun i u hi=>(cell_of h1 i).trans (by simpa using hi),fun i u hi=>(cell_of h2 i).trans (by simpa using hi)⟩
theorem sameF_any:∀ (d:Nat) (f:CH.Formula) (vk vk':Value) (w:World),f.depth≤d→Am w.heap.size w f vk→Am w.heap.size w f vk' →
  Calls prog 101 #[.agg (Af f vk),.agg (Af f vk')] w (Ret w (.bool true))
 | 0,f,vk,vk',w,hd,hK,hK'=>by
  rw [Dh] at hd
  omega
 | d+1,.mk op name cmp fn kids,vk,vk',w,hd,hK,hK'=>by
  obtain⟨a,cap,rfl,hl,hcap,hne⟩:=hK.form
  obtain⟨a',cap',rfl,hl',hcap',hne'⟩:=hK'.form
  dsimp only [Af,CH.Formula.op,CH.Formula.name,CH.Formula.cmp,CH.Formula.n,CH.Formula.kids] at *
  rw [Dh] at hd
  dsimp only [CH.Formula.kids] at hd
  have IH:=hid (sameF_any d)
  have hdk:=hid hd
  clear hd hK hK'
  have hne:=hid hne
  have hne':=hid hne'
  obtain⟨N,hN⟩:∃ N,kids.length=N:=⟨_,rfl⟩
  rw [hN] at hl hl' ⊢
  have hN:=hid hN
  have hB0:=fun o o2=>((Below.refl _ w).alloc nR o).alloc (by simp) o2
  have A2:=alloc2_at w
  go_enter func101,ntmps101
  go_wp2_with fail
  generalize hWd:(w.alloc _).alloc _=W at *
  have c4:W.cell? ⟨w.heap.size,4,none⟩=some (.slice a N cap):=by rw [← hWd];exact cell_of (A2 _ _).1 4
  have c4':W.cell? ⟨w.heap.size+1,4,none⟩=some (.slice a' N cap'):=by rw [← hWd];exact cell_of (A2 _ _).2 4
  have hBW:Below w.heap.size w W:=by rw [← hWd];exact hB0 _ _
  have hlW:w.heap.size+1<W.heap.size:=by rw [← hWd];simp
  clear hWd hB0 A2
  go_loopw [5] (fun i wr=>∃ j:Nat,j≤N∧i=.int .i64 j∧Hid (Below W.heap.size W wr)) (fun i _=>N - (RowKit.intOf i).toNat)
  case atStart=>exact⟨0,Nat.zero_le _,rfl,hid (Below.refl _ _)⟩
  case round =>
   obtain⟨j,hj,rfl,hBr⟩:=hrel
   have k4:=(hBr.out.cell (p:=⟨w.heap.size,4,none⟩) (by show w.heap.size<_;omega)).trans c4
   have k4':=(hBr.out.cell (p:=⟨w.heap.size+1,4,none⟩) hlW).trans c4'
   have hBw:Below w.heap.size w wr:=hBW.trans (hBr.out.mono hBW.size)
   by_cases hlt:j<N
   ·obtain⟨f,hget⟩:∃ f,kids[j]?=some f:=⟨_,lZ (by rw [hN.out];exact hlt)⟩
    obtain⟨b,off,rfl,hbl,hrow⟩:=hne.out (by intro h;have:=hN.out;simp [h] at this;omega)
    obtain⟨b',off',rfl,hbl',hrow'⟩:=hne'.out (by intro h;have:=hN.out;simp [h] at this;omega)
    obtain⟨vf,e0,e1,e2,e3,e4,hkf⟩:=RowAt.get kids b off j f hrow hget
    obtain⟨vf',e0',e1',e2',e3',e4',hkf'⟩:=RowAt.get kids b' off' j f hrow' hget
    have k0:=(hBw.cell (p:=⟨b,off+j*5,none⟩) hbl).trans e0
    have k1:=(hBw.cell (p:=⟨b,off+j*5+1,none⟩) hbl).trans e1
    have k2:=(hBw.cell (p:=⟨b,off+j*5+2,none⟩) hbl).trans e2
    have k3:=(hBw.cell (p:=⟨b,off+j*5+3,none⟩) hbl).trans e3
    have k5:=(hBw.cell (p:=⟨b,off+j*5+4,none⟩) hbl).trans e4
    have k0':=(hBw.cell (p:=⟨b',off'+j*5,none⟩) hbl').trans e0'
    have k1':=(hBw.cell (p:=⟨b',off'+j*5+1,none⟩) hbl').trans e1'
    have k2':=(hBw.cell (p:=⟨b',off'+j*5+2,none⟩) hbl').trans e2'
    have k3':=(hBw.cell (p:=⟨b',off'+j*5+3,none⟩) hbl').trans e3'
    have k5':=(hBw.cell (p:=⟨b',off'+j*5+4,none⟩) hbl').trans e4'
    have C:=hid fun (W':World) (hb:Below wr.heap.size wr W')=>IH.out f vf vf' W' (by have:=depth_mem (List.mem_of_getElem? hget);have:=hdk.out;omega) (Am.mono (nT hBw.size hb.size) _ _ (Am.below (hBw.trans (hb.mono hBw.size)) nR _ _ hkf)) (Am.mono (nT hBw.size hb.size) _ _ (Am.below (hBw.trans (hb.mono hBw.size)) nR _ _ hkf'))
    obtain⟨af,cf,rfl,_,_,_⟩:=hkf.form
    obtain⟨af',cf',rfl,_,_,_⟩:=hkf'.form
    clear e0 e1 e2 e3 e4 e0' e1' e2' e3' e4' hrow hrow' hget hkf hkf' IH
    dsimp only [Af] at C
    generalize f.kids.length=nf at *
    generalize f.name=fname at *
    generalize f.op=fop at *
    generalize f.cmp=fcmp at *
    generalize f.n=ffn at *
    have z0:(0:Int)≤(j:Int):=by omega
    have zk:((j:Int)).toNat=j:=by omega
    have hk':(j:Int)<(N:Int):=by omega
    have gk4:∀ (d:Nat) (os:Array Obj),(grow (redrawn wr d) os).cell? ⟨w.heap.size,4,none⟩=some (.slice (some ⟨b,off,none⟩) N cap):=cell_regrown k4
    have gk4':∀ (d:Nat) (os:Array Obj),(grow (redrawn wr d) os).cell? ⟨w.heap.size+1,4,none⟩=some (.slice (some ⟨b',off',none⟩) N cap'):=cell_regrown k4'
    have gk0:∀ (d:Nat) (os:Array Obj),(grow (redrawn wr d) os).cell? ⟨b,off+j*5,none⟩=some (.int .i64 fop):=cell_regrown k0
    have gk1:∀ (d:Nat) (os:Array Obj),(grow (redrawn wr d) os).cell? ⟨b,off+j*5+1,none⟩=some (.string ⟨fname.toArray⟩):=cell_regrown k1
    have gk2:∀ (d:Nat) (os:Array Obj),(grow (redrawn wr d) os).cell? ⟨b,off+j*5+2,none⟩=some (.int .i64 fcmp):=cell_regrown k2
    have gk3:∀ (d:Nat) (os:Array Obj),(grow (redrawn wr d) os).cell? ⟨b,off+j*5+3,none⟩=some (.int .i64 ffn):=cell_regrown k3
    have gk5:∀ (d:Nat) (os:Array Obj),(grow (redrawn wr d) os).cell? ⟨b,off+j*5+4,none⟩=some (.slice af nf cf):=cell_regrown k5
    have gk0':∀ (d:Nat) (os:Array Obj),(grow (redrawn wr d) os).cell? ⟨b',off'+j*5,none⟩=some (.int .i64 fop):=cell_regrown k0'
    have gk1':∀ (d:Nat) (os:Array Obj),(grow (redrawn wr d) os).cell? ⟨b',off'+j*5+1,none⟩=some (.string ⟨fname.toArray⟩):=cell_regrown k1'
    have gk2':∀ (d:Nat) (os:Array Obj),(grow (redrawn wr d) os).cell? ⟨b',off'+j*5+2,none⟩=some (.int .i64 fcmp):=cell_regrown k2'
    have gk3':∀ (d:Nat) (os:Array Obj),(grow (redrawn wr d) os).cell? ⟨b',off'+j*5+3,none⟩=some (.int .i64 ffn):=cell_regrown k3'
    have gk5':∀ (d:Nat) (os:Array Obj),(grow (redrawn wr d) os).cell? ⟨b',off'+j*5+4,none⟩=some (.slice af' nf cf'):=cell_regrown k5'
    go_wp2_with fail
    refine wp_region_quiet_below (by kernel_rfl) (by kernel_rfl) ?_
    repeat (quiet_step ((with_reducible exact Calls.regrown_of (C.out _ (below_regrown _ _ _)))))
    refine wpQuiet_nil ?_
    intro wq hbq
    replace hbq:=Ae hbq
    clear C gk4 gk4' gk0 gk1 gk2 gk3 gk5 gk0' gk1' gk2' gk3' gk5' k4 k4' k0 k1 k2 k3 k5 k0' k1' k2' k3' k5'
    have hB1:Hid (Below W.heap.size W wq):=hid (hBr.out.trans (hbq.mono hBr.out.size))
    go_wp2
    go_roundw
    case rel=>exact⟨j+1,by omega,by go_num,hB1⟩
    case measure=>simp [RowKit.intOf];omega
   ·obtain rfl:j=N:=by omega
    go_wp2
    go_ret
    exact⟨rfl,hBw⟩
theorem sameMeasure_any (m:CH.Measure) (vk vk':Value) (w:World) (hK:Am w.heap.size w m.when_ vk) (hK':Am w.heap.size w m.when_ vk') :
  Calls prog 51 #[.agg (Aq m vk).toArray,.agg (Aq m vk').toArray] w (Ret w (.bool true)):=by
 have hB0:=hid fun o o2=>((Below.refl _ w).alloc nR o).alloc (by simp) o2
 have F:=hid fun (W:World) (hb:Below w.heap.size w W)=>sameF_any m.when_.depth m.when_ vk vk' W nR (Am.mono hb.size _ _ (Am.below hb nR _ _ hK)) (Am.mono hb.size _ _ (Am.below hb nR _ _ hK'))
 obtain⟨a,cap,rfl,_,_,_⟩:=hK.form
 obtain⟨a',cap',rfl,_,_,_⟩:=hK'.form
 clear hK hK'
 generalize m.when_.kids.length=N at *
 dsimp only [Aq,Af] at *
 go_enter func51,ntmps51
 go_wp2_with fail
 refine (F.out _ (hB0.out _ _)).mono ?_
 rintro e w1 ⟨rfl,hb1⟩
 have hB1:=(hB0.out _ _).trans (hb1.mono (hB0.out _ _).size)
 clear F
 go_wp2
 go_ret
 exact⟨rfl,hB1⟩
theorem sameLicence_any (l:CH.Licence) (vm vp vm' vp':Value) (w:World) (h1:Strs w.heap.size w vm l.measures) (h2:Strs w.heap.size w vp l.parties) (h1':Strs w.heap.size w vm' l.measures) (h2':Strs w.heap.size w vp' l.parties) :
  Calls prog 52 #[.agg (Bq l vm vp).toArray,.agg (Bq l vm' vp').toArray] w (Ret w (.bool true)):=by
 have hB0:=hid fun o o2=>((Below.refl _ w).alloc nR o).alloc (by simp) o2
 have T1:=hid fun (W:World) (hb:Below w.heap.size w W)=>sameTexts35_any vm vm' l.measures W ((h1.below hb nR).mono hb.size) ((h1'.below hb nR).mono hb.size)
 have T2:=hid fun (W:World) (hb:Below w.heap.size w W)=>sameTexts35_any vp vp' l.parties W ((h2.below hb nR).mono hb.size) ((h2'.below hb nR).mono hb.size)
 obtain⟨_,_,rfl,_,_⟩:=h1.form
 obtain⟨_,_,rfl,_,_⟩:=h2.form
 obtain⟨_,_,rfl,_,_⟩:=h1'.form
 obtain⟨_,_,rfl,_,_⟩:=h2'.form
 clear h1 h2 h1' h2'
 generalize l.measures.length=n1 at *
 generalize l.parties.length=n2 at *
 dsimp only [Bq] at *
 go_enter func52,ntmps52
 go_wp2_with fail
 have B:=hB0.out
 generalize hWd:(w.alloc _).alloc _=W at *
 have hBW:Below w.heap.size w W:=by rw [← hWd];exact B _ _
 have K:=hid (two_cells hWd)
 clear hWd hB0 B
 refine (T1.out _ hBW).mono ?_
 rintro e w1 ⟨rfl,hb1⟩
 have hB1:=hBW.trans (hb1.mono hBW.size)
 have k2:=(K.out w1 hb1).1 2 _ rfl
 have k2':=(K.out w1 hb1).2 2 _ rfl
 clear T1
 go_wp2_with fail
 refine (T2.out _ hB1).mono ?_
 rintro e w2 ⟨rfl,hb2⟩
 have hB2:=hB1.trans (hb2.mono hB1.size)
 have hb2:=hb1.trans (hb2.mono hb1.size)
 have k3:=(K.out w2 hb2).1 3 _ rfl
 have k3':=(K.out w2 hb2).2 3 _ rfl
 have k4:=(K.out w2 hb2).1 4 _ rfl
 have k4':=(K.out w2 hb2).2 4 _ rfl
 have k5:=(K.out w2 hb2).1 5 _ rfl
 have k5':=(K.out w2 hb2).2 5 _ rfl
 have k6:=(K.out w2 hb2).1 6 _ rfl
 have k6':=(K.out w2 hb2).2 6 _ rfl
 clear T2 K k2 k2'
 go_wp2
 go_ret
 exact⟨rfl,hB2⟩
theorem sameHold_any (h:CH.Holding) (vj vj':Value) (w:World) (h1:Strs w.heap.size w vj h.joint) (h1':Strs w.heap.size w vj' h.joint) :
  Calls prog 53 #[.agg (Ar h vj).toArray,.agg (Ar h vj').toArray] w (Ret w (.bool true)):=by
 have hB0:=hid fun o o2=>((Below.refl _ w).alloc nR o).alloc (by simp) o2
 have T1:=hid fun (W:World) (hb:Below w.heap.size w W)=>sameTexts17_any vj vj' h.joint W ((h1.below hb nR).mono hb.size) ((h1'.below hb nR).mono hb.size)
 obtain⟨_,_,rfl,_,_⟩:=h1.form
 obtain⟨_,_,rfl,_,_⟩:=h1'.form
 clear h1 h1'
 generalize h.joint.length=n1 at *
 dsimp only [Ar] at *
 go_enter func53,ntmps53
 go_wp2_with fail
 have B:=hB0.out
 generalize hWd:(w.alloc _).alloc _=W at *
 have hBW:Below w.heap.size w W:=by rw [← hWd];exact B _ _
 have K:=hid (two_cells hWd)
 clear hWd hB0 B
 refine (T1.out _ hBW).mono ?_
 rintro e w1 ⟨rfl,hb1⟩
 have hB1:=hBW.trans (hb1.mono hBW.size)
 have k6:=(K.out w1 hb1).1 6 _ rfl
 have k6':=(K.out w1 hb1).2 6 _ rfl
 have k7:=(K.out w1 hb1).1 7 _ rfl
 have k7':=(K.out w1 hb1).2 7 _ rfl
 have k8:=(K.out w1 hb1).1 8 _ rfl
 have k8':=(K.out w1 hb1).2 8 _ rfl
 have k9:=(K.out w1 hb1).1 9 _ rfl
 have k9':=(K.out w1 hb1).2 9 _ rfl
 dsimp only [strV,intV] at k6 k6' k7 k7' k8 k8' k9 k9'
 clear T1 K
 go_wp2
 go_ret
 exact⟨rfl,hB1⟩
theorem sameSeal_any (x:CH.Seal) (v1 v2 v1' v2':Value) (w:World) (h1:Strs w.heap.size w v1 x.sig) (h2:Strs w.heap.size w v2 x.path) (h1':Strs w.heap.size w v1' x.sig) (h2':Strs w.heap.size w v2' x.path) :
  Calls prog 23 #[.agg #[.int .i64 x.index,v1,v2],.agg #[.int .i64 x.index,v1',v2']] w (Ret w (.bool true)):=by
 have hB0:=hid fun o o2=>((Below.refl _ w).alloc nR o).alloc (by simp) o2
 have T1:=hid fun (W:World) (hb:Below w.heap.size w W)=>sameTexts01_any v1 v1' x.sig W ((h1.below hb nR).mono hb.size) ((h1'.below hb nR).mono hb.size)
 have T2:=hid fun (W:World) (hb:Below w.heap.size w W)=>sameTexts01_any v2 v2' x.path W ((h2.below hb nR).mono hb.size) ((h2'.below hb nR).mono hb.size)
 obtain⟨_,_,rfl,_,_⟩:=h1.form
 obtain⟨_,_,rfl,_,_⟩:=h2.form
 obtain⟨_,_,rfl,_,_⟩:=h1'.form
 obtain⟨_,_,rfl,_,_⟩:=h2'.form
 clear h1 h2 h1' h2'
 generalize x.sig.length=n1 at *
 generalize x.path.length=n2 at *
 go_enter func23,ntmps23
 go_wp2_with fail
 have B:=hB0.out
 generalize hWd:(w.alloc _).alloc _=W at *
 have hBW:Below w.heap.size w W:=by rw [← hWd];exact B _ _
 have K:=hid (two_cells hWd)
 clear hWd hB0 B
 refine (T1.out _ hBW).mono ?_
 rintro e w1 ⟨rfl,hb1⟩
 have hB1:=hBW.trans (hb1.mono hBW.size)
 have k2:=(K.out w1 hb1).1 2 _ rfl
 have k2':=(K.out w1 hb1).2 2 _ rfl
 clear T1 K
 go_wp2_with fail
 refine (T2.out _ hB1).mono ?_
 rintro e w2 ⟨rfl,hb2⟩
 have hB2:=hB1.trans (hb2.mono hB1.size)
 clear T2
 go_wp2
 go_ret
 exact⟨rfl,hB2⟩
end
section
open Go.Lib Go.Proofs.Tryz Go.RowKit Go.Shelf Go.Sort
theorem pD {α:Type} (l:List α) (i:Nat) (h:i<l.toArray.size):l.toArray[i]=l[i]'(by simpa using h):=rfl
theorem pE {α:Type} (a:α) (l:List α) (h:0<(a::l).length):(a::l)[0]=a:=rfl
theorem pF {α:Type} (a:α) (l:List α) (n:Nat) (h:n+1<(a::l).length):(a::l)[n+1]=l[n]'(Nat.lt_of_succ_lt_succ h):=rfl
theorem ActAt.raw {B:Nat} {w:World} {a:CH.Act} {s:ActV} (h:ActAt B w a s):ActRaw B w a s:=⟨h.names,h.meas.kids,h.lm,h.lp,h.hj⟩
theorem Cb.raw {B:Nat} {w:World} {v:Value} {l:List CH.Act} (h:Cb B w v l):D8 B w v l:=by
 obtain⟨a,cap,h1,h2,h3,h4⟩:=h
 refine⟨a,cap,h1,h2,h3,fun hne=>?_⟩
 obtain⟨b,off,e,hlt,hx⟩:=h4 hne
 refine⟨b,off,e,hlt,fun j x hj=>?_⟩
 obtain⟨s,c1,c2⟩:=hx j x hj
 exact⟨s,c1,c2.raw⟩
theorem VerAt.raw {B:Nat} {w:World} {v:CH.Version} {s:VerV} (h:VerAt B w v s):VerRaw B w v s:=⟨h.acts.raw,h.sig,h.path⟩
theorem act_parts {W:World} {b o:Nat} {a:CH.Act} {s:ActV} (h:W.rangeAt b o (As a s)) :
  W.cell? ⟨b,o,none⟩=some (.int .i64 a.kind)∧W.rangeAt b (o+1) (A4 a.change s.vn)∧W.rangeAt b (o+6) (Aq a.measure s.vk)∧W.rangeAt b (o+18) (Bq a.licence s.vm s.vp)∧W.rangeAt b (o+25) (Ar a.holding s.vj) ∧
   W.cell? ⟨b,o+35,none⟩=some (.string ⟨a.id.toArray⟩)∧W.cell? ⟨b,o+36,none⟩=some (.int .i64 a.n):=by
 have r1:W.rangeAt b (o+1) (A4 a.change s.vn++(Aq a.measure s.vk++(Bq a.licence s.vm s.vp++(Ar a.holding s.vj++[strV a.id,intV a.n])))):=Bj (l:=[intV a.kind]) h (o+1) rfl
 have r6:=Bj r1 (o+6) rfl
 have r18:=Bj r6 (o+18) rfl
 have r25:=Bj r18 (o+25) rfl
 have r35:=Bj r25 (o+35) rfl
 exact⟨h 0 _ rfl,Cg r1,Cg r6,Cg r18,Cg r25,r35 0 _ rfl,r35 1 _ rfl⟩
theorem sameAct_any (a:CH.Act) (s s':ActV) (w:World) (h:ActRaw w.heap.size w a s) (h':ActRaw w.heap.size w a s') :
  Calls prog 24 #[.agg (As a s).toArray,.agg (As a s').toArray] w (Ret w (.bool true)):=by
 have HA:=hid fun (W:World) (hb:Below w.heap.size w W)=>(h.below hb nR).mono hb.size
 have HA':=hid fun (W:World) (hb:Below w.heap.size w W)=>(h'.below hb nR).mono hb.size
 have T1:Hid (∀ (W:World),Below w.heap.size w W→Calls prog 50 #[.agg (A4 a.change s.vn).toArray,.agg (A4 a.change s'.vn).toArray] W (Ret W (.bool true))):=hid fun W hb=>sameChange_any a.change s.vn s'.vn W (HA.out W hb).names (HA'.out W hb).names
 have T2:=hid fun (W:World) (hb:Below w.heap.size w W)=>sameMeasure_any a.measure s.vk s'.vk W (HA.out W hb).kids (HA'.out W hb).kids
 have T3:=hid fun (W:World) (hb:Below w.heap.size w W)=>sameLicence_any a.licence s.vm s.vp s'.vm s'.vp W (HA.out W hb).lm (HA.out W hb).lp (HA'.out W hb).lm (HA'.out W hb).lp
 have T4:=hid fun (W:World) (hb:Below w.heap.size w W)=>sameHold_any a.holding s.vj s'.vj W (HA.out W hb).hj (HA'.out W hb).hj
 have P:=hid fun (W:World) (b:Nat) (hr:W.rangeAt b 0 (As a s))=>act_parts hr
 have P':=hid fun (W:World) (b:Nat) (hr:W.rangeAt b 0 (As a s'))=>act_parts hr
 clear h h' HA HA'
 have i1:(prog.info? 54).map (·.size)=some (A4 a.change s.vn).length:=by kernel_rfl
 have i2:(prog.info? 59).map (·.size)=some (Aq a.measure s.vk).length:=by kernel_rfl
 have i3:(prog.info? 61).map (·.size)=some (Bq a.licence s.vm s.vp).length:=by kernel_rfl
 have i4:(prog.info? 49).map (·.size)=some (Ar a.holding s.vj).length:=by kernel_rfl
 have i1':(prog.info? 54).map (·.size)=some (A4 a.change s'.vn).length:=by kernel_rfl
 have i2':(prog.info? 59).map (·.size)=some (Aq a.measure s'.vk).length:=by kernel_rfl
 have i3':(prog.info? 61).map (·.size)=some (Bq a.licence s'.vm s'.vp).length:=by kernel_rfl
 have i4':(prog.info? 49).map (·.size)=some (Ar a.holding s'.vj).length:=by kernel_rfl
 generalize A4 a.change s.vn=C1 at *
 generalize Aq a.measure s.vk=C2 at *
 generalize Bq a.licence s.vm s.vp=C3 at *
 generalize Ar a.holding s.vj=C4 at *
 generalize A4 a.change s'.vn=C1' at *
 generalize Aq a.measure s'.vk=C2' at *
 generalize Bq a.licence s'.vm s'.vp=C3' at *
 generalize Ar a.holding s'.vj=C4' at *
 generalize As a s=C at *
 generalize As a s'=C' at *
 generalize a.kind=ak at *
 generalize a.id=aid at *
 generalize a.n=an at *
 have hB0:=hid fun o o2=>((Below.refl _ w).alloc nR o).alloc (by simp) o2
 have hr0:=hid (rng_alloc (Bl w C 63) (.cells C'.toArray 63))
 have hr0':Hid (((w.alloc (.cells C.toArray 63)).alloc (.cells C'.toArray 63)).rangeAt (w.heap.size+1) 0 C'):=hid (by
  have:=Bl (w.alloc (.cells C.toArray 63)) C' 63
  rwa [World.size_alloc] at this)
 obtain⟨k0,r1,_⟩:=P.out _ _ hr0.out
 obtain⟨k0',r1',_⟩:=P'.out _ _ hr0'.out
 have r1:=hid r1
 have r1':=hid r1'
 go_enter func24,ntmps24
 go_wp2_with (first|refine Ak rfl 54 _ rfl w.heap.size (0+1) rfl C1 _ r1.out underlying54 rfl i1 ?_|refine Ak rfl 54 _ rfl (w.heap.size+1) (0+1) rfl C1' _ r1'.out underlying54 rfl i1' ?_)
 have B:=hB0.out (.cells C.toArray 63) (.cells C'.toArray 63)
 have hlt:w.heap.size+1<((w.alloc (.cells C.toArray 63)).alloc (.cells C'.toArray 63)).heap.size:=by simp
 clear hB0
 generalize (w.alloc (.cells C.toArray 63)).alloc (.cells C'.toArray 63)=W at *
 have R:=hid fun (W':World) (hb:Below W.heap.size W W')=>P.out W' _ (Cs hr0.out hb (by omega))
 have R':=hid fun (W':World) (hb:Below W.heap.size W W')=>P'.out W' _ (Cs hr0'.out hb hlt)
 clear P P' hr0 hr0'
 refine (T1.out _ B).mono ?_
 rintro e w1 ⟨rfl,hb1⟩
 have B1:=B.trans (hb1.mono B.size)
 clear T1 r1 r1' k0 k0' i1 i1'
 obtain⟨_,_,r2,_⟩:=R.out w1 hb1
 obtain⟨_,_,r2',_⟩:=R'.out w1 hb1
 have r2:=hid r2
 have r2':=hid r2'
 go_wp2_with (first|refine Ak rfl 59 _ rfl w.heap.size (0+6) rfl C2 _ r2.out underlying59 rfl i2 ?_|refine Ak rfl 59 _ rfl (w.heap.size+1) (0+6) rfl C2' _ r2'.out underlying59 rfl i2' ?_)
 refine (T2.out _ B1).mono ?_
 rintro e w2 ⟨rfl,hb⟩
 have B2:=B1.trans (hb.mono B1.size)
 have hb2:=hb1.trans (hb.mono hb1.size)
 clear T2 r2 r2' hb i2 i2'
 obtain⟨_,_,_,r3,_⟩:=R.out w2 hb2
 obtain⟨_,_,_,r3',_⟩:=R'.out w2 hb2
 have r3:=hid r3
 have r3':=hid r3'
 go_wp2_with (first|refine Ak rfl 61 _ rfl w.heap.size (0+18) rfl C3 _ r3.out underlying61 rfl i3 ?_|refine Ak rfl 61 _ rfl (w.heap.size+1) (0+18) rfl C3' _ r3'.out underlying61 rfl i3' ?_)
 refine (T3.out _ B2).mono ?_
 rintro e w3 ⟨rfl,hb⟩
 have B3:=B2.trans (hb.mono B2.size)
 have hb3:=hb2.trans (hb.mono hb2.size)
 clear T3 r3 r3' hb i3 i3'
 obtain⟨_,_,_,_,r4,_⟩:=R.out w3 hb3
 obtain⟨_,_,_,_,r4',_⟩:=R'.out w3 hb3
 have r4:=hid r4
 have r4':=hid r4'
 go_wp2_with (first|refine Ak rfl 49 _ rfl w.heap.size (0+25) rfl C4 _ r4.out underlying49 rfl i4 ?_|refine Ak rfl 49 _ rfl (w.heap.size+1) (0+25) rfl C4' _ r4'.out underlying49 rfl i4' ?_)
 refine (T4.out _ B3).mono ?_
 rintro e w4 ⟨rfl,hb⟩
 have B4:=B3.trans (hb.mono B3.size)
 have hb4:=hb3.trans (hb.mono hb3.size)
 clear T4 r4 r4' hb i4 i4'
 obtain⟨_,_,_,_,_,k35,k36⟩:=R.out w4 hb4
 obtain⟨_,_,_,_,_,k35',k36'⟩:=R'.out w4 hb4
 clear R R'
 simp only [Nat.zero_add] at k35 k36 k35' k36'
 go_wp2
 go_ret
 exact⟨rfl,B4⟩
theorem sameVer_any (x:CH.Version) (s s':VerV) (w:World) (h:VerRaw w.heap.size w x s) (h':VerRaw w.heap.size w x s') :
  Calls prog 7 #[.agg (Ac x s).toArray,.agg (Ac x s').toArray] w (Ret w (.bool true)):=by
 have S:=hid fun (W:World) (hb:Below w.heap.size w W)=>sameSeal_any x.sel s.v1 s.v2 s'.v1 s'.v2 W ((h.sig.below hb nR).mono hb.size) ((h.path.below hb nR).mono hb.size) ((h'.sig.below hb nR).mono hb.size) ((h'.path.below hb nR).mono hb.size)
 obtain⟨va,v1,v2⟩:=s
 obtain⟨va',v1',v2'⟩:=s'
 obtain⟨a,cap,e,hl,hcap,hne⟩:=h.acts
 obtain⟨a',cap',e',hl',hcap',hne'⟩:=h'.acts
 change va=_ at e
 change va'=_ at e'
 subst e e'
 obtain⟨_,_,e,_,_⟩:=h.sig.form
 change v1=_ at e
 subst e
 obtain⟨_,_,e,_,_⟩:=h.path.form
 change v2=_ at e
 subst e
 obtain⟨_,_,e,_,_⟩:=h'.sig.form
 change v1'=_ at e
 subst e
 obtain⟨_,_,e,_,_⟩:=h'.path.form
 change v2'=_ at e
 subst e
 clear h h'
 generalize x.sel.sig.length=n1 at *
 generalize x.sel.path.length=n2 at *
 have hne:=hid hne
 have hne':=hid hne'
 obtain⟨N,hN⟩:∃ N,x.acts.length=N:=⟨_,rfl⟩
 rw [hN] at hl hl' ⊢
 have hN:=hid hN
 have hB0:=hid fun o o2=>((Below.refl _ w).alloc nR o).alloc (by simp) o2
 have hi37:(prog.info? 63).map (·.size)=some 37:=by kernel_rfl
 dsimp only [Ac] at *
 go_enter func7,ntmps7
 go_wp2_with fail
 have B:=hB0.out
 generalize hWd:(w.alloc _).alloc _=W at *
 have hBW:Below w.heap.size w W:=by rw [← hWd];exact B _ _
 have K:=hid (two_cells hWd)
 have hlW:w.heap.size+1<W.heap.size:=by rw [← hWd];simp
 clear hWd hB0 B
 refine (S.out _ hBW).mono ?_
 rintro e w1 ⟨rfl,hb1⟩
 have hB1:=hBW.trans (hb1.mono hBW.size)
 clear S
 go_wp2_with fail
 go_loopw [5] (fun i wr=>∃ k:Nat,k≤N∧i=.int .i64 k∧Hid (Below w.heap.size w wr)∧Hid (Below W.heap.size W wr)) (fun i _=>N - (RowKit.intOf i).toNat)
 case atStart=>exact⟨0,Nat.zero_le _,rfl,hid hB1,hid hb1⟩
 case round =>
  obtain⟨k,hk,rfl,hBr,hbr⟩:=hrel
  have k4:=(K.out wr hbr.out).1 4 _ rfl
  have k4':=(K.out wr hbr.out).2 4 _ rfl
  by_cases hlt:k<N
  ·obtain⟨b,off,rfl,hbl,hcells⟩:=hne.out (by intro h;have:=hN.out;simp [h] at this;omega)
   obtain⟨b',off',rfl,hbl',hcells'⟩:=hne'.out (by intro h;have:=hN.out;simp [h] at this;omega)
   obtain⟨y,hy⟩:∃ y,x.acts[k]?=some y:=⟨_,lZ (by rw [hN.out];exact hlt)⟩
   obtain⟨sy,hc,hat⟩:=hcells k y hy
   obtain⟨sy',hc',hat'⟩:=hcells' k y hy
   have hrg:wr.rangeAt b (off+k*37) (As y sy):=fun j u hj=>(hBr.out.cell (p:=⟨b,off+k*37+j,none⟩) hbl).trans (hc j u hj)
   have hrg':wr.rangeAt b' (off'+k*37) (As y sy'):=fun j u hj=>(hBr.out.cell (p:=⟨b',off'+k*37+j,none⟩) hbl').trans (hc' j u hj)
   have F:=hid fun (W':World) (hb:Below wr.heap.size wr W')=>sameAct_any y sy sy' W' ((hat.below (hBr.out.trans (hb.mono hBr.out.size)) nR).mono (nT hBr.out.size hb.size)) ((hat'.below (hBr.out.trans (hb.mono hBr.out.size)) nR).mono (nT hBr.out.size hb.size))
   have hl1:(prog.info? 63).map (·.size)=some (As y sy).length:=hi37
   have hl2:(prog.info? 63).map (·.size)=some (As y sy').length:=hi37
   clear hcells hcells' hc hc' hat hat' hy
   generalize As y sy=C at *
   generalize As y sy'=C' at *
   have z0:(0:Int)≤(k:Int):=by omega
   have zk:((k:Int)).toNat=k:=by omega
   have hk':(k:Int)<(N:Int):=by omega
   have hs1:w.heap.size<wr.heap.size:=nL (by omega) hbr.out.size
   have hs2:w.heap.size+1<wr.heap.size:=nL hlW hbr.out.size
   have hs3:b<wr.heap.size:=nL hbl hBr.out.size
   have hs4:b'<wr.heap.size:=nL hbl' hBr.out.size
   have SS:=hid fun (W':World) (hb:Below wr.heap.size wr W')=>(⟨(hb.cell (p:=⟨w.heap.size,4,none⟩) hs1).trans k4,(hb.cell (p:=⟨w.heap.size+1,4,none⟩) hs2).trans k4',Cs hrg hb hs3,Cs hrg' hb hs4⟩:W'.cell? ⟨w.heap.size,4,none⟩=some (.slice (some ⟨b,off,none⟩) N cap)∧W'.cell? ⟨w.heap.size+1,4,none⟩=some (.slice (some ⟨b',off',none⟩) N cap')∧W'.rangeAt b (off+k*37) C∧W'.rangeAt b' (off'+k*37) C')
   have hD:Below wr.heap.size wr wr.drew:=(Below.refl _ wr).drew
   clear hrg hrg'
   go_wp2_with fail
   refine wp_region_held_drew (S:=(fun W'=>W'.cell? ⟨w.heap.size,4,none⟩=some (.slice (some ⟨b,off,none⟩) N cap)∧W'.cell? ⟨w.heap.size+1,4,none⟩=some (.slice (some ⟨b',off',none⟩) N cap')∧W'.rangeAt b (off+k*37) C∧W'.rangeAt b' (off'+k*37) C')) (by kernel_rfl) (SS.out _ hD) (fun hHeld=>?_)
   refine tk 0 (v:=?_) rfl (by rfl) hHeld ?_ ?_
   rotate_left
   ·(intro w hSw;(try dsimp only at hSw);go_simp;try with_reducible rfl)
   (try simp only [Act.put,pD,pE,pF,pA,pB,pC])
   refine tk 1 (v:=?_) rfl (by rfl) hHeld ?_ ?_
   rotate_left
   ·(intro w hSw;(try dsimp only at hSw);go_simp;try with_reducible rfl)
   (try simp only [Act.put,pD,pE,pF,pA,pB,pC])
   refine tk 2 (v:=?_) rfl (by rfl) hHeld ?_ ?_
   rotate_left
   ·(intro w hSw;(try dsimp only at hSw);go_simp;try with_reducible rfl)
   (try simp only [Act.put,pD,pE,pF,pA,pB,pC])
   refine tk 3 (v:=?_) rfl (by rfl) hHeld ?_ ?_
   rotate_left
   ·(intro w hSw;(try dsimp only at hSw);go_simp;try with_reducible rfl)
   (try simp only [Act.put,pD,pE,pF,pA,pB,pC])
   refine wpAnyH_take (i:=4) (v:=.agg C.toArray) rfl (by kernel_rfl) (by kernel_rfl) (by kernel_rfl) (fun _ _ _ h=>h) ?_ hHeld ?_
   ·exact yieldsIf_load_mid (by rfl) _ _ rfl _ _ rfl C _ (fun W hSw=>hSw.2.2.1) underlying63 rfl hl1
   (try simp only [Act.put,pD,pE,pF,pA,pB,pC])
   refine tk 5 (v:=?_) rfl (by rfl) hHeld ?_ ?_
   rotate_left
   ·(intro w hSw;(try dsimp only at hSw);go_simp;try with_reducible rfl)
   (try simp only [Act.put,pD,pE,pF,pA,pB,pC])
   refine tk 6 (v:=?_) rfl (by rfl) hHeld ?_ ?_
   rotate_left
   ·(intro w hSw;(try dsimp only at hSw);go_simp;try with_reducible rfl)
   (try simp only [Act.put,pD,pE,pF,pA,pB,pC])
   refine tk 7 (v:=?_) rfl (by rfl) hHeld ?_ ?_
   rotate_left
   ·(intro w hSw;(try dsimp only at hSw);go_simp;try with_reducible rfl)
   (try simp only [Act.put,pD,pE,pF,pA,pB,pC])
   refine tk 8 (v:=?_) rfl (by rfl) hHeld ?_ ?_
   rotate_left
   ·(intro w hSw;(try dsimp only at hSw);go_simp;try with_reducible rfl)
   (try simp only [Act.put,pD,pE,pF,pA,pB,pC])
   refine wpAnyH_take (i:=9) (v:=.agg C'.toArray) rfl (by kernel_rfl) (by kernel_rfl) (by kernel_rfl) (fun _ _ _ h=>h) ?_ hHeld ?_
   ·exact yieldsIf_load_mid (by rfl) _ _ rfl _ _ rfl C' _ (fun W hSw=>hSw.2.2.2) underlying63 rfl hl2
   (try simp only [Act.put,pD,pE,pF,pA,pB,pC])
   refine rk 10 rfl (fun K hK=>?_)
   go_simp
   refine (F.out _ hD).mono ?_
   rintro e w2 ⟨rfl,hb2⟩
   have hE:Below wr.heap.size wr w2:=hD.trans (hb2.mono hD.size)
   go_wp2_with fail
   refine hK.out _ _ (SS.out _ hE) (fun hHeld=>?_)
   clear hK K
   (try simp only [Act.put,pD,pE,pF,pA,pB,pC])
   refine tk 11 (v:=?_) rfl (by rfl) hHeld ?_ ?_
   rotate_left
   ·(intro w hSw;(try dsimp only at hSw);go_simp;try with_reducible rfl)
   (try simp only [Act.put,pD,pE,pF,pA,pB,pC])
   refine wpAnyH_done (by kernel_rfl) ?_ _
   have hb2:=hE
   have hB2:Hid (Below w.heap.size w w2):=hid (hBr.out.trans (hb2.mono hBr.out.size))
   have hb2:Hid (Below W.heap.size W w2):=hid (hbr.out.trans (hb2.mono hbr.out.size))
   clear F SS k4 k4'
   go_wp2
   go_roundw
   case rel=>exact⟨k+1,by omega,by go_num,hB2,hb2⟩
   case measure=>simp [RowKit.intOf];omega
  ·obtain rfl:k=N:=by omega
   go_wp2
   go_ret
   exact⟨rfl,hBr.out⟩
end
end Go.Proofs.YtjepldaciejieaaGreatDoor
