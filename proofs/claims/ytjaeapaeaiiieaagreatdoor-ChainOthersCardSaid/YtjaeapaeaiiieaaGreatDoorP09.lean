/-
  ChainOthers: the proof, part 10 of 16.
-/
import Derived.Test.YtjaeapaeaiiieaaGreatDoorP08
import Derived.Laws.CopyRow
import Derived.Laws.CopyOwn
import Derived.Deep.RegionHeld3
set_option linter.unusedSimpArgs false
set_option linter.unusedVariables false
set_option maxHeartbeats 40000000
set_option maxRecDepth 100000
namespace Go.Proofs.YtjaeapaeaiiieaaGreatDoor
section
open Go.Lib Go.Proofs.Tryz Go.RowKit Go.Shelf Go.Sort
section
variable {P:Program} {ops:Array Oper} {a:Act} {o:Oper} {Q:Exit→Act→World→Prop} {K:Act→World→Prop}
theorem Cu {i:Nat} {v:Value} {w w':World} (hi:ops[i]?=some o) (hw:Region.wanted o (yielded ops a.tmps)=true) (hr:(execOp a.eval o).run P w=.ok (.value v) w') (h:K (a.put o.dst v) w'):wpOp P ops Q i K a w:=by
 unfold wpOp;simp only [hi,hw,if_true,Oper.wp,hr,Oper.upon];exact .inl h
theorem Dh {i:Nat} {w w':World} (hi:ops[i]?=some o) (hw:Region.wanted o (yielded ops a.tmps)=true) (hr:(execOp a.eval o).run P w=.ok .skip w') (h:K (a.put o.dst undef) w'):wpOp P ops Q i K a w:=by
 unfold wpOp;simp only [hi,hw,if_true,Oper.wp,hr,Oper.upon];exact .inl h
theorem Ej {i f:Nat} {args:Array Value} {w:World} {v:Value} (hi:ops[i]?=some o) (hw:Region.wanted o (yielded ops a.tmps)=true) (hr:(execOp a.eval o).run P w=.ok (.enter f args) w) (hc:Calls P f args w (Ret w v)) (h:∀ w',Below w.heap.size w w'→K (a.put o.dst v) w'):wpOp P ops Q i K a w:=by
 unfold wpOp;simp only [hi,hw,if_true,Oper.wp,hr,Oper.upon]
 exact .inl (hc.mono fun e w' ⟨he,hb⟩=>by subst he;exact h w' hb)
theorem Gv {T:TypeId} {m k x:Operand} {vm vk vx:Value} {w w':World} (hop:o.op=.insert T m k x) (hm:a.eval m=vm) (hk:a.eval k=vk) (hx:a.eval x=vx) (hr:(Instr.mapUpdate T vm vk vx).run P w=.ok () w'):(execOp a.eval o).run P w=.ok .skip w':=by
 unfold execOp;simp [hop,hm,hk,hx,hr]
end
def unSp:List Nat:=[0,27,32,68,118,120,121,122]
def dn (d:UnD) (z:Bool):List (Nat × Int × Bool):=[(27,1,d.yc5),(32,2,!z),(68,4,d.yl7),(118,6,d.yh10),(120,7,d.named)]
noncomputable def unH (d:UnD) (p:UnP) (z:Bool) (v28 iq v8:Value):Act:=((unG6 d p z v28).put (some 144) iq).put (some 8) v8
structure Ent (d:UnD) (z:Bool) (listed:Array Bool) (kvs:List (Int × Value)):Prop where
 nodup:(kvs.map (·.1)).Nodup
 mem:∀ k v,(k,v)∈kvs↔∃ i b,(i,k,b)∈dn d z∧listed.getD i false=true∧v=.bool b
structure UnJ (d:UnD) (p:UnP) (z:Bool) (X:World) (listed:Array Bool) (a:Act) (w:World):Prop where
 size:listed.size=123
 quiet:∀ i,i<123→i ∉ unSp→listed.getD i false=true
 below:Below X.heap.size X w
 first:∀ i,i∈[27,32,68,118,120,121,122]→listed.getD i false=true→listed.getD 0 false=true
 second:listed.getD 122 false=true→listed.getD 121 false=true
 frame:∃ v28 iq v8,a=unH d p z v28 iq v8∧(listed.getD 0 false=true→∃ r kvs,v28=.map (some r)∧X.heap.size≤r∧A8 aJ r w kvs∧Ent d z listed kvs)∧(listed.getD 121 false=true→iq=v28)∧(listed.getD 122 false=true→v8=v28)
theorem UnS.below {d:UnD} {p:UnP} {B:Nat} {w w':World} (h:UnS d p w) (hb:Below B w w') (h3:p.p3<B) (h4:p.p4<B) (h5:p.p5<B) (h6:p.p6<B):UnS d p w' :=
 ⟨fun i=>(hb.cell (p:=⟨p.p3,i,none⟩) h3).trans (h.c i),fun i=>(hb.cell (p:=⟨p.p4,i,none⟩) h4).trans (h.m i),fun i=>(hb.cell (p:=⟨p.p5,i,none⟩) h5).trans (h.l i),fun i=>(hb.cell (p:=⟨p.p6,i,none⟩) h6).trans (h.h i)⟩
theorem bY {l:Array Bool} {i:Nat} (h:i<l.size):(l.setIfInBounds i true).getD i false=true:=by simp [h]
theorem Hy {l:Array Bool} {j i:Nat} (h:j∈Region.ready .any aB l) (hw:Region.waitsFor .any aB j i=true):l.getD i false=true:=by
 obtain⟨_,o,ho,hall⟩:=mem_ready.1 h
 obtain⟨oj,hj,e,he,hb,hon⟩:=Region.waitsFor_spec hw
 obtain rfl:oj=o:=Option.some.inj (hj.symm.trans ho)
 rw [← hon]
 exact hall e he hb
theorem unH_put28 (d:UnD) (p:UnP) (z:Bool) (v28 iq v8 u:Value):(unH d p z v28 iq v8).put (some 28) u=unH d p z u iq v8:=by kernel_rfl
theorem unH_put144 (d:UnD) (p:UnP) (z:Bool) (v28 iq v8 u:Value):(unH d p z v28 iq v8).put (some 144) u=unH d p z v28 u v8:=by kernel_rfl
theorem unH_put8 (d:UnD) (p:UnP) (z:Bool) (v28 iq v8 u:Value):(unH d p z v28 iq v8).put (some 8) u=unH d p z v28 iq u:=by kernel_rfl
theorem unSize:aB.size=123:=by kernel_rfl
theorem Ib {k:Int}:∀ (kvs:List (Int × Value)) (i:Nat),(∀ v,(k,v) ∉ kvs)→Az k kvs i=none
 | [],_,_=>rfl
 |(a,v)::l,i,h=>by
  have hne:(k==a)=false:=by
   rw [beq_eq_false_iff_ne]
   rintro rfl
   exact h v (by simp)
  rw [Az,hne]
  exact Ib l (i+1) fun v hv=>h v (List.mem_cons_of_mem _ hv)
set_option maxRecDepth 10000 in
theorem unIns_key {d:UnD} {z:Bool} {i j:Nat} {k:Int} {b c:Bool} (h1:(i,k,b)∈dn d z) (h2:(j,k,c)∈dn d z):i=j∧b=c:=by
 simp only [dn,List.mem_cons,List.not_mem_nil,or_false,Prod.mk.injEq] at h1 h2
 rcases h1 with⟨rfl,rfl,rfl⟩|⟨rfl,rfl,rfl⟩|⟨rfl,rfl,rfl⟩|⟨rfl,rfl,rfl⟩|⟨rfl,rfl,rfl⟩ <;>
  rcases h2 with⟨rfl,h,rfl⟩|⟨rfl,h,rfl⟩|⟨rfl,h,rfl⟩|⟨rfl,h,rfl⟩|⟨rfl,h,rfl⟩ <;> first|exact⟨rfl,rfl⟩|(exact absurd h (by decide))
set_option maxRecDepth 10000 in
theorem Bw {d:UnD} {z:Bool} {i:Nat} {k:Int} {b:Bool} (h:(i,k,b)∈dn d z):i∈[27,32,68,118,120]:=by
 simp only [dn,List.mem_cons,List.not_mem_nil,or_false,Prod.mk.injEq] at h
 rcases h with⟨rfl,_⟩|⟨rfl,_⟩|⟨rfl,_⟩|⟨rfl,_⟩|⟨rfl,_⟩ <;> decide
theorem Ad {l:Array Bool} {i j:Nat} (h:(l.setIfInBounds i true).getD j false=true) (hne:i≠j):l.getD j false=true:=by rwa [getD_set_ne false hne] at h
theorem Gp {d:UnD} {p:UnP} {z:Bool} {X:World} {Q:Exit→Act→World→Prop} {listed:Array Bool} {a:Act} {w:World} (i:Nat) (k:Int) (b:Bool) (s:Nat) (hp:p.p3<X.heap.size∧p.p4<X.heap.size∧p.p5<X.heap.size∧p.p6<X.heap.size) (hS:UnS d p X)
  (hin:(i,k,b)∈dn d z) (hlt:i<123) (ho:aB[i]?=some (unOp i)) (hop:(unOp i).op=.insert 153 (.tmp 28) (.const (.int .i64 k)) (.tmp s)) (hd:(unOp i).dst=none) (hw:Region.waitsFor .any aB i 0=true) (hg:∀ v28 iq v8,Region.wanted (unOp i) (yielded aB (unH d p z v28 iq v8).tmps)=true)
  (h28:∀ v28 iq v8,(unH d p z v28 iq v8).eval (.tmp 28)=v28) (hx:∀ v28 iq v8,(unH d p z v28 iq v8).eval (.tmp s)=.bool b)
  (hr:i∈Region.ready .any aB listed) (hJ:UnJ d p z X listed a w):wpOp prog aB Q i (fun a' w'=>UnS d p w'∧UnJ d p z X (listed.setIfInBounds i true) a' w') a w:=by
 have h0:=Hy hr hw
 have hun:listed.getD i false=false:=getD_both (mem_ready.1 hr).1
 obtain⟨v28,iq,v8,rfl,hm,h1,h2⟩:=hJ.frame
 obtain⟨r,kvs,rfl,hrX,hmap,hent⟩:=hm h0
 have hno:∀ v,(k,v) ∉ kvs:=fun v hv=>by
  obtain⟨j,c,hj,hl,_⟩:=(hent.mem k v).1 hv
  obtain⟨rfl,_⟩:=unIns_key hin hj
  rw [hun] at hl;cases hl
 obtain⟨o,hrun,hmap'⟩:=C0 Ey underlying153 hmap k (.bool b) (Ib kvs 0 hno)
 have hb':=Aq hJ.below hrX o
 have hsz:i<listed.size:=by rw [hJ.size];exact hlt
 refine Dh ho (hg _ _ _) (Gv hop (h28 _ _ _) rfl (hx _ _ _) hrun) ⟨hS.below hb' hp.1 hp.2.1 hp.2.2.1 hp.2.2.2,?_⟩
 rw [hd]
 have hne0:i≠0:=fun e=>by have:=Bw hin;rw [e] at this;simp at this
 have hne121:i≠121:=fun e=>by have:=Bw hin;rw [e] at this;simp at this
 have hne122:i≠122:=fun e=>by have:=Bw hin;rw [e] at this;simp at this
 refine⟨by simp [hJ.size],fun j hj hjs=>getD_set_true (hJ.quiet j hj hjs),hb',fun j hj hl=>getD_set_true h0,fun hl=>getD_set_true (hJ.second (Ad hl hne122)),_,_,_,rfl,fun _=>⟨r,_,rfl,hrX,hmap',?_,?_⟩,fun hl=>h1 (Ad hl hne121),fun hl=>h2 (Ad hl hne122)⟩
 ·rw [List.map_append,List.nodup_append]
  refine⟨hent.nodup,by simp,?_⟩
  intro x hx y hy e
  simp only [List.map_cons,List.map_nil,List.mem_singleton] at hy
  obtain⟨⟨k',v'⟩,hm',rfl⟩:=List.mem_map.1 hx
  dsimp only at e
  subst hy e
  exact hno v' hm'
 ·intro k' v'
  rw [List.mem_append,List.mem_singleton,Prod.mk.injEq]
  constructor
  ·rintro (h|⟨rfl,rfl⟩)
   ·obtain⟨j,c,hj,hl,hv⟩:=(hent.mem k' v').1 h
    exact⟨j,c,hj,getD_set_true hl,hv⟩
   ·exact⟨i,b,hin,bY hsz,rfl⟩
  ·rintro⟨j,c,hj,hl,rfl⟩
   by_cases hij:i=j
   ·subst hij
    refine .inr ?_
    simp only [dn,List.mem_cons,List.not_mem_nil,or_false,Prod.mk.injEq] at hin hj
    rcases hin with⟨rfl,rfl,rfl⟩|⟨rfl,rfl,rfl⟩|⟨rfl,rfl,rfl⟩|⟨rfl,rfl,rfl⟩|⟨rfl,rfl,rfl⟩ <;> simp at hj <;> exact⟨hj.1,by rw [hj.2]⟩
   ·exact .inl ((hent.mem k' _).2 ⟨j,c,hj,Ad hl hij,rfl⟩)
theorem ex_makeMap {P:Program} {o:Oper} {a:Act} {T:TypeId} {w:World} {v:Value} {w':World} (hop:o.op=.makeMap T none) (hr:(Instr.makeMap T none).run P w=.ok v w'):(execOp a.eval o).run P w=.ok (.value v) w':=by
 unfold execOp;simp [hop,hr]
theorem ex_assign {P:Program} {o:Oper} {a:Act} {x:Operand} {v:Value} {w:World} (hop:o.op=.assign x) (hx:a.eval x=v):(execOp a.eval o).run P w=.ok (.value v) w:=by
 unfold execOp;simp [hop,hx]
theorem un_make {d:UnD} {p:UnP} {z:Bool} {X:World} {Q:Exit→Act→World→Prop} {listed:Array Bool} {a:Act} {w:World} (hp:p.p3<X.heap.size∧p.p4<X.heap.size∧p.p5<X.heap.size∧p.p6<X.heap.size) (hS:UnS d p X)
  (hr:0∈Region.ready .any aB listed) (hJ:UnJ d p z X listed a w):wpOp prog aB Q 0 (fun a' w'=>UnS d p w'∧UnJ d p z X (listed.setIfInBounds 0 true) a' w') a w:=by
 have hun:listed.getD 0 false=false:=getD_both (mem_ready.1 hr).1
 obtain⟨v28,iq,v8,rfl,hm,h1,h2⟩:=hJ.frame
 have hb':=hJ.below.alloc hJ.below.size (.map #[] 0)
 have hsz:0<listed.size:=by rw [hJ.size];omega
 have none_of:∀ i,i∈[27,32,68,118,120,121,122]→listed.getD i false=true→False:=fun i hi hl=>by have:=hJ.first i hi hl;rw [hun] at this;cases this
 refine Cu (o:=unOp 0) (v:=.map (some w.heap.size)) (w':=w.alloc (.map #[] 0)) (by kernel_rfl) (by kernel_rfl) (ex_makeMap (T:=153) (by kernel_rfl) (by have:=@run_makeMap prog;simp [this])) ⟨hS.below hb' hp.1 hp.2.1 hp.2.2.1 hp.2.2.2,?_⟩
 rw [show (unOp 0).dst=some 28 from by kernel_rfl,unH_put28]
 refine⟨by simp [hJ.size],fun j hj hjs=>getD_set_true (hJ.quiet j hj hjs),hb',fun j hj hl=>bY hsz,fun hl=>(none_of 122 (by decide) (Ad hl (by decide))).elim,_,_,_,rfl,fun _=>⟨w.heap.size,[],rfl,hJ.below.size,mapOfS_new aJ w,by simp,?_⟩,fun hl=>(none_of 121 (by decide) (Ad hl (by decide))).elim,fun hl=>(none_of 122 (by decide) (Ad hl (by decide))).elim⟩
 intro k v
 refine⟨fun h=>(by cases h),?_⟩
 rintro⟨i,b,hi,hl,_⟩
 have hm:=Bw hi
 have hne:0≠i:=fun e=>by rw [← e] at hm;exact absurd hm (by decide)
 exact (none_of i (by revert hm;simp;intro h;rcases h with rfl|rfl|rfl|rfl|rfl <;> simp) (Ad hl hne)).elim
theorem un_121 {d:UnD} {p:UnP} {z:Bool} {X:World} {Q:Exit→Act→World→Prop} {listed:Array Bool} {a:Act} {w:World} (hp:p.p3<X.heap.size∧p.p4<X.heap.size∧p.p5<X.heap.size∧p.p6<X.heap.size) (hS:UnS d p X)
  (hr:121∈Region.ready .any aB listed) (hJ:UnJ d p z X listed a w):wpOp prog aB Q 121 (fun a' w'=>UnS d p w'∧UnJ d p z X (listed.setIfInBounds 121 true) a' w') a w:=by
 have h0:=Hy hr (i:=0) (by kernel_rfl)
 have hun:listed.getD 121 false=false:=getD_both (mem_ready.1 hr).1
 obtain⟨v28,iq,v8,rfl,hm,h1,h2⟩:=hJ.frame
 obtain⟨r,kvs,hv,hrX,hmap,hent⟩:=hm h0
 have hsz:121<listed.size:=by rw [hJ.size];omega
 refine Cu (o:=unOp 121) (v:=v28) (w':=w) (by kernel_rfl) (by kernel_rfl) (Bv (x:=.tmp 28) (by kernel_rfl) (by kernel_rfl)) ⟨hS.below hJ.below hp.1 hp.2.1 hp.2.2.1 hp.2.2.2,?_⟩
 rw [show (unOp 121).dst=some 144 from by kernel_rfl,unH_put144]
 refine⟨by simp [hJ.size],fun j hj hjs=>getD_set_true (hJ.quiet j hj hjs),hJ.below,fun j hj hl=>getD_set_true h0,fun hl=>bY hsz,_,_,_,rfl,fun _=>⟨r,kvs,hv,hrX,hmap,hent.nodup,?_⟩,fun _=>rfl,fun hl=>h2 (Ad hl (by decide))⟩
 intro k v
 rw [hent.mem]
 constructor
 ·rintro⟨i,b,hi,hl,e⟩;exact⟨i,b,hi,getD_set_true hl,e⟩
 ·rintro⟨i,b,hi,hl,e⟩
  exact⟨i,b,hi,Ad hl (fun e'=>by have:=Bw hi;rw [← e'] at this;exact absurd this (by decide)),e⟩
theorem un_122 {d:UnD} {p:UnP} {z:Bool} {X:World} {Q:Exit→Act→World→Prop} {listed:Array Bool} {a:Act} {w:World} (hp:p.p3<X.heap.size∧p.p4<X.heap.size∧p.p5<X.heap.size∧p.p6<X.heap.size) (hS:UnS d p X)
  (hr:122∈Region.ready .any aB listed) (hJ:UnJ d p z X listed a w):wpOp prog aB Q 122 (fun a' w'=>UnS d p w'∧UnJ d p z X (listed.setIfInBounds 122 true) a' w') a w:=by
 have h121:=Hy hr (i:=121) (by kernel_rfl)
 have h0:=hJ.first 121 (by decide) h121
 obtain⟨v28,iq,v8,rfl,hm,h1,h2⟩:=hJ.frame
 obtain⟨r,kvs,hv,hrX,hmap,hent⟩:=hm h0
 have e144:=h1 h121
 subst e144
 refine Cu (o:=unOp 122) (v:=iq) (w':=w) (by kernel_rfl) (by kernel_rfl) (ex_assign (x:=.tmp 144) (by kernel_rfl) (by kernel_rfl)) ⟨hS.below hJ.below hp.1 hp.2.1 hp.2.2.1 hp.2.2.2,?_⟩
 rw [show (unOp 122).dst=some 8 from by kernel_rfl,unH_put8]
 refine⟨by simp [hJ.size],fun j hj hjs=>getD_set_true (hJ.quiet j hj hjs),hJ.below,fun j hj hl=>getD_set_true h0,fun hl=>getD_set_true h121,_,_,_,rfl,fun _=>⟨r,kvs,hv,hrX,hmap,hent.nodup,?_⟩,fun _=>rfl,fun _=>rfl⟩
 intro k v
 rw [hent.mem]
 constructor
 ·rintro⟨i,b,hi,hl,e⟩;exact⟨i,b,hi,getD_set_true hl,e⟩
 ·rintro⟨i,b,hi,hl,e⟩
  exact⟨i,b,hi,Ad hl (fun e'=>by have:=Bw hi;rw [← e'] at this;exact absurd this (by decide)),e⟩
theorem J5 {d:UnD} {p:UnP} {z:Bool} {X:World} {Q:Exit→Act→World→Prop} (hp:p.p3<X.heap.size∧p.p4<X.heap.size∧p.p5<X.heap.size∧p.p6<X.heap.size) (hS:UnS d p X) (listed:Array Bool) (a:Act) (w:World) (i:Nat)
  (hr:i∈Region.ready .any aB listed) (hJ:UnJ d p z X listed a w):wpOp prog aB Q i (fun a' w'=>UnS d p w'∧UnJ d p z X (listed.setIfInBounds i true) a' w') a w:=by
 obtain⟨hun,o,ho,_⟩:=mem_ready.1 hr
 have hlt:i<123:=by rw [← unSize];exact (aZ ho)
 have hsp:i∈unSp:=Classical.byContradiction fun hn=>by
  have:=hJ.quiet i hlt hn
  rw [getD_both hun] at this;cases this
 clear ho hun
 simp only [unSp,List.mem_cons,List.not_mem_nil,or_false] at hsp
 rcases hsp with rfl|rfl|rfl|rfl|rfl|rfl|rfl|rfl
 ·exact un_make hp hS hr hJ
 ·exact Gp 27 1 d.yc5 54 hp hS (by simp [dn]) (by decide) (by kernel_rfl) (by kernel_rfl) (by kernel_rfl) (by kernel_rfl) (fun _ _ _=>by kernel_rfl) (fun _ _ _=>by kernel_rfl) (fun _ _ _=>by kernel_rfl) hr hJ
 ·exact Gp 32 2 (!z) 58 hp hS (by simp [dn]) (by decide) (by kernel_rfl) (by kernel_rfl) (by kernel_rfl) (by kernel_rfl) (fun _ _ _=>by kernel_rfl) (fun _ _ _=>by kernel_rfl) (fun _ _ _=>by kernel_rfl) hr hJ
 ·exact Gp 68 4 d.yl7 93 hp hS (by simp [dn]) (by decide) (by kernel_rfl) (by kernel_rfl) (by kernel_rfl) (by kernel_rfl) (fun _ _ _=>by kernel_rfl) (fun _ _ _=>by kernel_rfl) (fun _ _ _=>by kernel_rfl) hr hJ
 ·exact Gp 118 6 d.yh10 142 hp hS (by simp [dn]) (by decide) (by kernel_rfl) (by kernel_rfl) (by kernel_rfl) (by kernel_rfl) (fun _ _ _=>by kernel_rfl) (fun _ _ _=>by kernel_rfl) (fun _ _ _=>by kernel_rfl) hr hJ
 ·exact Gp 120 7 d.named 143 hp hS (by simp [dn]) (by decide) (by kernel_rfl) (by kernel_rfl) (by kernel_rfl) (by kernel_rfl) (fun _ _ _=>by kernel_rfl) (fun _ _ _=>by kernel_rfl) (fun _ _ _=>by kernel_rfl) hr hJ
 ·exact un_121 hp hS hr hJ
 ·exact un_122 hp hS hr hJ
end
section
open Go.Lib Go.Proofs.Tryz Go.RowKit Go.Shelf Go.Sort
def Jw (d:UnD) (p:UnP) (z:Bool) (X:World) (Q:Exit→Act→World→Prop):Prop :=
 ∀ w' r kvs,Below X.heap.size X w'→A8 aJ r w' kvs→(kvs.map (·.1)).Nodup→(∀ k v,(k,v)∈kvs↔∃ i b,(i,k,b)∈dn d z∧v=.bool b)→Q .normal (unH d p z (.map (some r)) (.map (some r)) (.map (some r))) w'
theorem Er {listed:Array Bool} {d:UnD} {p:UnP} {z:Bool} {X:World} {a:Act} {w:World} (hJ:UnJ d p z X listed a w) (i:Nat) (prev:List Nat) (hi:i<123) (ho:aB[i]?=some (unOp i)) (hc:((unOp i).after.all fun e=>!Region.binds .any e||(decide (e.on<123)&&(!(unSp.contains e.on)||prev.contains e.on)))=true)
  (hprev:∀ j∈prev,listed.getD j false=true) (h0:Region.ready .any aB listed=[]):listed.getD i false=true:=by
 cases hl:listed.getD i false with
 | true=>rfl
 | false =>
  have hm:i∈Region.ready .any aB listed:=by
   refine mem_ready.2 ⟨getD_in (by rw [hJ.size];exact hi) hl,unOp i,ho,fun e he hb=>?_⟩
   have:=Array.all_eq_true_iff_forall_mem.1 hc e he
   rw [hb] at this
   simp only [Bool.not_true,Bool.false_or,Bool.and_eq_true,decide_eq_true_eq,Bool.or_eq_true,Bool.not_eq_true'] at this
   rcases this.2 with h|h
   ·exact hJ.quiet e.on this.1 (by simpa using h)
   ·exact hprev e.on (by simpa using h)
  rw [h0] at hm
  cases hm
theorem Mu {d:UnD} {p:UnP} {z:Bool} {X:World} {Q:Exit→Act→World→Prop} (H:Jw d p z X Q) (listed:Array Bool) (a:Act) (w:World) (h0:Region.ready .any aB listed=[]) (hJ:UnJ d p z X listed a w):Q .normal a w:=by
 have r0:=Er hJ 0 [] (by decide) (by kernel_rfl) (by kernel_rfl) (fun _ h=>by cases h) h0
 have one:∀ j∈[0],listed.getD j false=true:=fun j hj=>by cases List.mem_singleton.1 hj;exact r0
 have r27:=Er hJ 27 [0] (by decide) (by kernel_rfl) (by kernel_rfl) one h0
 have r32:=Er hJ 32 [0] (by decide) (by kernel_rfl) (by kernel_rfl) one h0
 have r68:=Er hJ 68 [0] (by decide) (by kernel_rfl) (by kernel_rfl) one h0
 have r118:=Er hJ 118 [0] (by decide) (by kernel_rfl) (by kernel_rfl) one h0
 have r120:=Er hJ 120 [0] (by decide) (by kernel_rfl) (by kernel_rfl) one h0
 have six:∀ j∈[0,27,32,68,118,120],listed.getD j false=true:=fun j hj=>by
  simp only [List.mem_cons,List.not_mem_nil,or_false] at hj
  rcases hj with rfl|rfl|rfl|rfl|rfl|rfl <;> assumption
 have r121:=Er hJ 121 [0,27,32,68,118,120] (by decide) (by kernel_rfl) (by kernel_rfl) six h0
 have r122:=Er hJ 122 [0,27,32,68,118,120,121] (by decide) (by kernel_rfl) (by kernel_rfl) (fun j hj=>by
  simp only [List.mem_cons,List.not_mem_nil,or_false] at hj
  rcases hj with rfl|rfl|rfl|rfl|rfl|rfl|rfl <;> assumption) h0
 obtain⟨v28,iq,v8,rfl,hm,h1,h2⟩:=hJ.frame
 obtain⟨r,kvs,rfl,hrX,hmap,hent⟩:=hm r0
 rw [h1 r121,h2 r122]
 refine H w r kvs hJ.below hmap hent.nodup fun k v=>?_
 rw [hent.mem]
 constructor
 ·rintro⟨i,b,hi,_,e⟩;exact⟨i,b,hi,e⟩
 ·rintro⟨i,b,hi,e⟩
  refine⟨i,b,hi,?_,e⟩
  have:=Bw hi
  simp only [List.mem_cons,List.not_mem_nil,or_false] at this
  rcases this with rfl|rfl|rfl|rfl|rfl <;> assumption
theorem Hz {l:Array Bool} (h:((List.range 123).all fun i=>unSp.contains i||l.getD i false)=true) (i:Nat) (hi:i<123) (hn:i ∉ unSp):l.getD i false=true:=by
 have:=List.all_eq_true.1 h i (List.mem_range.2 hi)
 simp only [Bool.or_eq_true] at this
 rcases this with h|h
 ·exact absurd (by simpa using h) hn
 ·exact h
theorem un_C0 (d:UnD) (p:UnP) (z:Bool) (X w:World) (Q:Exit→Act→World→Prop) (hsel:Region.noSelect aB=true) (hQ:∀ c (a:Act) w d v,Q (.panic c) (a.put d v) w→Q (.panic c) a w) (hp:p.p3<X.heap.size∧p.p4<X.heap.size∧p.p5<X.heap.size∧p.p6<X.heap.size) (hS:UnS d p X) (hb:Below X.heap.size X w)
  (H:Jw d p z X Q):wpAnyH prog .any aB Q (UnS d p) 87 (Ap [1,2,3,4,5,6,7,8,9,10,11,12,13,14,15,16,17,18,19,20,21,22,23,24,25,26,28,29,33,34,35,69,70,71,119,30]) (unG0 d p z undef) w:=by
 refine un_B0 d p z _ w Q hsel hQ (hS.below hb hp.1 hp.2.1 hp.2.2.1 hp.2.2.2) ?_
 refine De (J:=UnJ d p z X) (fun l a w i hi hJ=>J5 hp hS l a w i hi hJ) (fun l a w h0 hJ=>Mu H l a w h0 hJ) _ _ _ _ (by decide +kernel) ?_
 refine⟨by decide +kernel,Hz (by decide +kernel),hb,?_,fun h=>absurd h (by decide +kernel),undef,undef,undef,by kernel_rfl,?_,fun h=>absurd h (by decide +kernel),fun h=>absurd h (by decide +kernel)⟩
 ·intro i hi h
  simp only [List.mem_cons,List.not_mem_nil,or_false] at hi
  rcases hi with rfl|rfl|rfl|rfl|rfl|rfl|rfl <;> exact absurd h (by decide +kernel)
 ·exact fun h=>absurd h (by decide +kernel)
theorem un_C1 (d:UnD) (p:UnP) (z:Bool) (r:Nat) (kvs:List (Int × Value)) (X w:World) (Q:Exit→Act→World→Prop) (hsel:Region.noSelect aB=true) (hQ:∀ c (a:Act) w d v,Q (.panic c) (a.put d v) w→Q (.panic c) a w) (hp:p.p3<X.heap.size∧p.p4<X.heap.size∧p.p5<X.heap.size∧p.p6<X.heap.size) (hS:UnS d p X) (hb:Below X.heap.size X w)
  (hrX:X.heap.size≤r) (hmap:A8 aJ r w kvs) (hnd:(kvs.map (·.1)).Nodup) (hmem:∀ k v,(k,v)∈kvs↔∃ i b,(i,k,b)∈dn d z∧i∈[]∧v=.bool b) (H:Jw d p z X Q):wpAnyH prog .any aB Q (UnS d p) 86 (Ap [1,2,3,4,5,6,7,8,9,10,11,12,13,14,15,16,17,18,19,20,21,22,23,24,25,26,28,29,33,34,35,69,70,71,119,0,30]) (unG0 d p z (.map (some r))) w:=by
 refine un_B1 d p z _ w Q hsel hQ (hS.below hb hp.1 hp.2.1 hp.2.2.1 hp.2.2.2) ?_
 refine De (J:=UnJ d p z X) (fun l a w i hi hJ=>J5 hp hS l a w i hi hJ) (fun l a w h0 hJ=>Mu H l a w h0 hJ) _ _ _ _ (by decide +kernel) ?_
 refine⟨by decide +kernel,Hz (by decide +kernel),hb,?_,fun h=>absurd h (by decide +kernel),.map (some r),undef,undef,by kernel_rfl,?_,fun h=>absurd h (by decide +kernel),fun h=>absurd h (by decide +kernel)⟩
 ·intro i hi h
  decide +kernel
 ·intro _
  refine⟨r,kvs,rfl,hrX,hmap,hnd,fun k v=>?_⟩
  rw [hmem]
  constructor
  ·rintro⟨i,b,hi,hm,e⟩
   refine⟨i,b,hi,?_,e⟩
   revert hm
   have:=Bw hi
   simp only [List.mem_cons,List.not_mem_nil,or_false] at this
   rcases this with rfl|rfl|rfl|rfl|rfl <;> intro hm <;> first|(decide +kernel)|(exact absurd hm (by decide))
  ·rintro⟨i,b,hi,hl,e⟩
   refine⟨i,b,hi,?_,e⟩
   have:=Bw hi
   simp only [List.mem_cons,List.not_mem_nil,or_false] at this
   rcases this with rfl|rfl|rfl|rfl|rfl <;> first|decide|(exact absurd hl (by decide +kernel))
theorem un_C2 (d:UnD) (p:UnP) (z:Bool) (r:Nat) (kvs:List (Int × Value)) (X w:World) (Q:Exit→Act→World→Prop) (hsel:Region.noSelect aB=true) (hQ:∀ c (a:Act) w d v,Q (.panic c) (a.put d v) w→Q (.panic c) a w) (hp:p.p3<X.heap.size∧p.p4<X.heap.size∧p.p5<X.heap.size∧p.p6<X.heap.size) (hS:UnS d p X) (hb:Below X.heap.size X w)
  (hrX:X.heap.size≤r) (hmap:A8 aJ r w kvs) (hnd:(kvs.map (·.1)).Nodup) (hmem:∀ k v,(k,v)∈kvs↔∃ i b,(i,k,b)∈dn d z∧i∈[27]∧v=.bool b) (H:Jw d p z X Q):wpAnyH prog .any aB Q (UnS d p) 85 (Ap [1,2,3,4,5,6,7,8,9,10,11,12,13,14,15,16,17,18,19,20,21,22,23,24,25,26,28,29,33,34,35,69,70,71,119,0,27,30]) (unG0 d p z (.map (some r))) w:=by
 refine un_B2 d p z _ w Q hsel hQ (hS.below hb hp.1 hp.2.1 hp.2.2.1 hp.2.2.2) ?_
 refine De (J:=UnJ d p z X) (fun l a w i hi hJ=>J5 hp hS l a w i hi hJ) (fun l a w h0 hJ=>Mu H l a w h0 hJ) _ _ _ _ (by decide +kernel) ?_
 refine⟨by decide +kernel,Hz (by decide +kernel),hb,?_,fun h=>absurd h (by decide +kernel),.map (some r),undef,undef,by kernel_rfl,?_,fun h=>absurd h (by decide +kernel),fun h=>absurd h (by decide +kernel)⟩
 ·intro i hi h
  decide +kernel
 ·intro _
  refine⟨r,kvs,rfl,hrX,hmap,hnd,fun k v=>?_⟩
  rw [hmem]
  constructor
  ·rintro⟨i,b,hi,hm,e⟩
   refine⟨i,b,hi,?_,e⟩
   revert hm
   have:=Bw hi
   simp only [List.mem_cons,List.not_mem_nil,or_false] at this
   rcases this with rfl|rfl|rfl|rfl|rfl <;> intro hm <;> first|(decide +kernel)|(exact absurd hm (by decide))
  ·rintro⟨i,b,hi,hl,e⟩
   refine⟨i,b,hi,?_,e⟩
   have:=Bw hi
   simp only [List.mem_cons,List.not_mem_nil,or_false] at this
   rcases this with rfl|rfl|rfl|rfl|rfl <;> first|decide|(exact absurd hl (by decide +kernel))
theorem un_C3 (d:UnD) (p:UnP) (z:Bool) (r:Nat) (kvs:List (Int × Value)) (X w:World) (Q:Exit→Act→World→Prop) (hsel:Region.noSelect aB=true) (hQ:∀ c (a:Act) w d v,Q (.panic c) (a.put d v) w→Q (.panic c) a w) (hp:p.p3<X.heap.size∧p.p4<X.heap.size∧p.p5<X.heap.size∧p.p6<X.heap.size) (hS:UnS d p X) (hb:Below X.heap.size X w)
  (hrX:X.heap.size≤r) (hmap:A8 aJ r w kvs) (hnd:(kvs.map (·.1)).Nodup) (hmem:∀ k v,(k,v)∈kvs↔∃ i b,(i,k,b)∈dn d z∧i∈[120]∧v=.bool b) (H:Jw d p z X Q):wpAnyH prog .any aB Q (UnS d p) 85 (Ap [1,2,3,4,5,6,7,8,9,10,11,12,13,14,15,16,17,18,19,20,21,22,23,24,25,26,28,29,33,34,35,69,70,71,119,0,120,30]) (unG0 d p z (.map (some r))) w:=by
 refine un_B3 d p z _ w Q hsel hQ (hS.below hb hp.1 hp.2.1 hp.2.2.1 hp.2.2.2) ?_
 refine De (J:=UnJ d p z X) (fun l a w i hi hJ=>J5 hp hS l a w i hi hJ) (fun l a w h0 hJ=>Mu H l a w h0 hJ) _ _ _ _ (by decide +kernel) ?_
 refine⟨by decide +kernel,Hz (by decide +kernel),hb,?_,fun h=>absurd h (by decide +kernel),.map (some r),undef,undef,by kernel_rfl,?_,fun h=>absurd h (by decide +kernel),fun h=>absurd h (by decide +kernel)⟩
 ·intro i hi h
  decide +kernel
 ·intro _
  refine⟨r,kvs,rfl,hrX,hmap,hnd,fun k v=>?_⟩
  rw [hmem]
  constructor
  ·rintro⟨i,b,hi,hm,e⟩
   refine⟨i,b,hi,?_,e⟩
   revert hm
   have:=Bw hi
   simp only [List.mem_cons,List.not_mem_nil,or_false] at this
   rcases this with rfl|rfl|rfl|rfl|rfl <;> intro hm <;> first|(decide +kernel)|(exact absurd hm (by decide))
  ·rintro⟨i,b,hi,hl,e⟩
   refine⟨i,b,hi,?_,e⟩
   have:=Bw hi
   simp only [List.mem_cons,List.not_mem_nil,or_false] at this
   rcases this with rfl|rfl|rfl|rfl|rfl <;> first|decide|(exact absurd hl (by decide +kernel))
theorem un_C4 (d:UnD) (p:UnP) (z:Bool) (r:Nat) (kvs:List (Int × Value)) (X w:World) (Q:Exit→Act→World→Prop) (hsel:Region.noSelect aB=true) (hQ:∀ c (a:Act) w d v,Q (.panic c) (a.put d v) w→Q (.panic c) a w) (hp:p.p3<X.heap.size∧p.p4<X.heap.size∧p.p5<X.heap.size∧p.p6<X.heap.size) (hS:UnS d p X) (hb:Below X.heap.size X w)
  (hrX:X.heap.size≤r) (hmap:A8 aJ r w kvs) (hnd:(kvs.map (·.1)).Nodup) (hmem:∀ k v,(k,v)∈kvs↔∃ i b,(i,k,b)∈dn d z∧i∈[27,120]∧v=.bool b) (H:Jw d p z X Q):wpAnyH prog .any aB Q (UnS d p) 84 (Ap [1,2,3,4,5,6,7,8,9,10,11,12,13,14,15,16,17,18,19,20,21,22,23,24,25,26,28,29,33,34,35,69,70,71,119,0,27,120,30]) (unG0 d p z (.map (some r))) w:=by
 refine un_B4 d p z _ w Q hsel hQ (hS.below hb hp.1 hp.2.1 hp.2.2.1 hp.2.2.2) ?_
 refine De (J:=UnJ d p z X) (fun l a w i hi hJ=>J5 hp hS l a w i hi hJ) (fun l a w h0 hJ=>Mu H l a w h0 hJ) _ _ _ _ (by decide +kernel) ?_
 refine⟨by decide +kernel,Hz (by decide +kernel),hb,?_,fun h=>absurd h (by decide +kernel),.map (some r),undef,undef,by kernel_rfl,?_,fun h=>absurd h (by decide +kernel),fun h=>absurd h (by decide +kernel)⟩
 ·intro i hi h
  decide +kernel
 ·intro _
  refine⟨r,kvs,rfl,hrX,hmap,hnd,fun k v=>?_⟩
  rw [hmem]
  constructor
  ·rintro⟨i,b,hi,hm,e⟩
   refine⟨i,b,hi,?_,e⟩
   revert hm
   have:=Bw hi
   simp only [List.mem_cons,List.not_mem_nil,or_false] at this
   rcases this with rfl|rfl|rfl|rfl|rfl <;> intro hm <;> first|(decide +kernel)|(exact absurd hm (by decide))
  ·rintro⟨i,b,hi,hl,e⟩
   refine⟨i,b,hi,?_,e⟩
   have:=Bw hi
   simp only [List.mem_cons,List.not_mem_nil,or_false] at this
   rcases this with rfl|rfl|rfl|rfl|rfl <;> first|decide|(exact absurd hl (by decide +kernel))
theorem Mw (d:UnD) (z:Bool) (k:Int) (v:Value):(k,v)∈([]:List (Int × Value))↔∃ i b,(i,k,b)∈dn d z∧i∈([]:List Nat)∧v=.bool b :=
 ⟨fun h=>(by cases h),fun⟨_,_,_,h,_⟩=>(by cases h)⟩
theorem G2 (d:UnD) (z:Bool) (k:Int) (v:Value):(k,v)∈([]++[(1,.bool d.yc5)]:List (Int × Value))↔∃ i b,(i,k,b)∈dn d z∧i∈[27]∧v=.bool b:=by
 constructor
 ·intro h
  simp only [List.nil_append,List.mem_singleton,Prod.mk.injEq] at h
  obtain⟨rfl,rfl⟩:=h
  exact⟨27,d.yc5,by simp [dn],by simp,rfl⟩
 ·rintro⟨i,b,hi,hm,rfl⟩
  obtain rfl:=List.mem_singleton.1 hm
  obtain⟨rfl,rfl⟩:k=1∧b=d.yc5:=by simpa [dn] using hi
  simp
theorem Fq (d:UnD) (z:Bool) (k:Int) (v:Value):(k,v)∈([]++[(7,.bool d.named)]:List (Int × Value))↔∃ i b,(i,k,b)∈dn d z∧i∈[120]∧v=.bool b:=by
 constructor
 ·intro h
  simp only [List.nil_append,List.mem_singleton,Prod.mk.injEq] at h
  obtain⟨rfl,rfl⟩:=h
  exact⟨120,d.named,by simp [dn],by simp,rfl⟩
 ·rintro⟨i,b,hi,hm,rfl⟩
  obtain rfl:=List.mem_singleton.1 hm
  obtain⟨rfl,rfl⟩:k=7∧b=d.named:=by simpa [dn] using hi
  simp
theorem K8 (d:UnD) (z:Bool) (k:Int) (v:Value):(k,v)∈([]++[(1,.bool d.yc5)]++[(7,.bool d.named)]:List (Int × Value))↔∃ i b,(i,k,b)∈dn d z∧i∈[27,120]∧v=.bool b:=by
 constructor
 ·intro h
  rcases List.mem_append.1 h with h|h
  ·obtain⟨i,b,h1,h2,h3⟩:=(G2 d z k v).1 h
   exact⟨i,b,h1,by rw [List.mem_singleton.1 h2];simp,h3⟩
  ·obtain⟨i,b,h1,h2,h3⟩:=(Fq d z k v).1 (by simpa using h)
   exact⟨i,b,h1,by rw [List.mem_singleton.1 h2];simp,h3⟩
 ·rintro⟨i,b,hi,hm,rfl⟩
  rcases List.mem_cons.1 hm with rfl|hm
  ·exact List.mem_append_left _ ((G2 d z k _).2 ⟨27,b,hi,by simp,rfl⟩)
  ·exact List.mem_append_right _ (by have:=(Fq d z k (.bool b)).2 ⟨i,b,hi,hm,rfl⟩;simpa using this)
theorem Mv (d:UnD) (z:Bool) (k:Int) (v:Value):(k,v)∈([]++[(7,.bool d.named)]++[(1,.bool d.yc5)]:List (Int × Value))↔∃ i b,(i,k,b)∈dn d z∧i∈[27,120]∧v=.bool b:=by
 rw [← K8]
 simp only [List.nil_append,List.mem_append,List.mem_singleton]
 exact Or.comm
theorem un_region (d:UnD) (p:UnP) (z:Bool) (X:World) (Q:Exit→Act→World→Prop) (hsel:Region.noSelect aB=true) (hQ:∀ c (a:Act) w d v,Q (.panic c) (a.put d v) w→Q (.panic c) a w) (hp:p.p3<X.heap.size∧p.p4<X.heap.size∧p.p5<X.heap.size∧p.p6<X.heap.size) (hS:UnS d p X)
  (hSame:∀ W,Below X.heap.size X W→Calls prog 75 #[.agg #[d.m0,d.m1,d.m2,d.m3,d.m4,d.m5,d.m6,d.m7,d.m8,d.m9,d.m10,d.m11],.agg Ar] W (Ret W (.bool z))) (H:Jw d p z X Q):wpAnyH prog .any aB Q (UnS d p) 123 (Ap []) (unF0 d p) X:=by
 have SB:∀ W,Below X.heap.size X W→UnS d p W:=fun W hb=>hS.below hb hp.1 hp.2.1 hp.2.2.1 hp.2.2.2
 refine un_A d p X Q hsel hQ hS ?_
 refine wpAnyH_all (rs:=[0,30]) (by kernel_rfl) (by simp) ?_
 intro i hi
 simp only [List.mem_cons,List.not_mem_nil,or_false] at hi
 rcases hi with rfl|rfl
 ·have hb1:Below X.heap.size X (X.alloc (.map #[] 0)):=(Below.refl _ X).alloc nR _
  refine Cu (o:=unOp 0) (v:=.map (some X.heap.size)) (w':=X.alloc (.map #[] 0)) (by kernel_rfl) (by kernel_rfl) (ex_makeMap (T:=153) (by kernel_rfl) (by have:=@run_makeMap prog;simp [this])) ⟨SB _ hb1,?_⟩
  refine Ay (a':=unFA d p (.map (some X.heap.size)) undef) (listed':=(Ap [1,2,3,4,5,6,7,8,9,10,11,12,13,14,15,16,17,18,19,20,21,22,23,24,25,26,28,29,33,34,35,69,70,71,119,0])) (by kernel_rfl) (by kernel_rfl) ?_
  have hm1:=mapOfS_new aJ X
  generalize X.alloc (.map #[] 0)=X1 at *
  refine wpAnyH_all (rs:=[27,30,120]) (by kernel_rfl) (by simp) ?_
  intro i hi
  simp only [List.mem_cons,List.not_mem_nil,or_false] at hi
  rcases hi with rfl|rfl|rfl
  ·obtain⟨o2,hrun2,hm2⟩:=C0 Ey underlying153 hm1 1 (.bool d.yc5) (by first|rfl|decide)
   have hb2:Below X.heap.size X (X1.putObj X.heap.size o2):=Aq hb1 nR o2
   refine Dh (o:=unOp 27) (by kernel_rfl) (by kernel_rfl) (Gv (T:=153) (m:=.tmp 28) (k:=.const (.int .i64 1)) (x:=.tmp 54) (by kernel_rfl) (by kernel_rfl:_=.map (some X.heap.size)) rfl (by kernel_rfl:_=.bool d.yc5) hrun2) ⟨SB _ hb2,?_⟩
   refine Ay (a':=unFA d p (.map (some X.heap.size)) undef) (listed':=(Ap [1,2,3,4,5,6,7,8,9,10,11,12,13,14,15,16,17,18,19,20,21,22,23,24,25,26,28,29,33,34,35,69,70,71,119,0,27])) (by kernel_rfl) (by kernel_rfl) ?_
   generalize X1.putObj X.heap.size o2=X2 at *
   refine wpAnyH_all (rs:=[30,120]) (by kernel_rfl) (by simp) ?_
   intro i hi
   simp only [List.mem_cons,List.not_mem_nil,or_false] at hi
   rcases hi with rfl|rfl
   ·refine Ej (o:=unOp 30) (f:=75) (args:=#[.agg #[d.m0,d.m1,d.m2,d.m3,d.m4,d.m5,d.m6,d.m7,d.m8,d.m9,d.m10,d.m11],.agg Ar]) (by kernel_rfl) (by kernel_rfl) (by kernel_rfl) (hSame X2 hb2) (fun w' hb'=>?_)
    have hbb:Below X.heap.size X w':=(hb2).trans (hb'.mono (hb2).size)
    exact⟨SB _ hbb,Ay (by kernel_rfl) (by kernel_rfl) (un_C2 d p z X.heap.size _ X w' Q hsel hQ hp hS hbb nR (hm2.below hb') (by simp) (by intro k v;first|exact Mw d z k v|exact G2 d z k v|exact Fq d z k v|exact K8 d z k v|exact Mv d z k v) H)⟩
   ·obtain⟨o3,hrun3,hm3⟩:=C0 Ey underlying153 hm2 7 (.bool d.named) (by first|rfl|decide)
    have hb3:Below X.heap.size X (X2.putObj X.heap.size o3):=Aq hb2 nR o3
    refine Dh (o:=unOp 120) (by kernel_rfl) (by kernel_rfl) (Gv (T:=153) (m:=.tmp 28) (k:=.const (.int .i64 7)) (x:=.tmp 143) (by kernel_rfl) (by kernel_rfl:_=.map (some X.heap.size)) rfl (by kernel_rfl:_=.bool d.named) hrun3) ⟨SB _ hb3,?_⟩
    refine Ay (a':=unFA d p (.map (some X.heap.size)) undef) (listed':=(Ap [1,2,3,4,5,6,7,8,9,10,11,12,13,14,15,16,17,18,19,20,21,22,23,24,25,26,28,29,33,34,35,69,70,71,119,0,27,120])) (by kernel_rfl) (by kernel_rfl) ?_
    generalize X2.putObj X.heap.size o3=X3 at *
    refine wpAnyH_all (rs:=[30]) (by kernel_rfl) (by simp) ?_
    intro i hi
    simp only [List.mem_cons,List.not_mem_nil,or_false] at hi
    subst hi
    refine Ej (o:=unOp 30) (f:=75) (args:=#[.agg #[d.m0,d.m1,d.m2,d.m3,d.m4,d.m5,d.m6,d.m7,d.m8,d.m9,d.m10,d.m11],.agg Ar]) (by kernel_rfl) (by kernel_rfl) (by kernel_rfl) (hSame X3 hb3) (fun w' hb'=>?_)
    have hbb:Below X.heap.size X w':=(hb3).trans (hb'.mono (hb3).size)
    exact⟨SB _ hbb,Ay (by kernel_rfl) (by kernel_rfl) (un_C4 d p z X.heap.size _ X w' Q hsel hQ hp hS hbb nR (hm3.below hb') (by simp) (by intro k v;first|exact Mw d z k v|exact G2 d z k v|exact Fq d z k v|exact K8 d z k v|exact Mv d z k v) H)⟩
  ·refine Ej (o:=unOp 30) (f:=75) (args:=#[.agg #[d.m0,d.m1,d.m2,d.m3,d.m4,d.m5,d.m6,d.m7,d.m8,d.m9,d.m10,d.m11],.agg Ar]) (by kernel_rfl) (by kernel_rfl) (by kernel_rfl) (hSame X1 hb1) (fun w' hb'=>?_)
   have hbb:Below X.heap.size X w':=(hb1).trans (hb'.mono (hb1).size)
   exact⟨SB _ hbb,Ay (by kernel_rfl) (by kernel_rfl) (un_C1 d p z X.heap.size _ X w' Q hsel hQ hp hS hbb nR (hm1.below hb') (by simp) (by intro k v;first|exact Mw d z k v|exact G2 d z k v|exact Fq d z k v|exact K8 d z k v|exact Mv d z k v) H)⟩
  ·obtain⟨o4,hrun4,hm4⟩:=C0 Ey underlying153 hm1 7 (.bool d.named) (by first|rfl|decide)
   have hb4:Below X.heap.size X (X1.putObj X.heap.size o4):=Aq hb1 nR o4
   refine Dh (o:=unOp 120) (by kernel_rfl) (by kernel_rfl) (Gv (T:=153) (m:=.tmp 28) (k:=.const (.int .i64 7)) (x:=.tmp 143) (by kernel_rfl) (by kernel_rfl:_=.map (some X.heap.size)) rfl (by kernel_rfl:_=.bool d.named) hrun4) ⟨SB _ hb4,?_⟩
   refine Ay (a':=unFA d p (.map (some X.heap.size)) undef) (listed':=(Ap [1,2,3,4,5,6,7,8,9,10,11,12,13,14,15,16,17,18,19,20,21,22,23,24,25,26,28,29,33,34,35,69,70,71,119,0,120])) (by kernel_rfl) (by kernel_rfl) ?_
   generalize X1.putObj X.heap.size o4=X4 at *
   refine wpAnyH_all (rs:=[27,30]) (by kernel_rfl) (by simp) ?_
   intro i hi
   simp only [List.mem_cons,List.not_mem_nil,or_false] at hi
   rcases hi with rfl|rfl
   ·obtain⟨o5,hrun5,hm5⟩:=C0 Ey underlying153 hm4 1 (.bool d.yc5) (by first|rfl|decide)
    have hb5:Below X.heap.size X (X4.putObj X.heap.size o5):=Aq hb4 nR o5
    refine Dh (o:=unOp 27) (by kernel_rfl) (by kernel_rfl) (Gv (T:=153) (m:=.tmp 28) (k:=.const (.int .i64 1)) (x:=.tmp 54) (by kernel_rfl) (by kernel_rfl:_=.map (some X.heap.size)) rfl (by kernel_rfl:_=.bool d.yc5) hrun5) ⟨SB _ hb5,?_⟩
    refine Ay (a':=unFA d p (.map (some X.heap.size)) undef) (listed':=(Ap [1,2,3,4,5,6,7,8,9,10,11,12,13,14,15,16,17,18,19,20,21,22,23,24,25,26,28,29,33,34,35,69,70,71,119,0,27,120])) (by kernel_rfl) (by kernel_rfl) ?_
    generalize X4.putObj X.heap.size o5=X5 at *
    refine wpAnyH_all (rs:=[30]) (by kernel_rfl) (by simp) ?_
    intro i hi
    simp only [List.mem_cons,List.not_mem_nil,or_false] at hi
    subst hi
    refine Ej (o:=unOp 30) (f:=75) (args:=#[.agg #[d.m0,d.m1,d.m2,d.m3,d.m4,d.m5,d.m6,d.m7,d.m8,d.m9,d.m10,d.m11],.agg Ar]) (by kernel_rfl) (by kernel_rfl) (by kernel_rfl) (hSame X5 hb5) (fun w' hb'=>?_)
    have hbb:Below X.heap.size X w':=(hb5).trans (hb'.mono (hb5).size)
    exact⟨SB _ hbb,Ay (by kernel_rfl) (by kernel_rfl) (un_C4 d p z X.heap.size _ X w' Q hsel hQ hp hS hbb nR (hm5.below hb') (by simp) (by intro k v;first|exact Mw d z k v|exact G2 d z k v|exact Fq d z k v|exact K8 d z k v|exact Mv d z k v) H)⟩
   ·refine Ej (o:=unOp 30) (f:=75) (args:=#[.agg #[d.m0,d.m1,d.m2,d.m3,d.m4,d.m5,d.m6,d.m7,d.m8,d.m9,d.m10,d.m11],.agg Ar]) (by kernel_rfl) (by kernel_rfl) (by kernel_rfl) (hSame X4 hb4) (fun w' hb'=>?_)
    have hbb:Below X.heap.size X w':=(hb4).trans (hb'.mono (hb4).size)
    exact⟨SB _ hbb,Ay (by kernel_rfl) (by kernel_rfl) (un_C3 d p z X.heap.size _ X w' Q hsel hQ hp hS hbb nR (hm4.below hb') (by simp) (by intro k v;first|exact Mw d z k v|exact G2 d z k v|exact Fq d z k v|exact K8 d z k v|exact Mv d z k v) H)⟩
 ·refine Ej (o:=unOp 30) (f:=75) (args:=#[.agg #[d.m0,d.m1,d.m2,d.m3,d.m4,d.m5,d.m6,d.m7,d.m8,d.m9,d.m10,d.m11],.agg Ar]) (by kernel_rfl) (by kernel_rfl) (by kernel_rfl) (hSame X (Below.refl X.heap.size X)) (fun w' hb'=>?_)
  have hbb:Below X.heap.size X w':=((Below.refl X.heap.size X)).trans (hb'.mono ((Below.refl X.heap.size X)).size)
  exact⟨SB _ hbb,Ay (by kernel_rfl) (by kernel_rfl) (un_C0 d p z  X w' Q hsel hQ hp hS hbb  H)⟩
theorem Ir {P:Program} {T q:Nat} {t:TypeId} {cur cs:Array Value} {w:World} (hsz:(P.info? T).map (·.size)=some cs.size) (hq:w.heap[q]?=some (.cells cur t (0,0))) (hc:cur.size=cs.size) (h1:∀ v∈cs.toList,v.oneCell'=true) :
  (Instr.storeAt T (.pointer (some ⟨q,0,none⟩)) (.agg cs)).run P w=.ok () (w.setRow q cs):=by
 have hst:=run_storeCells_at (P:=P) q 0 t cs.toList 0 cur w hq (by simp;omega) h1
 cases hi:P.info? T with
 | none=>simp [hi] at hsz
 | some i =>
  have his:i.size=cs.size:=by simpa [hi] using hsz
  simp only [Nat.zero_add,List.take_zero,List.nil_append] at hst
  rw [show cur.toList.drop cs.toList.length=[] from by simp [hc],List.append_nil,Array.toArray_toList] at hst
  simp [Instr.storeAt,storeVar,sizeOf,typeInfo,hi,his,Value.cells,Instr.sureAddr,hst]
theorem Ky {P:Program} {o:Oper} {a:Act} {T:TypeId} {x y:Operand} {vx vy:Value} {w w':World} (hop:o.op=.store T x y) (hx:a.eval x=vx) (hy:a.eval y=vy) (hr:(Instr.storeAt T vx vy).run P w=.ok () w'):(execOp a.eval o).run P w=.ok .skip w':=by
 unfold execOp;simp [hop,hx,hy,hr]
theorem It {w:World} {q:Nat} {cur cs:Array Value} {t:TypeId} (hq:w.heap[q]?=some (.cells cur t (0,0))):(w.setRow q cs).heap[q]?=some (.cells cs t (0,0)):=setRow_heap w q cur cs t (0,0) hq
theorem gU {B q:Nat} {w0 w:World} (hb:Below B w0 w) (h:B≤q) (cs:Array Value):Below B w0 (w.setRow q cs):=below_setRow hb h cs
noncomputable def Bq:Array Oper:=((Tryz.f39.body).bind (Cx · 1)).getD #[]
noncomputable def bH (i:Nat):Oper:=Bq.getD i default
def Gq (l:List Nat):Array Bool:=l.foldl (fun a i=>a.setIfInBounds i true) (Array.replicate 25 false)
def dU (d:UnD) (B:Nat) (W:World):Prop:=∀ i,W.cell? ⟨B,i,none⟩=#[d.kd,.int .i64 d.ck,.string ⟨d.ci.toArray⟩,.string ⟨d.ei.toArray⟩,.slice d.an d.nn d.cn,.int .i64 d.cp,d.m0,d.m1,d.m2,d.m3,d.m4,d.m5,d.m6,d.m7,d.m8,d.m9,d.m10,d.m11,.string ⟨d.li.toArray⟩,.slice d.am d.nm d.cm,.slice d.ap d.np d.cq,.int .i64 d.lq,.int .i64 d.lu,.int .i64 d.lf,.int .i64 d.lt,.string ⟨d.h0.toArray⟩,.string ⟨d.h1.toArray⟩,.string ⟨d.h2.toArray⟩,.string ⟨d.h3.toArray⟩,.string ⟨d.h4.toArray⟩,.slice d.aj d.nj d.cj,.int .i64 d.h6,.int .i64 d.h7,.int .i64 d.h8,.int .i64 d.h9,.string ⟨d.id.toArray⟩,.int .i64 d.n][i]?
theorem ld1_change {d:UnD} {B:Nat} {W:World} (h:dU d B W):(Instr.loadAt 58 (.pointer (some ⟨B,1,none⟩))).run prog W=.ok (.agg #[.int .i64 d.ck,.string ⟨d.ci.toArray⟩,.string ⟨d.ei.toArray⟩,.slice d.an d.nn d.cn,.int .i64 d.cp]) W:=by unfold dU at h;go_simp
theorem ld1_measure {d:UnD} {B:Nat} {W:World} (h:dU d B W):(Instr.loadAt 63 (.pointer (some ⟨B,6,none⟩))).run prog W=.ok (.agg #[d.m0,d.m1,d.m2,d.m3,d.m4,d.m5,d.m6,d.m7,d.m8,d.m9,d.m10,d.m11]) W:=by unfold dU at h;go_simp
theorem ld1_licence {d:UnD} {B:Nat} {W:World} (h:dU d B W):(Instr.loadAt 65 (.pointer (some ⟨B,18,none⟩))).run prog W=.ok (.agg #[.string ⟨d.li.toArray⟩,.slice d.am d.nm d.cm,.slice d.ap d.np d.cq,.int .i64 d.lq,.int .i64 d.lu,.int .i64 d.lf,.int .i64 d.lt]) W:=by unfold dU at h;go_simp
theorem ld1_holding {d:UnD} {B:Nat} {W:World} (h:dU d B W):(Instr.loadAt 53 (.pointer (some ⟨B,25,none⟩))).run prog W=.ok (.agg #[.string ⟨d.h0.toArray⟩,.string ⟨d.h1.toArray⟩,.string ⟨d.h2.toArray⟩,.string ⟨d.h3.toArray⟩,.string ⟨d.h4.toArray⟩,.slice d.aj d.nj d.cj,.int .i64 d.h6,.int .i64 d.h7,.int .i64 d.h8,.int .i64 d.h9]) W:=by unfold dU at h;go_simp
def un1T (d:UnD) (B:Nat):Nat→Value
 | 12=>.pointer (some ⟨B,1,none⟩)
 | 13=>.agg #[.int .i64 d.ck,.string ⟨d.ci.toArray⟩,.string ⟨d.ei.toArray⟩,.slice d.an d.nn d.cn,.int .i64 d.cp]
 | 14=>.pointer (some ⟨B,6,none⟩)
 | 15=>.agg #[d.m0,d.m1,d.m2,d.m3,d.m4,d.m5,d.m6,d.m7,d.m8,d.m9,d.m10,d.m11]
 | 16=>.pointer (some ⟨B,18,none⟩)
 | 17=>.agg #[.string ⟨d.li.toArray⟩,.slice d.am d.nm d.cm,.slice d.ap d.np d.cq,.int .i64 d.lq,.int .i64 d.lu,.int .i64 d.lf,.int .i64 d.lt]
 | 18=>.pointer (some ⟨B,25,none⟩)
 | 19=>.agg #[.string ⟨d.h0.toArray⟩,.string ⟨d.h1.toArray⟩,.string ⟨d.h2.toArray⟩,.string ⟨d.h3.toArray⟩,.string ⟨d.h4.toArray⟩,.slice d.aj d.nj d.cj,.int .i64 d.h6,.int .i64 d.h7,.int .i64 d.h8,.int .i64 d.h9]
 | 20=>.pointer (some ⟨B,35,none⟩)
 | 21=>.string ⟨d.id.toArray⟩
 | 22=>.bool (d.id != [])
 | 23=>.bool (d.id != [])
 | 24=>(if (d.id != [])=true then undef else .pointer (some ⟨B,36,none⟩))
 | 25=>(if (d.id != [])=true then undef else .int .i64 d.n)
 | 26=>(if (d.id != [])=true then undef else .bool (d.n != 0))
 | 27=>.bool d.named
 | _=>undef
def un1F0 (d:UnD) (B:Nat):Act:={ tmps:=#[.agg #[d.kd,.int .i64 d.ck,.string ⟨d.ci.toArray⟩,.string ⟨d.ei.toArray⟩,.slice d.an d.nn d.cn,.int .i64 d.cp,d.m0,d.m1,d.m2,d.m3,d.m4,d.m5,d.m6,d.m7,d.m8,d.m9,d.m10,d.m11,.string ⟨d.li.toArray⟩,.slice d.am d.nm d.cm,.slice d.ap d.np d.cq,.int .i64 d.lq,.int .i64 d.lu,.int .i64 d.lf,.int .i64 d.lt,.string ⟨d.h0.toArray⟩,.string ⟨d.h1.toArray⟩,.string ⟨d.h2.toArray⟩,.string ⟨d.h3.toArray⟩,.string ⟨d.h4.toArray⟩,.slice d.aj d.nj d.cj,.int .i64 d.h6,.int .i64 d.h7,.int .i64 d.h8,.int .i64 d.h9,.string ⟨d.id.toArray⟩,.int .i64 d.n],.pointer (some ⟨B,0,none⟩),.bool false,undef,undef,undef,undef,undef,undef,undef,undef,undef,undef,undef,undef,undef,undef,undef,undef,undef,undef,undef,undef,undef,undef,undef,undef,undef,undef,undef,undef,undef,undef,undef,undef,undef,undef,undef,undef,undef,undef,undef,undef,undef,undef,undef,undef,undef,undef,undef,undef,undef,undef,undef,undef,undef,undef,undef,undef,undef,undef,undef,undef,undef,undef,undef,undef,undef,undef,undef,undef,undef,undef,undef,undef,undef,undef,undef,undef,undef,undef,undef,undef,undef,undef,undef,undef,undef,undef,undef,undef,undef,undef,undef,undef,undef,undef,undef,undef,undef,undef,undef,undef,undef,undef,undef,undef,undef,undef,undef,undef,undef,undef,undef,undef,undef,undef,undef,undef,undef,undef,undef,undef,undef,undef,undef,undef,undef,undef,undef,undef,undef,undef,undef,undef,undef,undef,undef,undef,undef,undef,undef,undef,undef,undef,undef,undef,undef,undef,undef,undef,undef,undef,undef,undef,undef,undef,undef,undef,undef,undef,undef,undef,undef,undef,undef,undef,undef],defers:=[] }
def un1G (d:UnD) (B:Nat) (v3 v4 v5 v6 v7:Value):Act:={ tmps:=#[.agg #[d.kd,.int .i64 d.ck,.string ⟨d.ci.toArray⟩,.string ⟨d.ei.toArray⟩,.slice d.an d.nn d.cn,.int .i64 d.cp,d.m0,d.m1,d.m2,d.m3,d.m4,d.m5,d.m6,d.m7,d.m8,d.m9,d.m10,d.m11,.string ⟨d.li.toArray⟩,.slice d.am d.nm d.cm,.slice d.ap d.np d.cq,.int .i64 d.lq,.int .i64 d.lu,.int .i64 d.lf,.int .i64 d.lt,.string ⟨d.h0.toArray⟩,.string ⟨d.h1.toArray⟩,.string ⟨d.h2.toArray⟩,.string ⟨d.h3.toArray⟩,.string ⟨d.h4.toArray⟩,.slice d.aj d.nj d.cj,.int .i64 d.h6,.int .i64 d.h7,.int .i64 d.h8,.int .i64 d.h9,.string ⟨d.id.toArray⟩,.int .i64 d.n],.pointer (some ⟨B,0,none⟩),.bool false,v3,v4,v5,v6,v7,undef,undef,undef,undef,.pointer (some ⟨B,1,none⟩),.agg #[.int .i64 d.ck,.string ⟨d.ci.toArray⟩,.string ⟨d.ei.toArray⟩,.slice d.an d.nn d.cn,.int .i64 d.cp],.pointer (some ⟨B,6,none⟩),.agg #[d.m0,d.m1,d.m2,d.m3,d.m4,d.m5,d.m6,d.m7,d.m8,d.m9,d.m10,d.m11],.pointer (some ⟨B,18,none⟩),.agg #[.string ⟨d.li.toArray⟩,.slice d.am d.nm d.cm,.slice d.ap d.np d.cq,.int .i64 d.lq,.int .i64 d.lu,.int .i64 d.lf,.int .i64 d.lt],.pointer (some ⟨B,25,none⟩),.agg #[.string ⟨d.h0.toArray⟩,.string ⟨d.h1.toArray⟩,.string ⟨d.h2.toArray⟩,.string ⟨d.h3.toArray⟩,.string ⟨d.h4.toArray⟩,.slice d.aj d.nj d.cj,.int .i64 d.h6,.int .i64 d.h7,.int .i64 d.h8,.int .i64 d.h9],.pointer (some ⟨B,35,none⟩),.string ⟨d.id.toArray⟩,.bool (d.id != []),.bool (d.id != []),(if (d.id != [])=true then undef else .pointer (some ⟨B,36,none⟩)),(if (d.id != [])=true then undef else .int .i64 d.n),(if (d.id != [])=true then undef else .bool (d.n != 0)),.bool d.named,undef,undef,undef,undef,undef,undef,undef,undef,undef,undef,undef,undef,undef,undef,undef,undef,undef,undef,undef,undef,undef,undef,undef,undef,undef,undef,undef,undef,undef,undef,undef,undef,undef,undef,undef,undef,undef,undef,undef,undef,undef,undef,undef,undef,undef,undef,undef,undef,undef,undef,undef,undef,undef,undef,undef,undef,undef,undef,undef,undef,undef,undef,undef,undef,undef,undef,undef,undef,undef,undef,undef,undef,undef,undef,undef,undef,undef,undef,undef,undef,undef,undef,undef,undef,undef,undef,undef,undef,undef,undef,undef,undef,undef,undef,undef,undef,undef,undef,undef,undef,undef,undef,undef,undef,undef,undef,undef,undef,undef,undef,undef,undef,undef,undef,undef,undef,undef,undef,undef,undef,undef,undef,undef,undef,undef,undef,undef,undef,undef,undef,undef,undef,undef,undef,undef,undef,undef,undef,undef,undef],defers:=[] }
theorem un1_A (d:UnD) (B:Nat) (X:World) (Q:Exit→Act→World→Prop) (hsel:Region.noSelect Bq=true) (hQ:∀ c (a:Act) w d v,Q (.panic c) (a.put d v) w→Q (.panic c) a w) (hnamed:d.named=(d.id != []||d.n != 0)) (hHeld:dU d B X)
  (H:wpAnyH prog .any Bq Q (dU d B) 9 (Gq [0,1,2,3,4,5,6,7,8,9,10,11,12,13,14,15]) (un1G d B undef undef undef undef undef) X):wpAnyH prog .any Bq Q (dU d B) 25 (Gq []) (un1F0 d B) X:=by
 refine wpAnyH_take (i:=0) (oi:=bH 0) (v:=.pointer (some ⟨B,1,none⟩)) (by kernel_rfl) hsel (by kernel_rfl) (by kernel_rfl) (fun _ _ _ h=>hQ _ _ _ _ _ h) (Ac (by kernel_rfl) fun W hS=>A5 (T:=67) (x:=.tmp 1) (f:=1) (by kernel_rfl) (by kernel_rfl:_=.pointer (some ⟨B,0,none⟩)) (by kernel_rfl)) hHeld ?_
 refine wpAnyH_take (i:=1) (oi:=bH 1) (v:=.agg #[.int .i64 d.ck,.string ⟨d.ci.toArray⟩,.string ⟨d.ei.toArray⟩,.slice d.an d.nn d.cn,.int .i64 d.cp]) (by kernel_rfl) hsel (by kernel_rfl) (by kernel_rfl) (fun _ _ _ h=>hQ _ _ _ _ _ h) (Ac (by kernel_rfl) fun W hS=>Be (T:=58) (x:=.tmp 12) (by kernel_rfl) (by kernel_rfl:_=.pointer (some ⟨B,1,none⟩)) (ld1_change hS)) hHeld ?_
 refine wpAnyH_take (i:=2) (oi:=bH 2) (v:=.pointer (some ⟨B,6,none⟩)) (by kernel_rfl) hsel (by kernel_rfl) (by kernel_rfl) (fun _ _ _ h=>hQ _ _ _ _ _ h) (Ac (by kernel_rfl) fun W hS=>A5 (T:=67) (x:=.tmp 1) (f:=2) (by kernel_rfl) (by kernel_rfl:_=.pointer (some ⟨B,0,none⟩)) (by kernel_rfl)) hHeld ?_
 refine wpAnyH_take (i:=3) (oi:=bH 3) (v:=.agg #[d.m0,d.m1,d.m2,d.m3,d.m4,d.m5,d.m6,d.m7,d.m8,d.m9,d.m10,d.m11]) (by kernel_rfl) hsel (by kernel_rfl) (by kernel_rfl) (fun _ _ _ h=>hQ _ _ _ _ _ h) (Ac (by kernel_rfl) fun W hS=>Be (T:=63) (x:=.tmp 14) (by kernel_rfl) (by kernel_rfl:_=.pointer (some ⟨B,6,none⟩)) (ld1_measure hS)) hHeld ?_
 refine wpAnyH_take (i:=4) (oi:=bH 4) (v:=.pointer (some ⟨B,18,none⟩)) (by kernel_rfl) hsel (by kernel_rfl) (by kernel_rfl) (fun _ _ _ h=>hQ _ _ _ _ _ h) (Ac (by kernel_rfl) fun W hS=>A5 (T:=67) (x:=.tmp 1) (f:=3) (by kernel_rfl) (by kernel_rfl:_=.pointer (some ⟨B,0,none⟩)) (by kernel_rfl)) hHeld ?_
 refine wpAnyH_take (i:=5) (oi:=bH 5) (v:=.agg #[.string ⟨d.li.toArray⟩,.slice d.am d.nm d.cm,.slice d.ap d.np d.cq,.int .i64 d.lq,.int .i64 d.lu,.int .i64 d.lf,.int .i64 d.lt]) (by kernel_rfl) hsel (by kernel_rfl) (by kernel_rfl) (fun _ _ _ h=>hQ _ _ _ _ _ h) (Ac (by kernel_rfl) fun W hS=>Be (T:=65) (x:=.tmp 16) (by kernel_rfl) (by kernel_rfl:_=.pointer (some ⟨B,18,none⟩)) (ld1_licence hS)) hHeld ?_
 refine wpAnyH_take (i:=6) (oi:=bH 6) (v:=.pointer (some ⟨B,25,none⟩)) (by kernel_rfl) hsel (by kernel_rfl) (by kernel_rfl) (fun _ _ _ h=>hQ _ _ _ _ _ h) (Ac (by kernel_rfl) fun W hS=>A5 (T:=67) (x:=.tmp 1) (f:=4) (by kernel_rfl) (by kernel_rfl:_=.pointer (some ⟨B,0,none⟩)) (by kernel_rfl)) hHeld ?_
 refine wpAnyH_take (i:=7) (oi:=bH 7) (v:=.agg #[.string ⟨d.h0.toArray⟩,.string ⟨d.h1.toArray⟩,.string ⟨d.h2.toArray⟩,.string ⟨d.h3.toArray⟩,.string ⟨d.h4.toArray⟩,.slice d.aj d.nj d.cj,.int .i64 d.h6,.int .i64 d.h7,.int .i64 d.h8,.int .i64 d.h9]) (by kernel_rfl) hsel (by kernel_rfl) (by kernel_rfl) (fun _ _ _ h=>hQ _ _ _ _ _ h) (Ac (by kernel_rfl) fun W hS=>Be (T:=53) (x:=.tmp 18) (by kernel_rfl) (by kernel_rfl:_=.pointer (some ⟨B,25,none⟩)) (ld1_holding hS)) hHeld ?_
 refine wpAnyH_take (i:=8) (oi:=bH 8) (v:=.pointer (some ⟨B,35,none⟩)) (by kernel_rfl) hsel (by kernel_rfl) (by kernel_rfl) (fun _ _ _ h=>hQ _ _ _ _ _ h) (Ac (by kernel_rfl) fun W hS=>A5 (T:=67) (x:=.tmp 1) (f:=5) (by kernel_rfl) (by kernel_rfl:_=.pointer (some ⟨B,0,none⟩)) (by kernel_rfl)) hHeld ?_
 refine wpAnyH_take (i:=9) (oi:=bH 9) (v:=.string ⟨d.id.toArray⟩) (by kernel_rfl) hsel (by kernel_rfl) (by kernel_rfl) (fun _ _ _ h=>hQ _ _ _ _ _ h) (Ac (by kernel_rfl) fun W hS=>Be (T:=9) (x:=.tmp 20) (by kernel_rfl) (by kernel_rfl:_=.pointer (some ⟨B,35,none⟩)) (Ec (hS 35))) hHeld ?_
 refine wpAnyH_take (i:=10) (oi:=bH 10) (v:=.bool (d.id != [])) (by kernel_rfl) hsel (by kernel_rfl) (by kernel_rfl) (fun _ _ _ h=>hQ _ _ _ _ _ h) (Ac (by kernel_rfl) fun W hS=>Ce (op:=.neq) (T:=9) (T':=9) (x:=.tmp 21) (y:=.const (.string ⟨#[]⟩)) (by kernel_rfl) (by kernel_rfl:_=.string ⟨d.id.toArray⟩) rfl (by kernel_rfl) (Ea d.id W)) hHeld ?_
 refine wpAnyH_take (i:=11) (oi:=bH 11) (v:=.bool (d.id != [])) (by kernel_rfl) hsel (by kernel_rfl) (by kernel_rfl) (fun _ _ _ h=>hQ _ _ _ _ _ h) (Ac (by kernel_rfl) fun W hS=>Bv (x:=.tmp 22) (by kernel_rfl) (by kernel_rfl)) hHeld ?_
 refine wpAnyH_take (i:=12) (oi:=bH 12) (v:=(if (d.id != [])=true then undef else .pointer (some ⟨B,36,none⟩))) (by kernel_rfl) hsel (by kernel_rfl) (by kernel_rfl) (fun _ _ _ h=>hQ _ _ _ _ _ h) (Ae (y:=(d.id != [])) (by kernel_rfl) fun e W hS=>A5 (T:=67) (x:=.tmp 1) (f:=6) (by kernel_rfl) (by kernel_rfl:_=.pointer (some ⟨B,0,none⟩)) (by kernel_rfl)) hHeld ?_
 refine wpAnyH_take (i:=13) (oi:=bH 13) (v:=(if (d.id != [])=true then undef else .int .i64 d.n)) (by kernel_rfl) hsel (by kernel_rfl) (by kernel_rfl) (fun _ _ _ h=>hQ _ _ _ _ _ h) (Ae (y:=(d.id != [])) (by kernel_rfl) fun e W hS=>Be (T:=3) (x:=.tmp 24) (by kernel_rfl) (hx:=(by kernel_rfl:_=(if (d.id != [])=true then undef else .pointer (some ⟨B,36,none⟩))).trans (by rw [e];first|done|rfl)) (C9 (hS 36))) hHeld ?_
 refine wpAnyH_take (i:=14) (oi:=bH 14) (v:=(if (d.id != [])=true then undef else .bool (d.n != 0))) (by kernel_rfl) hsel (by kernel_rfl) (by kernel_rfl) (fun _ _ _ h=>hQ _ _ _ _ _ h) (Ae (y:=(d.id != [])) (by kernel_rfl) fun e W hS=>Ce (op:=.neq) (T:=3) (T':=3) (x:=.tmp 25) (y:=.const (.int .i64 0)) (by kernel_rfl) (hx:=(by kernel_rfl:_=(if (d.id != [])=true then undef else .int .i64 d.n)).trans (by rw [e];first|done|rfl)) rfl (by kernel_rfl) (C8 d.n W)) hHeld ?_
 refine wpAnyH_take (i:=15) (oi:=bH 15) (v:=.bool d.named) (by kernel_rfl) hsel (by kernel_rfl) (by kernel_rfl) (fun _ _ _ h=>hQ _ _ _ _ _ h) (Ac (by kernel_rfl) fun W hS=>(Cb (c:=.tmp 23) (x:=.const (.bool true)) (y:=.tmp 26) (b:=(d.id != [])) (by kernel_rfl) (by kernel_rfl) (by kernel_rfl:_=.bool true) (by kernel_rfl:_=(if (d.id != [])=true then undef else .bool (d.n != 0)))).trans (by rw [hnamed];cases (d.id != []) <;> rfl)) hHeld ?_
 exact Ay (by kernel_rfl) (by kernel_rfl) H
theorem un1G_eq (d:UnD) (B p3 p4 p5 p6:Nat):un1G d B (.pointer (some ⟨p3,0,none⟩)) (.pointer (some ⟨p4,0,none⟩)) (.pointer (some ⟨p5,0,none⟩)) (.pointer (some ⟨p6,0,none⟩)) (.bool d.named)=unF0 d ⟨p3,p4,p5,p6,B,un1T d B⟩:=by kernel_rfl
def zAgg (P:Program) (T:TypeId):Array Value:=match (P.info? T).bind (·.zero) with|some (.agg Z)=>Z|_=>#[]
theorem Eo {P:Program} {T:TypeId} {Z:Array Value} {w:World} (hz:(P.info? T).bind (·.zero)=some (.agg Z)) :
  (Instr.alloc T true (.tuple #[])).run P w=.ok (.pointer (some ⟨w.heap.size,0,none⟩)) (w.alloc (.cells Z T (0,0))):=by
 cases hi:P.info? T with
 | none=>simp [hi] at hz
 | some i =>
  have h:i.zero=some (.agg Z):=by simpa [hi] using hz
  simp [Instr.alloc,zeroValue,typeInfo,hi,h,newVar,Value.cells,newRow]
theorem Kz {P:Program} {o:Oper} {a:Act} {T:TypeId} {w w':World} {v:Value} (hop:o.op=.alloc T) (hr:(Instr.alloc T true (.tuple #[])).run P w=.ok v w'):(execOp a.eval o).run P w=.ok (.value v) w':=by
 unfold execOp;simp [hop,hr]
theorem Gy (w:World) (o:Obj):(w.alloc o).heap[w.heap.size]?=some o:=by simp only [World.alloc,Array.getElem?_push,if_true]
def Blk (X w:World) (al st:Prop) (T:TypeId) (C:Array Value) (v:Value):Prop:=al→∃ q cur,v=.pointer (some ⟨q,0,none⟩)∧X.heap.size≤q∧w.heap[q]?=some (.cells cur T (0,0))∧cur.size=C.size∧(st→cur=C)
theorem Blk.mono {X w:World} {al st al' st':Prop} {T:TypeId} {C:Array Value} {v:Value} (h:Blk X w al st T C v) (ha:al'→al) (hs:st'→st):Blk X w al' st' T C v:=fun h'=>by
 obtain⟨q,cur,hv,hq,hc,hz,hl⟩:=h (ha h')
 exact⟨q,cur,hv,hq,hc,hz,fun h=>hl (hs h)⟩
theorem Blk.alloc {X w:World} {al st:Prop} {T:TypeId} {C:Array Value} {v:Value} (h:Blk X w al st T C v) (o:Obj):Blk X (w.alloc o) al st T C v:=fun ha=>by
 obtain⟨q,cur,hv,hq,hc,hs,hl⟩:=h ha
 refine⟨q,cur,hv,hq,?_,hs,hl⟩
 have hlt:q<w.heap.size:=(aZ hc)
 simp only [World.alloc,Array.getElem?_push]
 rw [if_neg (by omega)];exact hc
theorem Blk.row {X w:World} {al st:Prop} {T U:TypeId} {C cs cur':Array Value} {v:Value} {q':Nat} (h:Blk X w al st T C v) (hne:T≠U) (hq':w.heap[q']?=some (.cells cur' U (0,0))):Blk X (w.setRow q' cs) al st T C v:=fun ha=>by
 obtain⟨q,cur,hv,hq,hc,hs,hl⟩:=h ha
 refine⟨q,cur,hv,hq,?_,hs,hl⟩
 have:q≠q':=fun e=>by subst e;rw [hc] at hq';simp only [Option.some.injEq,Obj.cells.injEq] at hq';exact hne hq'.2.1
 rw [setRow_other w _ _ _ this];exact hc
def unCH (d:UnD):Array Value:=#[.int .i64 d.ck,.string ⟨d.ci.toArray⟩,.string ⟨d.ei.toArray⟩,.slice d.an d.nn d.cn,.int .i64 d.cp]
def unME (d:UnD):Array Value:=#[d.m0,d.m1,d.m2,d.m3,d.m4,d.m5,d.m6,d.m7,d.m8,d.m9,d.m10,d.m11]
def unLI (d:UnD):Array Value:=#[.string ⟨d.li.toArray⟩,.slice d.am d.nm d.cm,.slice d.ap d.np d.cq,.int .i64 d.lq,.int .i64 d.lu,.int .i64 d.lf,.int .i64 d.lt]
def unHO (d:UnD):Array Value:=#[.string ⟨d.h0.toArray⟩,.string ⟨d.h1.toArray⟩,.string ⟨d.h2.toArray⟩,.string ⟨d.h3.toArray⟩,.string ⟨d.h4.toArray⟩,.slice d.aj d.nj d.cj,.int .i64 d.h6,.int .i64 d.h7,.int .i64 d.h8,.int .i64 d.h9]
structure iM (d:UnD) (B:Nat) (X:World) (listed:Array Bool) (a:Act) (w:World):Prop where
 size:listed.size=25
 quiet:∀ i,i<16→listed.getD i false=true
 below:Below X.heap.size X w
 s0:listed.getD 20 false=true→listed.getD 16 false=true
 s1:listed.getD 21 false=true→listed.getD 17 false=true
 s2:listed.getD 22 false=true→listed.getD 18 false=true
 s3:listed.getD 23 false=true→listed.getD 19 false=true
 frame:∃ v3 v4 v5 v6 v7,a=un1G d B v3 v4 v5 v6 v7∧Blk X w (listed.getD 16 false=true) (listed.getD 20 false=true) 58 (unCH d) v3∧Blk X w (listed.getD 17 false=true) (listed.getD 21 false=true) 63 (unME d) v4∧Blk X w (listed.getD 18 false=true) (listed.getD 22 false=true) 65 (unLI d) v5∧Blk X w (listed.getD 19 false=true) (listed.getD 23 false=true) 53 (unHO d) v6∧(listed.getD 24 false=true→v7=.bool d.named)
theorem dU.below {d:UnD} {B K:Nat} {w w':World} (h:dU d B w) (hb:Below K w w') (h3:B<K):dU d B w':=fun i=>(hb.cell (p:=⟨B,i,none⟩) h3).trans (h i)
theorem iw {ops:Array Oper} {l:Array Bool} {j i:Nat} (h:j∈Region.ready .any ops l) (hw:Region.waitsFor .any ops j i=true):l.getD i false=true:=by
 obtain⟨_,o,ho,hall⟩:=mem_ready.1 h
 obtain⟨oj,hj,e,he,hb,hon⟩:=Region.waitsFor_spec hw
 obtain rfl:oj=o:=Option.some.inj (hj.symm.trans ho)
 rw [← hon]
 exact hall e he hb
theorem un1G_put3 (d:UnD) (B:Nat) (v3 v4 v5 v6 v7 u:Value):(un1G d B v3 v4 v5 v6 v7).put (some 3) u=un1G d B u v4 v5 v6 v7:=by kernel_rfl
theorem un1G_put4 (d:UnD) (B:Nat) (v3 v4 v5 v6 v7 u:Value):(un1G d B v3 v4 v5 v6 v7).put (some 4) u=un1G d B v3 u v5 v6 v7:=by kernel_rfl
theorem un1G_put5 (d:UnD) (B:Nat) (v3 v4 v5 v6 v7 u:Value):(un1G d B v3 v4 v5 v6 v7).put (some 5) u=un1G d B v3 v4 u v6 v7:=by kernel_rfl
theorem un1G_put6 (d:UnD) (B:Nat) (v3 v4 v5 v6 v7 u:Value):(un1G d B v3 v4 v5 v6 v7).put (some 6) u=un1G d B v3 v4 v5 u v7:=by kernel_rfl
theorem un1G_put7 (d:UnD) (B:Nat) (v3 v4 v5 v6 v7 u:Value):(un1G d B v3 v4 v5 v6 v7).put (some 7) u=un1G d B v3 v4 v5 v6 u:=by kernel_rfl
theorem un1_al0 {d:UnD} {B:Nat} {X:World} {Q:Exit→Act→World→Prop} {listed:Array Bool} {a:Act} {w:World} (hB:B<X.heap.size) (hS:dU d B X) (hr:16∈Region.ready .any Bq listed) (hJ:iM d B X listed a w):wpOp prog Bq Q 16 (fun a' w'=>dU d B w'∧iM d B X (listed.setIfInBounds 16 true) a' w') a w:=by
 have hun:listed.getD 16 false=false:=getD_both (mem_ready.1 hr).1
 obtain⟨v3,v4,v5,v6,v7,rfl,b3,b4,b5,b6,b7⟩:=hJ.frame
 have hb':=hJ.below.alloc hJ.below.size (.cells (zAgg prog 58) 58 (0,0))
 refine Cu (o:=bH 16) (v:=.pointer (some ⟨w.heap.size,0,none⟩)) (w':=w.alloc (.cells (zAgg prog 58) 58 (0,0))) (by kernel_rfl) (by kernel_rfl) (Kz (T:=58) (by kernel_rfl) (Eo (by kernel_rfl))) ⟨hS.below hb' hB,?_⟩
 rw [show (bH 16).dst=some 3 from by kernel_rfl,un1G_put3]
 exact⟨by simp [hJ.size],fun k hk=>getD_set_true (hJ.quiet k hk),hb',fun _=>bY (by rw [hJ.size];decide),fun h=>getD_set_true (hJ.s1 (Ad h (by decide))),fun h=>getD_set_true (hJ.s2 (Ad h (by decide))),fun h=>getD_set_true (hJ.s3 (Ad h (by decide))),_,_,_,_,_,rfl,fun _=>⟨w.heap.size,zAgg prog 58,rfl,hJ.below.size,Gy w _,by kernel_rfl,fun h=>(by have:=hJ.s0 (Ad h (by decide));rw [hun] at this;cases this)⟩,(b4.alloc _).mono (fun h=>Ad h (by decide)) (fun h=>Ad h (by decide)),(b5.alloc _).mono (fun h=>Ad h (by decide)) (fun h=>Ad h (by decide)),(b6.alloc _).mono (fun h=>Ad h (by decide)) (fun h=>Ad h (by decide)),fun h=>b7 (Ad h (by decide))⟩
theorem un1_al1 {d:UnD} {B:Nat} {X:World} {Q:Exit→Act→World→Prop} {listed:Array Bool} {a:Act} {w:World} (hB:B<X.heap.size) (hS:dU d B X) (hr:17∈Region.ready .any Bq listed) (hJ:iM d B X listed a w):wpOp prog Bq Q 17 (fun a' w'=>dU d B w'∧iM d B X (listed.setIfInBounds 17 true) a' w') a w:=by
 have hun:listed.getD 17 false=false:=getD_both (mem_ready.1 hr).1
 obtain⟨v3,v4,v5,v6,v7,rfl,b3,b4,b5,b6,b7⟩:=hJ.frame
 have hb':=hJ.below.alloc hJ.below.size (.cells (zAgg prog 63) 63 (0,0))
 refine Cu (o:=bH 17) (v:=.pointer (some ⟨w.heap.size,0,none⟩)) (w':=w.alloc (.cells (zAgg prog 63) 63 (0,0))) (by kernel_rfl) (by kernel_rfl) (Kz (T:=63) (by kernel_rfl) (Eo (by kernel_rfl))) ⟨hS.below hb' hB,?_⟩
 rw [show (bH 17).dst=some 4 from by kernel_rfl,un1G_put4]
 exact⟨by simp [hJ.size],fun k hk=>getD_set_true (hJ.quiet k hk),hb',fun h=>getD_set_true (hJ.s0 (Ad h (by decide))),fun _=>bY (by rw [hJ.size];decide),fun h=>getD_set_true (hJ.s2 (Ad h (by decide))),fun h=>getD_set_true (hJ.s3 (Ad h (by decide))),_,_,_,_,_,rfl,(b3.alloc _).mono (fun h=>Ad h (by decide)) (fun h=>Ad h (by decide)),fun _=>⟨w.heap.size,zAgg prog 63,rfl,hJ.below.size,Gy w _,by kernel_rfl,fun h=>(by have:=hJ.s1 (Ad h (by decide));rw [hun] at this;cases this)⟩,(b5.alloc _).mono (fun h=>Ad h (by decide)) (fun h=>Ad h (by decide)),(b6.alloc _).mono (fun h=>Ad h (by decide)) (fun h=>Ad h (by decide)),fun h=>b7 (Ad h (by decide))⟩
theorem un1_al2 {d:UnD} {B:Nat} {X:World} {Q:Exit→Act→World→Prop} {listed:Array Bool} {a:Act} {w:World} (hB:B<X.heap.size) (hS:dU d B X) (hr:18∈Region.ready .any Bq listed) (hJ:iM d B X listed a w):wpOp prog Bq Q 18 (fun a' w'=>dU d B w'∧iM d B X (listed.setIfInBounds 18 true) a' w') a w:=by
 have hun:listed.getD 18 false=false:=getD_both (mem_ready.1 hr).1
 obtain⟨v3,v4,v5,v6,v7,rfl,b3,b4,b5,b6,b7⟩:=hJ.frame
 have hb':=hJ.below.alloc hJ.below.size (.cells (zAgg prog 65) 65 (0,0))
 refine Cu (o:=bH 18) (v:=.pointer (some ⟨w.heap.size,0,none⟩)) (w':=w.alloc (.cells (zAgg prog 65) 65 (0,0))) (by kernel_rfl) (by kernel_rfl) (Kz (T:=65) (by kernel_rfl) (Eo (by kernel_rfl))) ⟨hS.below hb' hB,?_⟩
 rw [show (bH 18).dst=some 5 from by kernel_rfl,un1G_put5]
 exact⟨by simp [hJ.size],fun k hk=>getD_set_true (hJ.quiet k hk),hb',fun h=>getD_set_true (hJ.s0 (Ad h (by decide))),fun h=>getD_set_true (hJ.s1 (Ad h (by decide))),fun _=>bY (by rw [hJ.size];decide),fun h=>getD_set_true (hJ.s3 (Ad h (by decide))),_,_,_,_,_,rfl,(b3.alloc _).mono (fun h=>Ad h (by decide)) (fun h=>Ad h (by decide)),(b4.alloc _).mono (fun h=>Ad h (by decide)) (fun h=>Ad h (by decide)),fun _=>⟨w.heap.size,zAgg prog 65,rfl,hJ.below.size,Gy w _,by kernel_rfl,fun h=>(by have:=hJ.s2 (Ad h (by decide));rw [hun] at this;cases this)⟩,(b6.alloc _).mono (fun h=>Ad h (by decide)) (fun h=>Ad h (by decide)),fun h=>b7 (Ad h (by decide))⟩
theorem un1_al3 {d:UnD} {B:Nat} {X:World} {Q:Exit→Act→World→Prop} {listed:Array Bool} {a:Act} {w:World} (hB:B<X.heap.size) (hS:dU d B X) (hr:19∈Region.ready .any Bq listed) (hJ:iM d B X listed a w):wpOp prog Bq Q 19 (fun a' w'=>dU d B w'∧iM d B X (listed.setIfInBounds 19 true) a' w') a w:=by
 have hun:listed.getD 19 false=false:=getD_both (mem_ready.1 hr).1
 obtain⟨v3,v4,v5,v6,v7,rfl,b3,b4,b5,b6,b7⟩:=hJ.frame
 have hb':=hJ.below.alloc hJ.below.size (.cells (zAgg prog 53) 53 (0,0))
 refine Cu (o:=bH 19) (v:=.pointer (some ⟨w.heap.size,0,none⟩)) (w':=w.alloc (.cells (zAgg prog 53) 53 (0,0))) (by kernel_rfl) (by kernel_rfl) (Kz (T:=53) (by kernel_rfl) (Eo (by kernel_rfl))) ⟨hS.below hb' hB,?_⟩
 rw [show (bH 19).dst=some 6 from by kernel_rfl,un1G_put6]
 exact⟨by simp [hJ.size],fun k hk=>getD_set_true (hJ.quiet k hk),hb',fun h=>getD_set_true (hJ.s0 (Ad h (by decide))),fun h=>getD_set_true (hJ.s1 (Ad h (by decide))),fun h=>getD_set_true (hJ.s2 (Ad h (by decide))),fun _=>bY (by rw [hJ.size];decide),_,_,_,_,_,rfl,(b3.alloc _).mono (fun h=>Ad h (by decide)) (fun h=>Ad h (by decide)),(b4.alloc _).mono (fun h=>Ad h (by decide)) (fun h=>Ad h (by decide)),(b5.alloc _).mono (fun h=>Ad h (by decide)) (fun h=>Ad h (by decide)),fun _=>⟨w.heap.size,zAgg prog 53,rfl,hJ.below.size,Gy w _,by kernel_rfl,fun h=>(by have:=hJ.s3 (Ad h (by decide));rw [hun] at this;cases this)⟩,fun h=>b7 (Ad h (by decide))⟩
theorem un1_st0 {d:UnD} {B:Nat} {X:World} {Q:Exit→Act→World→Prop} {listed:Array Bool} {a:Act} {w:World} (hB:B<X.heap.size) (hS:dU d B X) (hr:20∈Region.ready .any Bq listed) (hJ:iM d B X listed a w):wpOp prog Bq Q 20 (fun a' w'=>dU d B w'∧iM d B X (listed.setIfInBounds 20 true) a' w') a w:=by
 have hal:=iw hr (i:=16) (by kernel_rfl)
 obtain⟨v3,v4,v5,v6,v7,rfl,b3,b4,b5,b6,b7⟩:=hJ.frame
 obtain⟨q,cur,rfl,hq,hc,hs,_⟩:=b3 hal
 have hb':=gU hJ.below hq (unCH d)
 refine Dh (o:=bH 20) (w':=w.setRow q (unCH d)) (by kernel_rfl) (by kernel_rfl) (Ky (T:=58) (x:=.tmp 3) (y:=.tmp 13) (vx:=.pointer (some ⟨q,0,none⟩)) (vy:=.agg (unCH d)) (by kernel_rfl) (by kernel_rfl) (by kernel_rfl) (Ir (by kernel_rfl) hc hs (fun v hv=>(by simp only [unCH,List.mem_cons,List.not_mem_nil,or_false] at hv;rcases hv with rfl|rfl|rfl|rfl|rfl <;> rfl)))) ⟨hS.below hb' hB,?_⟩
 rw [show (bH 20).dst=none from by kernel_rfl]
 exact⟨by simp [hJ.size],fun k hk=>getD_set_true (hJ.quiet k hk),hb',fun _=>getD_set_true hal,fun h=>getD_set_true (hJ.s1 (Ad h (by decide))),fun h=>getD_set_true (hJ.s2 (Ad h (by decide))),fun h=>getD_set_true (hJ.s3 (Ad h (by decide))),_,_,_,_,_,rfl,fun _=>⟨q,unCH d,rfl,hq,It hc,rfl,fun _=>rfl⟩,(b4.row (by decide) hc).mono (fun h=>Ad h (by decide)) (fun h=>Ad h (by decide)),(b5.row (by decide) hc).mono (fun h=>Ad h (by decide)) (fun h=>Ad h (by decide)),(b6.row (by decide) hc).mono (fun h=>Ad h (by decide)) (fun h=>Ad h (by decide)),fun h=>b7 (Ad h (by decide))⟩
theorem un1_st1 {d:UnD} {B:Nat} {X:World} {Q:Exit→Act→World→Prop} {listed:Array Bool} {a:Act} {w:World} (hB:B<X.heap.size) (hS:dU d B X) (hm:∀ v∈(unME d).toList,v.oneCell'=true) (hr:21∈Region.ready .any Bq listed) (hJ:iM d B X listed a w):wpOp prog Bq Q 21 (fun a' w'=>dU d B w'∧iM d B X (listed.setIfInBounds 21 true) a' w') a w:=by
 have hal:=iw hr (i:=17) (by kernel_rfl)
 obtain⟨v3,v4,v5,v6,v7,rfl,b3,b4,b5,b6,b7⟩:=hJ.frame
 obtain⟨q,cur,rfl,hq,hc,hs,_⟩:=b4 hal
 have hb':=gU hJ.below hq (unME d)
 refine Dh (o:=bH 21) (w':=w.setRow q (unME d)) (by kernel_rfl) (by kernel_rfl) (Ky (T:=63) (x:=.tmp 4) (y:=.tmp 15) (vx:=.pointer (some ⟨q,0,none⟩)) (vy:=.agg (unME d)) (by kernel_rfl) (by kernel_rfl) (by kernel_rfl) (Ir (by kernel_rfl) hc hs (hm))) ⟨hS.below hb' hB,?_⟩
 rw [show (bH 21).dst=none from by kernel_rfl]
 exact⟨by simp [hJ.size],fun k hk=>getD_set_true (hJ.quiet k hk),hb',fun h=>getD_set_true (hJ.s0 (Ad h (by decide))),fun _=>getD_set_true hal,fun h=>getD_set_true (hJ.s2 (Ad h (by decide))),fun h=>getD_set_true (hJ.s3 (Ad h (by decide))),_,_,_,_,_,rfl,(b3.row (by decide) hc).mono (fun h=>Ad h (by decide)) (fun h=>Ad h (by decide)),fun _=>⟨q,unME d,rfl,hq,It hc,rfl,fun _=>rfl⟩,(b5.row (by decide) hc).mono (fun h=>Ad h (by decide)) (fun h=>Ad h (by decide)),(b6.row (by decide) hc).mono (fun h=>Ad h (by decide)) (fun h=>Ad h (by decide)),fun h=>b7 (Ad h (by decide))⟩
theorem un1_st2 {d:UnD} {B:Nat} {X:World} {Q:Exit→Act→World→Prop} {listed:Array Bool} {a:Act} {w:World} (hB:B<X.heap.size) (hS:dU d B X) (hr:22∈Region.ready .any Bq listed) (hJ:iM d B X listed a w):wpOp prog Bq Q 22 (fun a' w'=>dU d B w'∧iM d B X (listed.setIfInBounds 22 true) a' w') a w:=by
 have hal:=iw hr (i:=18) (by kernel_rfl)
 obtain⟨v3,v4,v5,v6,v7,rfl,b3,b4,b5,b6,b7⟩:=hJ.frame
 obtain⟨q,cur,rfl,hq,hc,hs,_⟩:=b5 hal
 have hb':=gU hJ.below hq (unLI d)
 refine Dh (o:=bH 22) (w':=w.setRow q (unLI d)) (by kernel_rfl) (by kernel_rfl) (Ky (T:=65) (x:=.tmp 5) (y:=.tmp 17) (vx:=.pointer (some ⟨q,0,none⟩)) (vy:=.agg (unLI d)) (by kernel_rfl) (by kernel_rfl) (by kernel_rfl) (Ir (by kernel_rfl) hc hs (fun v hv=>(by simp only [unLI,List.mem_cons,List.not_mem_nil,or_false] at hv;rcases hv with rfl|rfl|rfl|rfl|rfl|rfl|rfl <;> rfl)))) ⟨hS.below hb' hB,?_⟩
 rw [show (bH 22).dst=none from by kernel_rfl]
 exact⟨by simp [hJ.size],fun k hk=>getD_set_true (hJ.quiet k hk),hb',fun h=>getD_set_true (hJ.s0 (Ad h (by decide))),fun h=>getD_set_true (hJ.s1 (Ad h (by decide))),fun _=>getD_set_true hal,fun h=>getD_set_true (hJ.s3 (Ad h (by decide))),_,_,_,_,_,rfl,(b3.row (by decide) hc).mono (fun h=>Ad h (by decide)) (fun h=>Ad h (by decide)),(b4.row (by decide) hc).mono (fun h=>Ad h (by decide)) (fun h=>Ad h (by decide)),fun _=>⟨q,unLI d,rfl,hq,It hc,rfl,fun _=>rfl⟩,(b6.row (by decide) hc).mono (fun h=>Ad h (by decide)) (fun h=>Ad h (by decide)),fun h=>b7 (Ad h (by decide))⟩
theorem un1_st3 {d:UnD} {B:Nat} {X:World} {Q:Exit→Act→World→Prop} {listed:Array Bool} {a:Act} {w:World} (hB:B<X.heap.size) (hS:dU d B X) (hr:23∈Region.ready .any Bq listed) (hJ:iM d B X listed a w):wpOp prog Bq Q 23 (fun a' w'=>dU d B w'∧iM d B X (listed.setIfInBounds 23 true) a' w') a w:=by
 have hal:=iw hr (i:=19) (by kernel_rfl)
 obtain⟨v3,v4,v5,v6,v7,rfl,b3,b4,b5,b6,b7⟩:=hJ.frame
 obtain⟨q,cur,rfl,hq,hc,hs,_⟩:=b6 hal
 have hb':=gU hJ.below hq (unHO d)
 refine Dh (o:=bH 23) (w':=w.setRow q (unHO d)) (by kernel_rfl) (by kernel_rfl) (Ky (T:=53) (x:=.tmp 6) (y:=.tmp 19) (vx:=.pointer (some ⟨q,0,none⟩)) (vy:=.agg (unHO d)) (by kernel_rfl) (by kernel_rfl) (by kernel_rfl) (Ir (by kernel_rfl) hc hs (fun v hv=>(by simp only [unHO,List.mem_cons,List.not_mem_nil,or_false] at hv;rcases hv with rfl|rfl|rfl|rfl|rfl|rfl|rfl|rfl|rfl|rfl <;> rfl)))) ⟨hS.below hb' hB,?_⟩
 rw [show (bH 23).dst=none from by kernel_rfl]
 exact⟨by simp [hJ.size],fun k hk=>getD_set_true (hJ.quiet k hk),hb',fun h=>getD_set_true (hJ.s0 (Ad h (by decide))),fun h=>getD_set_true (hJ.s1 (Ad h (by decide))),fun h=>getD_set_true (hJ.s2 (Ad h (by decide))),fun _=>getD_set_true hal,_,_,_,_,_,rfl,(b3.row (by decide) hc).mono (fun h=>Ad h (by decide)) (fun h=>Ad h (by decide)),(b4.row (by decide) hc).mono (fun h=>Ad h (by decide)) (fun h=>Ad h (by decide)),(b5.row (by decide) hc).mono (fun h=>Ad h (by decide)) (fun h=>Ad h (by decide)),fun _=>⟨q,unHO d,rfl,hq,It hc,rfl,fun _=>rfl⟩,fun h=>b7 (Ad h (by decide))⟩
theorem un1_24 {d:UnD} {B:Nat} {X:World} {Q:Exit→Act→World→Prop} {listed:Array Bool} {a:Act} {w:World} (hB:B<X.heap.size) (hS:dU d B X) (hJ:iM d B X listed a w):wpOp prog Bq Q 24 (fun a' w'=>dU d B w'∧iM d B X (listed.setIfInBounds 24 true) a' w') a w:=by
 obtain⟨v3,v4,v5,v6,v7,rfl,b3,b4,b5,b6,b7⟩:=hJ.frame
 refine Cu (o:=bH 24) (v:=.bool d.named) (w':=w) (by kernel_rfl) (by kernel_rfl) (ex_assign (x:=.tmp 27) (by kernel_rfl) (by kernel_rfl)) ⟨hS.below hJ.below hB,?_⟩
 rw [show (bH 24).dst=some 7 from by kernel_rfl,un1G_put7]
 exact⟨by simp [hJ.size],fun k hk=>getD_set_true (hJ.quiet k hk),hJ.below,fun h=>getD_set_true (hJ.s0 (Ad h (by decide))),fun h=>getD_set_true (hJ.s1 (Ad h (by decide))),fun h=>getD_set_true (hJ.s2 (Ad h (by decide))),fun h=>getD_set_true (hJ.s3 (Ad h (by decide))),_,_,_,_,_,rfl,b3.mono (fun h=>Ad h (by decide)) (fun h=>Ad h (by decide)),b4.mono (fun h=>Ad h (by decide)) (fun h=>Ad h (by decide)),b5.mono (fun h=>Ad h (by decide)) (fun h=>Ad h (by decide)),b6.mono (fun h=>Ad h (by decide)) (fun h=>Ad h (by decide)),fun _=>rfl⟩
theorem un1Size:Bq.size=25:=by kernel_rfl
theorem un1_step {d:UnD} {B:Nat} {X:World} {Q:Exit→Act→World→Prop} (hB:B<X.heap.size) (hS:dU d B X) (hm:∀ v∈(unME d).toList,v.oneCell'=true) (listed:Array Bool) (a:Act) (w:World) (i:Nat) (hr:i∈Region.ready .any Bq listed) (hJ:iM d B X listed a w):wpOp prog Bq Q i (fun a' w'=>dU d B w'∧iM d B X (listed.setIfInBounds i true) a' w') a w:=by
 obtain⟨hun,o,ho,_⟩:=mem_ready.1 hr
 have hlt:i<25:=by rw [← un1Size];exact (aZ ho)
 have hge:16≤i:=Nat.le_of_not_lt fun hn=>by
  have:=hJ.quiet i hn
  rw [getD_both hun] at this;cases this
 clear ho hun
 have hsp:i=16∨i=17∨i=18∨i=19∨i=20∨i=21∨i=22∨i=23∨i=24:=by omega
 rcases hsp with rfl|rfl|rfl|rfl|rfl|rfl|rfl|rfl|rfl
 ·exact un1_al0 hB hS hr hJ
 ·exact un1_al1 hB hS hr hJ
 ·exact un1_al2 hB hS hr hJ
 ·exact un1_al3 hB hS hr hJ
 ·exact un1_st0 hB hS hr hJ
 ·exact un1_st1 hB hS hm hr hJ
 ·exact un1_st2 hB hS hr hJ
 ·exact un1_st3 hB hS hr hJ
 ·exact un1_24 hB hS hJ
def Un1Done (d:UnD) (B:Nat) (X:World) (Q:Exit→Act→World→Prop):Prop :=
 ∀ w' p3 p4 p5 p6,Below X.heap.size X w'→p3<w'.heap.size→p4<w'.heap.size→p5<w'.heap.size→p6<w'.heap.size→UnS d ⟨p3,p4,p5,p6,B,un1T d B⟩ w'→Q .normal (unF0 d ⟨p3,p4,p5,p6,B,un1T d B⟩) w'
theorem Dk {listed:Array Bool} {d:UnD} {B:Nat} {X:World} {a:Act} {w:World} (hJ:iM d B X listed a w) (i:Nat) (prev:List Nat) (hi:i<25) (ho:Bq[i]?=some (bH i)) (hc:((bH i).after.all fun e=>!Region.binds .any e||(decide (e.on<16)||prev.contains e.on))=true)
  (hprev:∀ j∈prev,listed.getD j false=true) (h0:Region.ready .any Bq listed=[]):listed.getD i false=true:=by
 cases hl:listed.getD i false with
 | true=>rfl
 | false =>
  have hm:i∈Region.ready .any Bq listed:=by
   refine mem_ready.2 ⟨getD_in (by rw [hJ.size];exact hi) hl,bH i,ho,fun e he hb=>?_⟩
   have:=Array.all_eq_true_iff_forall_mem.1 hc e he
   rw [hb] at this
   simp only [Bool.not_true,Bool.false_or,Bool.or_eq_true,decide_eq_true_eq] at this
   rcases this with h|h
   ·exact hJ.quiet e.on h
   ·exact hprev e.on (by simpa using h)
  rw [h0] at hm
  cases hm
theorem Ew {w:World} {q:Nat} {C:Array Value} {t:TypeId} (h:w.heap[q]?=some (.cells C t (0,0))) (i:Nat):w.cell? ⟨q,i,none⟩=C[i]?:=by
 simp [World.cell?,h]
theorem un1_end {d:UnD} {B:Nat} {X:World} {Q:Exit→Act→World→Prop} (H:Un1Done d B X Q) (listed:Array Bool) (a:Act) (w:World) (h0:Region.ready .any Bq listed=[]) (hJ:iM d B X listed a w):Q .normal a w:=by
 have r16:=Dk hJ 16 [] (by decide) (by kernel_rfl) (by kernel_rfl) (fun _ h=>by cases h) h0
 have r17:=Dk hJ 17 [16] (by decide) (by kernel_rfl) (by kernel_rfl) (fun j hj=>by simp only [List.mem_cons,List.not_mem_nil,or_false] at hj;rcases hj with rfl <;> assumption) h0
 have r18:=Dk hJ 18 [16,17] (by decide) (by kernel_rfl) (by kernel_rfl) (fun j hj=>by simp only [List.mem_cons,List.not_mem_nil,or_false] at hj;rcases hj with rfl|rfl <;> assumption) h0
 have r19:=Dk hJ 19 [16,17,18] (by decide) (by kernel_rfl) (by kernel_rfl) (fun j hj=>by simp only [List.mem_cons,List.not_mem_nil,or_false] at hj;rcases hj with rfl|rfl|rfl <;> assumption) h0
 have r20:=Dk hJ 20 [16,17,18,19] (by decide) (by kernel_rfl) (by kernel_rfl) (fun j hj=>by simp only [List.mem_cons,List.not_mem_nil,or_false] at hj;rcases hj with rfl|rfl|rfl|rfl <;> assumption) h0
 have r21:=Dk hJ 21 [16,17,18,19,20] (by decide) (by kernel_rfl) (by kernel_rfl) (fun j hj=>by simp only [List.mem_cons,List.not_mem_nil,or_false] at hj;rcases hj with rfl|rfl|rfl|rfl|rfl <;> assumption) h0
 have r22:=Dk hJ 22 [16,17,18,19,20,21] (by decide) (by kernel_rfl) (by kernel_rfl) (fun j hj=>by simp only [List.mem_cons,List.not_mem_nil,or_false] at hj;rcases hj with rfl|rfl|rfl|rfl|rfl|rfl <;> assumption) h0
 have r23:=Dk hJ 23 [16,17,18,19,20,21,22] (by decide) (by kernel_rfl) (by kernel_rfl) (fun j hj=>by simp only [List.mem_cons,List.not_mem_nil,or_false] at hj;rcases hj with rfl|rfl|rfl|rfl|rfl|rfl|rfl <;> assumption) h0
 have r24:=Dk hJ 24 [16,17,18,19,20,21,22,23] (by decide) (by kernel_rfl) (by kernel_rfl) (fun j hj=>by simp only [List.mem_cons,List.not_mem_nil,or_false] at hj;rcases hj with rfl|rfl|rfl|rfl|rfl|rfl|rfl|rfl <;> assumption) h0
 obtain⟨v3,v4,v5,v6,v7,rfl,b3,b4,b5,b6,b7⟩:=hJ.frame
 rw [b7 r24]
 obtain⟨q3,c3,rfl,_,h3,_,e3⟩:=b3 r16
 rw [e3 r20] at h3
 obtain⟨q4,c4,rfl,_,h4,_,e4⟩:=b4 r17
 rw [e4 r21] at h4
 obtain⟨q5,c5,rfl,_,h5,_,e5⟩:=b5 r18
 rw [e5 r22] at h5
 obtain⟨q6,c6,rfl,_,h6,_,e6⟩:=b6 r19
 rw [e6 r23] at h6
 rw [un1G_eq]
 exact H w q3 q4 q5 q6 hJ.below (aZ h3) (aZ h4) (aZ h5) (aZ h6) ⟨Ew h3,Ew h4,Ew h5,Ew h6⟩
theorem un1_region (d:UnD) (B:Nat) (X:World) (Q:Exit→Act→World→Prop) (hQ:∀ c (a:Act) w d v,Q (.panic c) (a.put d v) w→Q (.panic c) a w) (hnamed:d.named=(d.id != []||d.n != 0)) (hB:B<X.heap.size) (hS:dU d B X) (hm:∀ v∈(unME d).toList,v.oneCell'=true) (H:Un1Done d B X Q) :
  wpAnyH prog .any Bq Q (dU d B) 25 (Gq []) (un1F0 d B) X:=by
 refine un1_A d B X Q (by kernel_rfl) hQ hnamed hS ?_
 refine De (J:=iM d B X) (fun l a w i hi hJ=>un1_step hB hS hm l a w i hi hJ) (fun l a w h0 hJ=>un1_end H l a w h0 hJ) _ _ _ _ (by decide +kernel) ?_
 have no:∀ i,i∈[16,17,18,19,20,21,22,23,24]→(Gq [0,1,2,3,4,5,6,7,8,9,10,11,12,13,14,15]).getD i false=true→False:=by decide +kernel
 exact⟨by decide +kernel,by decide +kernel,.refl _ _,fun h=>(no 20 (by decide) h).elim,fun h=>(no 21 (by decide) h).elim,fun h=>(no 22 (by decide) h).elim,fun h=>(no 23 (by decide) h).elim,undef,undef,undef,undef,undef,rfl,fun h=>(no 16 (by decide) h).elim,fun h=>(no 17 (by decide) h).elim,fun h=>(no 18 (by decide) h).elim,fun h=>(no 19 (by decide) h).elim,fun h=>(no 24 (by decide) h).elim⟩
def valB:Value→Bool
 | .bool b=>b
 | _=>false
noncomputable def unLoop:Code:=match Tryz.f39.body with|some (.seq _ (.seq _ (.seq _ (.seq _ (.seq _ r)))))=>r|_=>.skip
theorem wp_code_eq {P:Program} {c c':Code} {Q:Exit→Act→World→Prop} {a a':Act} {w:World} (hc:c'=c) (ha:a'=a) (h:c'.wp P Q a' w):c.wp P Q a w:=by subst hc ha;exact h
theorem Gf {w:World} {q:Nat} {m:Option Nat} {s c:Nat} {seen:Array Nat} (h:w.heap[q]?=some (.mapIter m s seen c)):w.iterSeen q=seen:=by simp [World.iterSeen,h]
def unL (s:Nat→Value) (B r:Nat) (u:Int):Act:={ tmps:=#[s 0,.pointer (some ⟨B,0,none⟩),.bool false,s 3,s 4,s 5,s 6,s 7,.map (some r),.int .i64 u,s 10,s 11,s 12,s 13,s 14,s 15,s 16,s 17,s 18,s 19,s 20,s 21,s 22,s 23,s 24,s 25,s 26,s 27,s 28,s 29,s 30,s 31,s 32,s 33,s 34,s 35,s 36,s 37,s 38,s 39,s 40,s 41,s 42,s 43,s 44,s 45,s 46,s 47,s 48,s 49,s 50,s 51,s 52,s 53,s 54,s 55,s 56,s 57,s 58,s 59,s 60,s 61,s 62,s 63,s 64,s 65,s 66,s 67,s 68,s 69,s 70,s 71,s 72,s 73,s 74,s 75,s 76,s 77,s 78,s 79,s 80,s 81,s 82,s 83,s 84,s 85,s 86,s 87,s 88,s 89,s 90,s 91,s 92,s 93,s 94,s 95,s 96,s 97,s 98,s 99,s 100,s 101,s 102,s 103,s 104,s 105,s 106,s 107,s 108,s 109,s 110,s 111,s 112,s 113,s 114,s 115,s 116,s 117,s 118,s 119,s 120,s 121,s 122,s 123,s 124,s 125,s 126,s 127,s 128,s 129,s 130,s 131,s 132,s 133,s 134,s 135,s 136,s 137,s 138,s 139,s 140,s 141,s 142,s 143,s 144,s 145,s 146,s 147,s 148,s 149,s 150,s 151,s 152,s 153,s 154,s 155,s 156,s 157,s 158,s 159,s 160,s 161,s 162,s 163,s 164,s 165,s 166,s 167],defers:=[] }
theorem un_loop (s:Nat→Value) (B r:Nat) (u:Int) (kvs:List (Int × Value)) (w0 w:World) (hb0:Below w0.heap.size w0 w) (hmap:A8 aJ r w kvs) (hbool:∀ k v,(k,v)∈kvs→∃ b,v=.bool b) :
  unLoop.wp prog (bodyPost prog Tryz.f39 (Ret w0 (.bool (!(kvs.any fun p=>p.1 != u&&valB p.2))))) (unL s B r u) w:=by
 obtain⟨es,clock,hb,hes,hold,hbn⟩:=hmap
 have hrg:=run_range_map (P:=prog) w 153 3 4 r es clock underlying153 hb
 unfold unLoop unL Tryz.f39
 dsimp only []
 go_wp2
 have hkv:∀ e∈es.toList,∃ k b,(k,Value.bool b)∈kvs∧e.key=.int .i64 k∧e.val=.bool b:=fun e he=>by
  have:(e.key,e.val)∈kvs.map (fun p=>(aJ p.1,p.2)):=hes ▸ List.mem_map.2 ⟨e,he,rfl⟩
  obtain⟨⟨k,v⟩,hk,e1⟩:=List.mem_map.1 this
  obtain⟨b,rfl⟩:=hbool k v hk
  simp only [Prod.mk.injEq] at e1
  exact⟨k,b,hk,e1.1.symm,e1.2.symm⟩
 have hrlt:r<w.heap.size:=(aZ hb)
 have hne:w.heap.size≠r:=by omega
 go_loopw [] (fun w'=>∃ (seen:Array Nat),w'.heap[w.heap.size]?=some (.mapIter (some r) clock seen clock)∧w'.heap[r]?=some (.map es clock)∧Below w0.heap.size w0 w'∧∀ x∈es.toList,seen.contains x.born=true→∀ k b,x.key=.int .i64 k→x.val=.bool b→(k != u&&b)=false) (fun w'=>(leftOf es (w'.iterSeen w.heap.size)).size)
 case atStart=>exact⟨#[],heap_alloc_last _ _,((MapKept.heap_alloc w _).2 r hrlt).trans hb,hb0.alloc hb0.size _,fun x _ h=>by simp at h⟩
 case round =>
  obtain⟨seen,hit,hbr,hbw,hno⟩:=hrel
  have law:=fun ty=>_root_.Go.run_next_at (P:=prog) wr ty w.heap.size r clock clock seen es clock hit hbr hold nR
  rcases law 0 with⟨h0,hrun⟩|⟨e,he,w1,hal,hrun⟩
  ·have hnx:∀ ty,(Instr.next (.pointer (some ⟨w.heap.size,0,none⟩)) false ty).run prog wr=_:=fun _=>hrun
   go_wp2
   go_ret
   have hf:(kvs.any fun p=>p.1 != u&&valB p.2)=false:=by
    rw [List.any_eq_false]
    rintro⟨k,v⟩ hx
    obtain⟨b,rfl⟩:=hbool k v hx
    have:(aJ k,Value.bool b)∈es.toList.map (fun e=>(e.key,e.val)):=hes ▸ List.mem_map.2 ⟨(k,.bool b),hx,rfl⟩
    obtain⟨e,he,e1⟩:=List.mem_map.1 this
    simp only [Prod.mk.injEq] at e1
    simpa [valB] using hno e he (all_seen es seen h0 e he) k b e1.1 e1.2
   rw [hf]
   exact⟨rfl,hbw⟩
  ·obtain⟨k,b,hkb,hkey,hval⟩:=hkv e (mem_left he).1
   rw [hkey,hval] at hrun
   have hnx:∀ ty,(Instr.next (.pointer (some ⟨w.heap.size,0,none⟩)) false ty).run prog wr=_:=fun _=>hrun
   have hit1:w1.heap[w.heap.size]?=some (.mapIter (some r) clock seen clock):=by rcases hal with rfl|rfl <;> exact hit
   have hr1:w1.heap[r]?=some (.map es clock):=by rcases hal with rfl|rfl <;> exact hbr
   have hbw1:Below w0.heap.size w0 w1:=by rcases hal with rfl|rfl;exact hbw;exact hbw.drew
   have hset:=MapKept.heap_set (o':=.mapIter (some r) clock (seen.push e.born) clock) hit1
   have hbw':Below w0.heap.size w0 (ChangeMaps.setBlock w1 w.heap.size (.mapIter (some r) clock (seen.push e.born) clock)):=⟨hbw1.os,hbw1.tape,hbw1.output,by simpa [ChangeMaps.setBlock] using hbw1.size,fun k hk=>(hset.2 k (by have:=hb0.size;omega)).trans (hbw1.block k hk)⟩
   have hen:=_root_.Go.run_entry_at (P:=prog) (ChangeMaps.setBlock w1 w.heap.size (.mapIter (some r) clock (seen.push e.born) clock)) w.heap.size r clock seen es clock e hset.1 ((hset.2 r (fun e1=>hne e1.symm)).trans hr1) (mem_left he).1 hbn
   rw [hkey,hval] at hen
   cases b
   ·go_wp2
    go_roundw
    case rel =>
     refine⟨seen.push e.born,hset.1,(hset.2 r (fun e1=>hne e1.symm)).trans hr1,hbw',fun x hx hc k' b' hk' hv'=>?_⟩
     rw [contains_push] at hc
     rcases Bool.or_eq_true _ _ ▸ hc with h1|h1
     ·exact hno x hx h1 k' b' hk' hv'
     ·have:x=e:=born_inj hbn hx (mem_left he).1 (beq_iff_eq.1 h1)
      subst this
      rw [hkey] at hk'
      rw [hval] at hv'
      cases hk'
      cases hv'
      simp
    case measure=>rw [Gf (w:=ChangeMaps.setBlock w1 w.heap.size (.mapIter (some r) clock (seen.push e.born) clock)) hset.1,Gf hit];exact left_shrinks es seen e he
   ·go_wp2
    ·rename_i hne'
     go_ret
     have ht:(kvs.any fun p=>p.1 != u&&valB p.2)=true:=List.any_eq_true.2 ⟨(k,.bool true),hkb,by simpa [valB] using hne'⟩
     rw [ht]
     exact⟨rfl,hbw'⟩
    ·rename_i heq
     go_roundw
     case rel =>
      refine⟨seen.push e.born,hset.1,(hset.2 r (fun e1=>hne e1.symm)).trans hr1,hbw',fun x hx hc k' b' hk' hv'=>?_⟩
      rw [contains_push] at hc
      rcases Bool.or_eq_true _ _ ▸ hc with h1|h1
      ·exact hno x hx h1 k' b' hk' hv'
      ·have:x=e:=born_inj hbn hx (mem_left he).1 (beq_iff_eq.1 h1)
       subst this
       rw [hkey] at hk'
       rw [hval] at hv'
       cases hk'
       cases hv'
       simpa using heq
     case measure=>rw [Gf (w:=ChangeMaps.setBlock w1 w.heap.size (.mapIter (some r) clock (seen.push e.born) clock)) hset.1,Gf hit];exact left_shrinks es seen e he
def unAgg (d:UnD):Array Value:=#[d.kd,.int .i64 d.ck,.string ⟨d.ci.toArray⟩,.string ⟨d.ei.toArray⟩,.slice d.an d.nn d.cn,.int .i64 d.cp,d.m0,d.m1,d.m2,d.m3,d.m4,d.m5,d.m6,d.m7,d.m8,d.m9,d.m10,d.m11,.string ⟨d.li.toArray⟩,.slice d.am d.nm d.cm,.slice d.ap d.np d.cq,.int .i64 d.lq,.int .i64 d.lu,.int .i64 d.lf,.int .i64 d.lt,.string ⟨d.h0.toArray⟩,.string ⟨d.h1.toArray⟩,.string ⟨d.h2.toArray⟩,.string ⟨d.h3.toArray⟩,.string ⟨d.h4.toArray⟩,.slice d.aj d.nj d.cj,.int .i64 d.h6,.int .i64 d.h7,.int .i64 d.h8,.int .i64 d.h9,.string ⟨d.id.toArray⟩,.int .i64 d.n]
def Fp (k:Int):Int:=if k=3∨k=5 then 7 else k
def unRes (d:UnD) (z:Bool) (k:Int):Bool:=!((dn d z).any fun p=>p.2.1 != Fp k&&p.2.2)
theorem unRes_of {d:UnD} {z:Bool} {u:Int} {kvs:List (Int × Value)} (hmem:∀ k v,(k,v)∈kvs↔∃ i b,(i,k,b)∈dn d z∧v=.bool b):(kvs.any fun p=>p.1 != u&&valB p.2)=(dn d z).any fun p=>p.2.1 != u&&p.2.2:=by
 rw [Bool.eq_iff_iff,List.any_eq_true,List.any_eq_true]
 constructor
 ·rintro⟨⟨k,v⟩,hk,h⟩
  obtain⟨i,b,hi,rfl⟩:=(hmem k v).1 hk
  exact⟨(i,k,b),hi,h⟩
 ·rintro⟨⟨i,k,b⟩,hi,h⟩
  exact⟨(k,.bool b),(hmem k _).2 ⟨i,b,hi,rfl⟩,h⟩
noncomputable def un3:Code:=match Tryz.f39.body with|some (.seq _ (.seq _ (.seq _ (.seq r _))))=>r|_=>.skip
noncomputable def un45:Code:=match Tryz.f39.body with|some (.seq _ (.seq _ (.seq _ (.seq _ (.seq r _)))))=>r|_=>.skip
def KdIs (d:UnD) (k:Int):Prop:=d.kd=.int .i64 k
theorem unused_any (d:UnD) (z:Bool) (k:Int) (w:World) (hkd:KdIs d k) (hnamed:d.named=(d.id != []||d.n != 0)) (hm:∀ v∈(unME d).toList,v.oneCell'=true)
  (hSame:∀ W,Below w.heap.size w W→Calls prog 75 #[.agg #[d.m0,d.m1,d.m2,d.m3,d.m4,d.m5,d.m6,d.m7,d.m8,d.m9,d.m10,d.m11],.agg Ar] W (Ret W (.bool z))):Calls prog 39 #[.agg (unAgg d)] w (Ret w (.bool (unRes d z k))):=by
 unfold unAgg
 go_enter func39,ntmps39
 go_wp2
 rename_i K hK
 have hS0:dU d w.heap.size (w.alloc (.cells (unAgg d) 67 (0,0))).drew:=fun i=>Ew (Gy w _) i
 have hB0:Below w.heap.size w (w.alloc (.cells (unAgg d) 67 (0,0))).drew:=(Below.refl w.heap.size w |>.alloc nR _).drew
 have hlt:w.heap.size<(w.alloc (.cells (unAgg d) 67 (0,0))).drew.heap.size:=(Array.getElem?_eq_some_iff.1 (Gy w _)).1
 refine wp_region_noPanic (Jz (ops:=Bq) (by kernel_rfl) (wp_region_held_drew (S:=dU d w.heap.size) (by kernel_rfl) hS0 (fun _=>Ay (a':=un1F0 d w.heap.size) (listed':=Gq []) (by kernel_rfl) (by kernel_rfl) (un1_region d w.heap.size _ _ (fun _ _ _ _ _ h=>h) hnamed hlt hS0 hm ?_))))
 intro w1 p3 p4 p5 p6 hb1 l3 l4 l5 l6 hS1
 have hS01:=hS0.below hb1 hlt
 have hB1:Below w.heap.size w w1:=hB0.trans (hb1.mono hB0.size)
 have hlt1:=nL hlt hb1.size
 refine hK _ _ ?_
 clear hK
 refine wp_seq (wp_region_noPanic (Jz (ops:=aB) (by kernel_rfl) (wp_region_held_drew (S:=UnS d ⟨p3,p4,p5,p6,w.heap.size,un1T d w.heap.size⟩) (by kernel_rfl) (hS1.below (Below.refl _ _).drew l3 l4 l5 l6) (fun hS1'=>Ay (a':=unF0 d ⟨p3,p4,p5,p6,w.heap.size,un1T d w.heap.size⟩) (listed':=Ap []) rfl (by kernel_rfl) (un_region d ⟨p3,p4,p5,p6,w.heap.size,un1T d w.heap.size⟩ z w1.drew _ (by kernel_rfl) (fun _ _ _ _ _ h=>h) ⟨l3,l4,l5,l6⟩ hS1' (fun W hW=>hSame W ((hB1.drew).trans (hW.mono (hB1.drew).size))) ?_)))))
 intro w2 r kvs hb2 hmap hnd hmem
 have hS02:=hS01.below ((Below.refl w1.heap.size w1).drew.trans hb2) hlt1
 have hB2:Below w.heap.size w w2:=(hB1.drew).trans (hb2.mono (hB1.drew).size)
 have hc0:w2.cell? ⟨w.heap.size,0,none⟩=some (.int .i64 k):=(hS02 0).trans (by rw [show d.kd=.int .i64 k from hkd];rfl)
 obtain⟨s,hs⟩:∃ s:Nat→Value,unH d ⟨p3,p4,p5,p6,w.heap.size,un1T d w.heap.size⟩ z (.map (some r)) (.map (some r)) (.map (some r))={ tmps:=#[s 0,.pointer (some ⟨w.heap.size,0,none⟩),.bool false,s 3,s 4,s 5,s 6,s 7,.map (some r),s 9,s 10,s 11,s 12,s 13,s 14,s 15,s 16,s 17,s 18,s 19,s 20,s 21,s 22,s 23,s 24,s 25,s 26,s 27,s 28,s 29,s 30,s 31,s 32,s 33,s 34,s 35,s 36,s 37,s 38,s 39,s 40,s 41,s 42,s 43,s 44,s 45,s 46,s 47,s 48,s 49,s 50,s 51,s 52,s 53,s 54,s 55,s 56,s 57,s 58,s 59,s 60,s 61,s 62,s 63,s 64,s 65,s 66,s 67,s 68,s 69,s 70,s 71,s 72,s 73,s 74,s 75,s 76,s 77,s 78,s 79,s 80,s 81,s 82,s 83,s 84,s 85,s 86,s 87,s 88,s 89,s 90,s 91,s 92,s 93,s 94,s 95,s 96,s 97,s 98,s 99,s 100,s 101,s 102,s 103,s 104,s 105,s 106,s 107,s 108,s 109,s 110,s 111,s 112,s 113,s 114,s 115,s 116,s 117,s 118,s 119,s 120,s 121,s 122,s 123,s 124,s 125,s 126,s 127,s 128,s 129,s 130,s 131,s 132,s 133,s 134,s 135,s 136,s 137,s 138,s 139,s 140,s 141,s 142,s 143,s 144,s 145,s 146,s 147,s 148,s 149,s 150,s 151,s 152,s 153,s 154,s 155,s 156,s 157,s 158,s 159,s 160,s 161,s 162,s 163,s 164,s 165,s 166,s 167],defers:=[] }:=⟨fun i=>(unH d ⟨p3,p4,p5,p6,w.heap.size,un1T d w.heap.size⟩ z (.map (some r)) (.map (some r)) (.map (some r))).tmps.getD i undef,by kernel_rfl⟩
 rw [hs]
 clear hs
 have hl:=fun s u=>un_loop s w.heap.size r u kvs w w2 hB2 hmap (fun k v h=>by obtain⟨_,b,_,rfl⟩:=(hmem k v).1 h;exact⟨b,rfl⟩)
 simp only [unRes_of hmem] at hl
 have hl':∀ (a:Act) (u:Int),u=Fp k→a=unL (fun i=>a.tmps.getD i undef) w.heap.size r u→unLoop.wp prog (bodyPost prog Tryz.f39 (Ret w (.bool (unRes d z k)))) a w2:=fun a u hu ha=>by
  rw [ha]
  subst hu
  exact hl _ _
 clear hl hmap hnd hmem hS02 hS01 hS0 hS1 hSame hm hkd
 refine wp_code_eq (c':=.seq un3 (.seq un45 unLoop)) (by kernel_rfl) rfl ?_
 generalize bodyPost prog Tryz.f39 (Ret w (.bool (unRes d z k)))=Q at hl' ⊢
 unfold un3 un45 Tryz.f39
 dsimp only []
 go_wp2
 ·rename_i h3
  exact hl' _ 7 (by unfold Fp;rw [if_pos (.inl h3)]) (by kernel_rfl)
 ·rename_i h3 h5
  exact hl' _ 7 (by unfold Fp;rw [if_pos (by simpa using h5)]) (by kernel_rfl)
 ·rename_i h3 h5
  exact hl' _ k (by unfold Fp;rw [if_neg (by simpa using h5)]) (by kernel_rfl)
def unOf (a:CH.Act) (an:Option Addr) (cn:Nat) (ak:Option Addr) (ck:Nat) (am:Option Addr) (cm:Nat) (ap:Option Addr) (cp:Nat) (aj:Option Addr) (cj:Nat):UnD:={ kd:=aJ a.kind,ck:=a.change.kind,ci:=a.change.id,ei:=a.change.entry.id,an:=an,nn:=a.change.entry.names.length,cn:=cn,cp:=a.change.pos,m0:=ah a.measure.id,m1:=ah a.measure.authority,m2:=aJ a.measure.kind,m3:=ah a.measure.target,m4:=aJ a.measure.aC.op,m5:=ah a.measure.aC.name,m6:=aJ a.measure.aC.cmp,m7:=aJ a.measure.aC.n,m8:=.slice ak a.measure.aC.kids.length ck,m9:=aJ a.measure.start,m10:=aJ a.measure.aO,m11:=aJ a.measure.fF,li:=a.licence.id,am:=am,nm:=a.licence.measures.length,cm:=cm,ap:=ap,np:=a.licence.aN.length,cq:=cp,lq:=a.licence.quota,lu:=a.licence.uses,lf:=a.licence.start,lt:=a.licence.aO,h0:=a.holding.id,h1:=a.holding.company,h2:=a.holding.holder,h3:=a.holding.aA,h4:=a.holding.aI,aj:=aj,nj:=a.holding.joint.length,cj:=cj,h6:=a.holding.capital,h7:=a.holding.bT,h8:=a.holding.start,h9:=a.holding.stop,id:=a.id,n:=a.n,named:=(a.id != []||a.n != 0) }
theorem unRes_unOf (a:CH.Act) (an:Option Addr) (cn:Nat) (ak:Option Addr) (ck:Nat) (am:Option Addr) (cm:Nat) (ap:Option Addr) (cp:Nat) (aj:Option Addr) (cj:Nat):unRes (unOf a an cn ak ck am cm ap cp aj cj) (CH.dF a.measure) a.kind=CH.unused a:=by
 have e1:(unOf a an cn ak ck am cm ap cp aj cj).yc5=CH.dirtyChange a.change:=rfl
 have e2:(unOf a an cn ak ck am cm ap cp aj cj).yl7=CH.iC a.licence:=rfl
 have e3:(unOf a an cn ak ck am cm ap cp aj cj).yh10=CH.iD a.holding:=rfl
 have e4:(unOf a an cn ak ck am cm ap cp aj cj).named=(a.id != []||a.n != 0):=rfl
 unfold unRes dn CH.unused
 rw [e1,e2,e3,e4]
 generalize (unOf a an cn ak ck am cm ap cp aj cj)=d
 show _=(!(CH.dirtyChange a.change&&(1:Int) != Fp a.kind)&&!(!CH.dF a.measure&&(2:Int) != Fp a.kind)&&!(CH.iC a.licence&&(4:Int) != Fp a.kind)&&!(CH.iD a.holding&&(6:Int) != Fp a.kind)&&!((a.id != []||a.n != 0)&&(7:Int) != Fp a.kind))
 generalize Fp a.kind=u
 generalize CH.dirtyChange a.change=x1
 generalize CH.dF a.measure=x2
 generalize CH.iC a.licence=x3
 generalize CH.iD a.holding=x4
 generalize (a.id != []||a.n != 0)=x5
 simp only [List.any_cons,List.any_nil,Bool.or_false]
 generalize ((1:Int) != u)=y1
 generalize ((2:Int) != u)=y2
 generalize ((4:Int) != u)=y3
 generalize ((6:Int) != u)=y4
 generalize ((7:Int) != u)=y5
 revert x1 x2 x3 x4 x5 y1 y2 y3 y4 y5
 decide
theorem actUnused_any (a:CH.Act) (s:ActV) (w:World) (hG:Gc w) (h:eY w.heap.size w a s) :
  Calls prog 39 #[.agg (At a s).toArray] w (Ret w (.bool (CH.unused a))):=by
 obtain⟨vn,vk,vm,vp,vj⟩:=s
 obtain⟨an,cn,hn,_,_⟩:=h.names.form
 obtain⟨ak,ck,hk,hk1,hk2,_⟩:=Am.form h.meas.kids
 obtain⟨am,cm,hm,_,_⟩:=h.lm.form
 obtain⟨ap,cp,hp,_,_⟩:=h.lp.form
 obtain⟨aj,cj,hj,_,_⟩:=h.hj.form
 have hnums:=h.meas.nums
 change vn=_ at hn
 change vk=_ at hk
 change vm=_ at hm
 change vp=_ at hp
 change vj=_ at hj
 clear h
 subst hn hk hm hp hj
 have S:=fun (W:World) (hb:Below w.heap.size w W)=>I8 a.measure ak _ ck W (hG.gl.below hb) hnums rfl (nT hk1 hk2)
 have U:=unused_any (unOf a an cn ak ck am cm ap cp aj cj) (CH.dF a.measure) a.kind w rfl rfl (by
  intro v hv
  simp only [unME,unOf,List.mem_cons,List.not_mem_nil,or_false] at hv
  rcases hv with rfl|rfl|rfl|rfl|rfl|rfl|rfl|rfl|rfl|rfl|rfl|rfl <;> rfl) (fun W hW=>S W hW)
 rw [unRes_unOf] at U
 exact U
end
section
open Go.Lib Go.Proofs.Tryz Go.RowKit Go.Shelf Go.Sort
attribute [local go_sem] Oper.semAt_some
theorem Ll (v:Value) (ls:List (List UInt8)) (w:World) (hG:Gl w) (hv:Strs w.heap.size w v ls) (hl:∀ l∈ls,l.length≤9223372036854775807) :
  Calls prog 116 #[v] w (Ret w (.bool (ls.any fun l=>!CH.aF l))):=by
 have hC:=Id _ _ _ pred_odd v ls w hG hv hl
 have HC:=hid hC
 clear hC hv hl
 go_enter func116,ntmps116
 go_wp2_with fail
 refine HC.out.mono ?_
 rintro e w1 ⟨rfl,hb⟩
 clear HC
 go_wp2
 go_ret
 exact⟨rfl,hb⟩
def Hq (pub m:List UInt8) (idx:Int) (sig path:List (List UInt8)):Bool :=
 sig.length==18&&(decide (path.length≤8)&&(!(sig.any fun l=>!CH.aF l)&&(!(path.any fun l=>!CH.aF l)&&(decide (0≤idx)&&(decide (idx<2 ^ path.length) &&
  CH.dB pub (2 ^ path.length) idx.toNat (CH.dl (CH.ends sig m)) path)))))
structure VerI (wq:World) (B i:Nat) (v1 v2:Value) (sig:List (List UInt8)) (pre:List DP) (W:World):Prop where
 le:wq.heap.size+2≤W.heap.size
 box:W.heap[B]?=some (.cells #[.int .i64 i,v1,v2] 28 (0,0))
 ends:∃ v,W.heap[wq.heap.size]?=some (.cells #[v] 22 (0,0))∧Ai (wq.heap.size+2) W v (pre.map fun x=>CH.chain (15 - x.2.val) (sig.getD x.1.val []))
 below:Below wq.heap.size wq W
theorem VerI.own (wq:World) (B i:Nat) (v1 v2:Value) (sig:List (List UInt8)) (hBq:B<wq.heap.size) (C:Nat) (hC:wq.heap.size+2≤C):OwnFrom C (VerI wq B i v1 v2 sig):=by
 intro pre W W' row h hg hr
 obtain⟨h1,h2,⟨v,h5,h6⟩,h7⟩:=h
 have key:∀ k,k<wq.heap.size+2→W'.heap[k]?=W.heap[k]?:=fun k hk=>hg.block k (by omega) (fun e=>by have:=(hr k e.symm).1;omega)
 have hsz:=hg.size
 exact⟨by omega,(key B (by omega)).trans h2,⟨v,(key _ (by omega)).trans h5,Dm h6 hg (fun r e=>(hr r e).2)⟩,
  ⟨hg.os.trans h7.os,hg.tape.trans h7.tape,hg.output.trans h7.output,nT h7.size hsz,fun k hk=>(key k (by omega)).trans (h7.block k hk)⟩⟩
theorem two_pow_i64 (h:Nat) (hh:h≤8):IntKind.i64.wrap ((2:Int) ^ h)=(2:Int) ^ h:=by
 rcases h with _|_|_|_|_|_|_|_|_|h
 all_goals first|decide +kernel|omega
theorem ends_eq (sig:List (List UInt8)) (m:List UInt8) (hs:sig.length=18):CH.ends sig m=(CH.dN m).map fun x=>CH.chain (15 - x.2.val) (sig.getD x.1.val []):=by
 apply List.ext_getElem?
 intro k
 unfold CH.ends
 have hl:=CH.length_digits m
 by_cases hk:k<18
 ·obtain⟨d,hg⟩:∃ d,(CH.digits m)[k]?=some d:=⟨_,lZ (by omega)⟩
  obtain⟨t,hg2⟩:∃ t,sig[k]?=some t:=⟨_,lZ (by omega)⟩
  obtain⟨hd,h2⟩:=CH.dpairs_at m k d hk hg
  have hgd:sig.getD k []=t:=by simp [hg2]
  have hz:((CH.digits m).zip sig)[k]?=some (d,t):=List.getElem?_zip_eq_some.2 ⟨hg,hg2⟩
  rw [List.getElem?_map,List.getElem?_map,h2,hz]
  simp only [Option.map_some,hgd]
 ·rw [List.getElem?_eq_none,List.getElem?_eq_none]
  ·rw [List.length_map,CH.bU];omega
  ·rw [List.length_map,List.length_zip,hl];omega
theorem ends_len (sig:List (List UInt8)) (m:List UInt8) (hs:∀ l∈sig,l.length≤1000000):∀ l∈CH.ends sig m,l.length≤1000000:=by
 intro l hl
 unfold CH.ends at hl
 obtain⟨⟨d,t⟩,hx,rfl⟩:=List.mem_map.1 hl
 have ht:=hs t (List.of_mem_zip hx).2
 cases h:15 - d with
 | zero=>simpa [CH.chain,h] using ht
 | succ n=>simp only [h];rw [CH.chain_succ'];simp [CH.dK]
theorem two_boxes (w:World) (o1 o2:Obj):((w.alloc o1).alloc o2).heap[w.heap.size]?=some o1∧((w.alloc o1).alloc o2).heap[w.heap.size+1]?=some o2:=by
 simp only [World.alloc,Array.getElem?_push,Array.size_push]
 exact⟨by rw [if_neg (by omega),if_pos trivial],by rw [if_pos trivial]⟩
theorem verify_any (pub m:List UInt8) (idx:Int) (v1 v2:Value) (sig path:List (List UInt8)) (w:World) (hG:Gl w) (hm:m.length≤1000000) (h1:Strs w.heap.size w v1 sig) (h2:Strs w.heap.size w v2 path)
  (hl1:∀ l∈sig,l.length≤1000000) (hl2:∀ l∈path,l.length≤1000000) (hx:-9223372036854775808≤idx∧idx≤9223372036854775807) :
  Calls prog 70 #[.string ⟨pub.toArray⟩,.string ⟨m.toArray⟩,.agg #[.int .i64 idx,v1,v2]] w (Ret w (.bool (Hq pub m idx sig path))):=by
 have c1:∀ W,Below w.heap.size w W→Calls prog 116 #[v1] W (fun e w'=>e=.returned (.bool (sig.any fun l=>!CH.aF l))∧Below W.heap.size W w'):=fun W hb =>
  Ll v1 sig W (hG.below hb) ((h1.below hb nR).mono hb.size) (fun l hl=>by have:=hl1 l hl;omega)
 have c2:∀ W,Below w.heap.size w W→Calls prog 116 #[v2] W (fun e w'=>e=.returned (.bool (path.any fun l=>!CH.aF l))∧Below W.heap.size W w'):=fun W hb =>
  Ll v2 path W (hG.below hb) ((h2.below hb nR).mono hb.size) (fun l hl=>by have:=hl2 l hl;omega)
 obtain⟨a1,k1,e1,hk1,hk1',hk1x⟩:=id h1
 obtain⟨a2,k2,e2,hk2,hk2',-⟩:=id h2
 have hsig:sig.length=18→∃ b off,a1=some ⟨b,off,none⟩∧b<w.heap.size∧∀ j l,sig[j]?=some l→w.cell? ⟨b,off+j,none⟩=some (.string ⟨l.toArray⟩):=fun h=>hk1x (fun e=>by rw [e] at h;simp at h)
 subst e1 e2
 have H1:=hid h1
 have H2:=hid h2
 have HV:Hid (Hq pub m idx sig path=(sig.length==18&&(decide (path.length≤8)&&(!(sig.any fun l=>!CH.aF l)&&(!(path.any fun l=>!CH.aF l)&&(decide (0≤idx)&&(decide (idx<2 ^ path.length) &&
  CH.dB pub (2 ^ path.length) idx.toNat (CH.dl (CH.ends sig m)) path))))))):=rfl
 generalize hV:Hq pub m idx sig path=V at HV
 clear h1 h2 hV
 generalize hn1:sig.length=n1 at *
 generalize hn2:path.length=n2 at *
 generalize hb1:(sig.any fun l=>!CH.aF l)=b1 at *
 generalize hb2:(path.any fun l=>!CH.aF l)=b2 at *
 have r1:∀ (d:Nat) (os:Array Obj),Calls prog 116 #[.slice a1 n1 k1] (Sort.grow (redrawn (w.alloc (.cells #[.int .i64 idx,.slice a1 n1 k1,.slice a2 n2 k2] 28)) d) os) fun e w''=>e=.returned (.bool b1)∧∃ p:Regrown,w''=Sort.grow (redrawn (w.alloc (.cells #[.int .i64 idx,.slice a1 n1 k1,.slice a2 n2 k2] 28)) p.d) p.os:=fun d os =>
  Calls.regrown_of (c1 _ ((Bb w _).trans ((below_regrown _ d os).mono (by simp))))
 have r2:∀ (d:Nat) (os:Array Obj),Calls prog 116 #[.slice a2 n2 k2] (Sort.grow (redrawn (w.alloc (.cells #[.int .i64 idx,.slice a1 n1 k1,.slice a2 n2 k2] 28)) d) os) fun e w''=>e=.returned (.bool b2)∧∃ p:Regrown,w''=Sort.grow (redrawn (w.alloc (.cells #[.int .i64 idx,.slice a1 n1 k1,.slice a2 n2 k2] 28)) p.d) p.os:=fun d os =>
  Calls.regrown_of (c2 _ ((Bb w _).trans ((below_regrown _ d os).mono (by simp))))
 have k0:∀ (d:Nat) (os:Array Obj),(Sort.grow (redrawn (w.alloc (.cells #[.int .i64 idx,.slice a1 n1 k1,.slice a2 n2 k2] 28)) d) os).cell? ⟨w.heap.size,0,none⟩=some (.int .i64 idx):=cell_regrown (by simp)
 have k1':∀ (d:Nat) (os:Array Obj),(Sort.grow (redrawn (w.alloc (.cells #[.int .i64 idx,.slice a1 n1 k1,.slice a2 n2 k2] 28)) d) os).cell? ⟨w.heap.size,1,none⟩=some (.slice a1 n1 k1):=cell_regrown (by simp)
 have k2':∀ (d:Nat) (os:Array Obj),(Sort.grow (redrawn (w.alloc (.cells #[.int .i64 idx,.slice a1 n1 k1,.slice a2 n2 k2] 28)) d) os).cell? ⟨w.heap.size,2,none⟩=some (.slice a2 n2 k2):=cell_regrown (by simp)
 refine (callsIn_wide (n:=4)).1 ?_
 refine callsIn_of_wp_marks func70 rfl trivial ?_ rfl
 simp only [ntmps70,List.size_toArray,List.length_cons,List.length_nil,Nat.reduceAdd,Nat.reduceSub,Array.replicate_succ,Array.replicate_zero,List.push_toArray,List.append_toArray,List.nil_append,List.cons_append]
 refine wpIn_wide.2 ?_
 have e51:∀ args W,(callFunc 116 args).run prog W=.ok (.enter 116 args) W:=enters_of func116 (by kernel_rfl) rfl
 have hB0:∀ W',Below (w.alloc (.cells #[.int .i64 idx,.slice a1 n1 k1,.slice a2 n2 k2] 28)).heap.size (w.alloc (.cells #[.int .i64 idx,.slice a1 n1 k1,.slice a2 n2 k2] 28)) W'→Below w.heap.size w W':=fun W' h =>
  (Bb w _).trans (h.mono (by simp))
 go_wp2_with fail
 by_cases q1:n1=18
 case neg =>
  have d1:((n1:Int) != 18)=true:=by simp;omega
  have HF:Hid (V=false):=hid (by rw [HV.out];simp [q1])
  clear HV q1
  refine wp_region_quiet_below (by kernel_rfl) (by kernel_rfl) ?_
  repeat (quiet_step (first|exact r1 _ _|exact r2 _ _))
  refine wpQuiet_nil ?_
  intro wq hbq
  replace hbq:=Af hbq
  go_wp2_with fail
  exact⟨_,results_tmp rfl _ _ _,by rw [HF.out];rfl,hB0 _ hbq⟩
 case pos =>
 replace hsig:=hsig q1
 subst q1
 by_cases q2:n2≤8
 case neg =>
  have d2:decide ((8:Int)<(n2:Int))=true:=by simp;omega
  have HF:Hid (V=false):=hid (by rw [HV.out];simp [q2])
  clear HV q2
  refine wp_region_quiet_below (by kernel_rfl) (by kernel_rfl) ?_
  repeat (quiet_step (first|exact r1 _ _|exact r2 _ _))
  refine wpQuiet_nil ?_
  intro wq hbq
  replace hbq:=Af hbq
  go_wp2_with fail
  exact⟨_,results_tmp rfl _ _ _,by rw [HF.out];rfl,hB0 _ hbq⟩
 case pos =>
 have d2:decide ((8:Int)<(n2:Int))=false:=by simp;omega
 cases b1
 case true =>
  have HF:Hid (V=false):=hid (by rw [HV.out];simp)
  clear HV q2
  refine wp_region_quiet_below (by kernel_rfl) (by kernel_rfl) ?_
  repeat (quiet_step (first|exact r1 _ _|exact r2 _ _))
  refine wpQuiet_nil ?_
  intro wq hbq
  replace hbq:=Af hbq
  go_wp2_with fail
  exact⟨_,results_tmp rfl _ _ _,by rw [HF.out];rfl,hB0 _ hbq⟩
 cases b2
 case true =>
  have HF:Hid (V=false):=hid (by rw [HV.out];simp)
  clear HV q2
  refine wp_region_quiet_below (by kernel_rfl) (by kernel_rfl) ?_
  repeat (quiet_step (first|exact r1 _ _|exact r2 _ _))
  refine wpQuiet_nil ?_
  intro wq hbq
  replace hbq:=Af hbq
  go_wp2_with fail
  exact⟨_,results_tmp rfl _ _ _,by rw [HF.out];rfl,hB0 _ hbq⟩
 by_cases q3:0≤idx
 case neg =>
  have d3:decide (idx<0)=true:=by simp;omega
  have HF:Hid (V=false):=hid (by rw [HV.out];simp [q3])
  clear HV q2 q3
  refine wp_region_quiet_below (by kernel_rfl) (by kernel_rfl) ?_
  repeat (quiet_step (first|exact r1 _ _|exact r2 _ _))
  refine wpQuiet_nil ?_
  intro wq hbq
  replace hbq:=Af hbq
  go_wp2_with fail
  exact⟨_,results_tmp rfl _ _ _,by rw [HF.out];rfl,hB0 _ hbq⟩
 case pos =>
 have d3:decide (idx<0)=false:=by simp;omega
 have hn20:(0:Int)≤(n2:Int):=by omega
 have hw64:=Fb n2 q2
 have hwr:IntKind.i64.wrap ((2:Int) ^ n2)=(2:Int) ^ n2:=two_pow_i64 n2 q2
 have hp2:=Ek n2 q2
 obtain⟨i,rfl⟩:∃ i:Nat,idx=(i:Int):=⟨idx.toNat,by omega⟩
 by_cases q4:i<2 ^ n2
 case neg =>
  have d4:decide ((2:Int) ^ n2≤(i:Int))=true:=by
   rw [decide_eq_true_iff,show ((2:Int) ^ n2)=((2 ^ n2:Nat):Int) from by simp]
   omega
  have HF:Hid (V=false):=hid (by
   rw [HV.out]
   have:decide ((i:Int)<2 ^ n2)=false:=by
    rw [decide_eq_false_iff_not,show ((2:Int) ^ n2)=((2 ^ n2:Nat):Int) from by simp]
    omega
   simp only [this]
   simp)
  clear HV q3 q4
  refine wp_region_quiet_below (by kernel_rfl) (by kernel_rfl) ?_
  repeat (quiet_step (first|exact r1 _ _|exact r2 _ _))
  refine wpQuiet_nil ?_
  intro wq hbq
  replace hbq:=Af hbq
  go_wp2_with fail
  exact⟨_,results_tmp rfl _ _ _,by rw [HF.out];rfl,hB0 _ hbq⟩
 case pos =>
 have d4:decide ((2:Int) ^ n2≤(i:Int))=false:=by
  rw [decide_eq_false_iff_not,show ((2:Int) ^ n2)=((2 ^ n2:Nat):Int) from by simp]
  omega
 have HF:Hid (V=CH.dB pub (2 ^ n2) i (CH.dl (CH.ends sig m)) path):=hid (by
  rw [HV.out]
  have:decide ((i:Int)<2 ^ n2)=true:=by
   rw [decide_eq_true_iff,show ((2:Int) ^ n2)=((2 ^ n2:Nat):Int) from by simp]
   omega
  simp only [this]
  simp [q2])
 clear HV q3
 refine wp_region_quiet_below (by kernel_rfl) (by kernel_rfl) ?_
 repeat (quiet_step (first|exact r1 _ _|exact r2 _ _))
 refine wpQuiet_nil ?_
 intro wq hbq
 replace hbq:=Af hbq
 clear r1 r2 k0 k1' k2' c1 c2
 have hboxq:wq.heap[w.heap.size]?=some (.cells #[.int .i64 i,.slice a1 18 k1,.slice a2 n2 k2] 28 (0,0)):=by
  rw [hbq.block _ (by simp)]
  simp only [World.alloc,Array.getElem?_push_size]
 have hbq':=hB0 _ hbq
 have hszq:w.heap.size<wq.heap.size:=by have:=hbq.size;simp at this;omega
 have hGq:Gl wq:=hG.below hbq'
 clear hbq hB0
 go_wp2_with fail
 refine (digits_any m _).mono ?_
 rintro e w1 ⟨rfl,hw1⟩
 have hI0:VerI wq w.heap.size i (.slice a1 18 k1) (.slice a2 n2 k2) sig [] w1:=by
  subst hw1
  refine⟨by simp,?_,⟨_,(two_boxes wq _ _).1,Ai.nil _ _⟩,?_⟩
  ·rw [Below.heap_alloc _ _ _ (by simp;omega),Below.heap_alloc _ _ _ hszq];exact hboxq
  ·exact ((Below.refl _ wq).alloc nR _).alloc (by simp) _
 have hcm:w1.cell? ⟨wq.heap.size+1,0,none⟩=some (.string ⟨m.toArray⟩):=by
  subst hw1
  exact Aa (two_boxes wq _ _).2 0
 have hsz1:w1.heap.size=wq.heap.size+1+1:=by subst hw1;simp
 have hG1:Gl w1:=hGq.below hI0.below
 clear hw1
 go_wp2_with fail
 refine (wpIn_wide (n:=4)).1 ?_
 refine wpIn_rangeFunc_ownG (n:=4) (α:=DP) rfl (by decide) (gf:=107) (lb:=#[.pointer (some ⟨wq.heap.size+1,0,none⟩)]) rfl trivial (enters_of func107 (by kernel_rfl) rfl)
  (K0 m (by omega) 3 (wq.heap.size+1) (by decide) w1 hG1 (by omega) hcm) walksK_t walksK_b (Below.refl _ _) (fun _=>rfl)
  (VerI wq w.heap.size i (.slice a1 18 k1) (.slice a2 n2 k2) sig) (fun _ _ _=>False) (VerI.own _ _ _ _ _ _ hszq _ (by omega)) (fun _ _ _ _ _ hs _ _=>hs) hI0
  (fun x=>{ tmps:=#[.string ⟨pub.toArray⟩,.string ⟨m.toArray⟩,.agg #[.int .i64 i,.slice a1 18 k1,.slice a2 n2 k2],undef,undef,.pointer (some ⟨w.heap.size,0,none⟩),.bool false,.int .i64 n2,.func (.func 116) #[] #[],.pointer (some ⟨wq.heap.size,0,none⟩),.int .i64 (x.1.val:Nat),.int .i64 (x.2.val:Nat),.pointer (some ⟨w.heap.size,2,none⟩),.slice a2 n2 k2,.int .i64 n2,.pointer (some ⟨w.heap.size,1,none⟩),.slice a1 18 k1,.int .i64 18,.bool false,.bool false,.int .i64 n2,.bool false,.bool false,.bool false,.func (.func 116) #[] #[],.pointer (some ⟨w.heap.size,1,none⟩),.slice a1 18 k1,.bool false,.bool false,.bool false,.func (.func 116) #[] #[],.pointer (some ⟨w.heap.size,2,none⟩),.slice a2 n2 k2,.bool false,.bool false,.bool false,.pointer (some ⟨w.heap.size,0,none⟩),.int .i64 i,.bool false,.bool false,.bool false,.pointer (some ⟨w.heap.size,0,none⟩),.int .i64 i,.int .i64 n2,.int .i64 (2 ^ n2),.bool false,.bool false,.string ⟨m.toArray⟩,.func (.func 107) #[] #[.pointer (some ⟨wq.heap.size+1,0,none⟩)],.int .i64 (x.1.val:Nat),.int .i64 (x.2.val:Nat),undef,undef,undef,undef,undef,undef,undef,undef,undef,undef,undef,undef,undef,undef,undef,undef,undef,undef,undef,undef,undef],defers:=[] }) ?assign ?body ?done ?stop
 case assign =>
  intro l x W K hK
  gi_wp2
  exact hK
 case stop =>
  rintro D c pre W _ _ hx _
  exact hx.elim
 case body =>
  rintro l pre x W hI hlen
  have hk18:=x.1.isLt
  have hd16:=x.2.isLt
  have hGW:Gl W:=hGq.below hI.below
  obtain⟨hle,hb0,⟨v,hb3,hO⟩,hbw⟩:=hI
  obtain⟨sb,so,rfl,hsb,hsc⟩:=hsig
  have hBW:∀ W',Below (wq.heap.size+2) W W'→Below w.heap.size w W':=fun W' h=>hbq'.trans ((hbw.trans (h.mono (by omega))).mono (by omega))
  have hxs:sig[x.1.val]?=some (sig.getD x.1.val []):=by
   have:x.1.val<sig.length:=by omega
   simp [this]
  have hSk:∀ W',Below (wq.heap.size+2) W W'→W'.cell? ⟨w.heap.size,1,none⟩=some (.slice (some ⟨sb,so,none⟩) 18 k1)∧W'.cell? ⟨sb,so+x.1.val,none⟩=some (.string ⟨(sig.getD x.1.val []).toArray⟩):=fun W' hb =>
   ⟨by rw [hb.cell (p:=⟨w.heap.size,1,none⟩) (by simp;omega)];simp [World.cell?,hb0],by rw [(hBW W' hb).cell (p:=⟨sb,so+x.1.val,none⟩) hsb];exact hsc _ _ hxs⟩
  have hV:∀ W',Below (wq.heap.size+2) W W'→W'.cell? ⟨wq.heap.size,0,none⟩=some v:=fun W' hb=>by
   rw [hb.cell (p:=⟨wq.heap.size,0,none⟩) (by simp)];simp [World.cell?,hb3]
  have hF:∀ W',Below (wq.heap.size+2) W W'→W'.frozen? ⟨wq.heap.size,0,none⟩=false:=fun W' hb=>by
   rw [hb.frozen (p:=⟨wq.heap.size,0,none⟩) (by simp)];exact Ao hb3 _
  have hB1:Below (wq.heap.size+2) W W.drew:=(Below.refl _ W).drew
  have hGd:Gl W.drew:=hGW.below (Below.refl _ W).drew
  have hO1:Ai (wq.heap.size+2) W.drew v (pre.map fun x=>CH.chain (15 - x.2.val) (sig.getD x.1.val [])):=hO.below (Below.refl _ W).drew
  have hv1:=hV _ hB1
  have hl18:pre.length≤18:=by omega
  have hxl:(sig.getD x.1.val []).length≤140737488355328:=by have:=hl1 _ (List.mem_of_getElem? hxs);omega
  have h15:((15:Int) - ((x.2.val:Nat):Int))=((15 - x.2.val:Nat):Int):=by omega
  have hw15:IntKind.i64.wrap ((15 - x.2.val:Nat):Int)=((15 - x.2.val:Nat):Int):=(by decide +kernel:∀ y:Fin 16,IntKind.i64.wrap ((15 - y.val:Nat):Int)=((15 - y.val:Nat):Int)) x.2
  have hi0:(0:Int)≤((x.1.val:Nat):Int):=by omega
  have hi18:((x.1.val:Nat):Int)<18:=by omega
  generalize hsx:sig.getD x.1.val []=sx at *
  clear hxs
  generalize hy15:15 - x.2.val=y15 at *
  gi_wp2_with fail
  refine D7 (fun W'=>W'.cell? ⟨w.heap.size,1,none⟩=some (.slice (some ⟨sb,so,none⟩) 18 k1)∧W'.cell? ⟨sb,so+x.1.val,none⟩=some (.string ⟨sx.toArray⟩)) _ _ (by kernel_rfl) (by kernel_rfl) ?_ (hSk _ hB1) (fun hHeld=>?_)
  ·rintro⟨a,w,h⟩;exact h
  refine tk 1 (v:=?_) rfl (by rfl) hHeld ?_ ?_
  rotate_left
  ·(intro w hSw;(try dsimp only at hSw);go_simp;try with_reducible rfl)
  (try simp only [Act.put,pA,pB,pC])
  refine tk 2 (v:=?_) rfl (by rfl) hHeld ?_ ?_
  rotate_left
  ·(intro w hSw;(try dsimp only at hSw);go_simp;try with_reducible rfl)
  (try simp only [Act.put,pA,pB,pC])
  refine tk 3 (v:=?_) rfl (by rfl) hHeld ?_ ?_
  rotate_left
  ·(intro w hSw;(try dsimp only at hSw);go_simp;try with_reducible rfl)
  (try simp only [Act.put,pA,pB,pC])
  refine tk 4 (v:=?_) rfl (by rfl) hHeld ?_ ?_
  rotate_left
  ·(intro w hSw;(try dsimp only at hSw);go_simp;try with_reducible rfl)
  (try simp only [Act.put,pA,pB,pC])
  refine tk 5 (v:=?_) rfl (by rfl) hHeld ?_ ?_
  rotate_left
  ·(intro w hSw;(try dsimp only at hSw);go_simp;try with_reducible rfl)
  (try simp only [Act.put,pA,pB,pC])
  refine tk 6 (v:=?_) rfl (by rfl) hHeld ?_ ?_
  rotate_left
  ·(intro w hSw;(try dsimp only at hSw);go_simp;try with_reducible rfl)
  (try simp only [Act.put,pA,pB,pC])
  refine tk 7 (v:=?_) rfl (by rfl) hHeld ?_ ?_
  rotate_left
  ·(intro w hSw;(try dsimp only at hSw);go_simp;try with_reducible rfl)
  (try simp only [Act.put,pA,pB,pC])
  refine wpAnyH_ready (rs:=[0,8]) (by kernel_rfl) (by simp) ?_
  refine AllReadyH.cons (o:=_) rfl (fun K hK=>?_) ?_
  focus
   go_simp
   refine hK.out _ _ (hSk _ hB1) (fun hHeld=>?_)
   clear hK K
   (try simp only [Act.put,pA,pB,pC])
   refine rk 8 rfl (fun K hK=>?_)
   go_simp
   refine (Fo sx y15 W.drew hGd (by omega) hxl).mono ?_
   rintro e w3 ⟨rfl,dR⟩
   have hB3:Below (wq.heap.size+2) W w3:=hB1.trans (dR.mono hle)
   have hv3:=hV _ hB3
   have hv4:∀ o,(w3.alloc o).cell? ⟨wq.heap.size,0,none⟩=some v:=fun o=>hV _ (hB3.alloc (nT hle hB3.size) o)
   have hO3:=hO1.below dR
   go_wp2_with fail
   refine hK.out _ _ (hSk _ hB3) (fun hHeld=>?_)
   clear hK K
   (try simp only [Act.put,pA,pB,pC])
   refine rk 9 rfl (fun K hK=>?_)
   go_simp
   refine hK.out _ _ (hSk _ (hB3.alloc (nT hle hB3.size) _)) (fun hHeld=>?_)
   clear hK K
   (try simp only [Act.put,pA,pB,pC])
   refine rk 10 rfl (fun K hK=>?_)
   rw [if_pos (by rfl)]
   refine A7 _ _ rfl (wq.heap.size+2) v _ rfl (hO3.alloc _) w3.heap.size _ (CH.chain y15 sx) rfl (World.cell?_alloc_mark _ _ _ _ _) (by rw [List.length_map];omega) (by have:=hB3.size;simp;omega) ?_
   intro v5 w5 hO5 hg5
   obtain⟨a5,c5,rfl,hf5a,hf5b,hf5c⟩:=hO5.form
   have hB5:Below (wq.heap.size+2) W w5:=(hB3.alloc (nT hle hB3.size) _).grown hg5 (by have:=hB3.size;simp;omega) (fun k e=>(hO3.ownBlock k e).1)
   have hv5:=hV _ hB5
   have hf5:=hF _ hB5
   refine hK.out _ _ (hSk _ hB5) (fun hHeld=>?_)
   clear hK K
   (try simp only [Act.put,pA,pB,pC])
   refine rk 11 rfl (fun K hK=>?_)
   go_simp
   refine hK.out _ _ (⟨(World.cell?_setCell_far _ ⟨wq.heap.size,0,none⟩ ⟨w.heap.size,1,none⟩ _ (fun e=>by dsimp only at e;omega)).trans (hSk _ hB5).1,(World.cell?_setCell_far _ ⟨wq.heap.size,0,none⟩ ⟨sb,so+x.1.val,none⟩ _ (fun e=>by dsimp only at e;omega)).trans (hSk _ hB5).2⟩) (fun hHeld=>?_)
   clear hK K
   (try simp only [Act.put,pA,pB,pC])
   refine wpAnyH_done (by kernel_rfl) ?_ _
  rotate_left 1
  refine AllReadyH.cons (o:=_) rfl (fun K hK=>?_) AllReadyH.nil
  focus
   go_simp
   refine (Fo sx y15 W.drew hGd (by omega) hxl).mono ?_
   rintro e w3 ⟨rfl,dR⟩
   have hB3:Below (wq.heap.size+2) W w3:=hB1.trans (dR.mono hle)
   have hv3:=hV _ hB3
   have hv4:∀ o,(w3.alloc o).cell? ⟨wq.heap.size,0,none⟩=some v:=fun o=>hV _ (hB3.alloc (nT hle hB3.size) o)
   have hO3:=hO1.below dR
   go_wp2_with fail
   refine hK.out _ _ (hSk _ hB3) (fun hHeld=>?_)
   clear hK K
   (try simp only [Act.put,pA,pB,pC])
   refine wpAnyH_ready (rs:=[0,9]) (by kernel_rfl) (by simp) ?_
   refine AllReadyH.cons (o:=_) rfl (fun K hK=>?_) ?_
   focus
    go_simp
    refine hK.out _ _ (hSk _ hB3) (fun hHeld=>?_)
    clear hK K
    (try simp only [Act.put,pA,pB,pC])
    refine rk 9 rfl (fun K hK=>?_)
    go_simp
    refine hK.out _ _ (hSk _ (hB3.alloc (nT hle hB3.size) _)) (fun hHeld=>?_)
    clear hK K
    (try simp only [Act.put,pA,pB,pC])
    refine rk 10 rfl (fun K hK=>?_)
    rw [if_pos (by rfl)]
    refine A7 _ _ rfl (wq.heap.size+2) v _ rfl (hO3.alloc _) w3.heap.size _ (CH.chain y15 sx) rfl (World.cell?_alloc_mark _ _ _ _ _) (by rw [List.length_map];omega) (by have:=hB3.size;simp;omega) ?_
    intro v5 w5 hO5 hg5
    obtain⟨a5,c5,rfl,hf5a,hf5b,hf5c⟩:=hO5.form
    have hB5:Below (wq.heap.size+2) W w5:=(hB3.alloc (nT hle hB3.size) _).grown hg5 (by have:=hB3.size;simp;omega) (fun k e=>(hO3.ownBlock k e).1)
    have hv5:=hV _ hB5
    have hf5:=hF _ hB5
    refine hK.out _ _ (hSk _ hB5) (fun hHeld=>?_)
    clear hK K
    (try simp only [Act.put,pA,pB,pC])
    refine rk 11 rfl (fun K hK=>?_)
    go_simp
    refine hK.out _ _ (⟨(World.cell?_setCell_far _ ⟨wq.heap.size,0,none⟩ ⟨w.heap.size,1,none⟩ _ (fun e=>by dsimp only at e;omega)).trans (hSk _ hB5).1,(World.cell?_setCell_far _ ⟨wq.heap.size,0,none⟩ ⟨sb,so+x.1.val,none⟩ _ (fun e=>by dsimp only at e;omega)).trans (hSk _ hB5).2⟩) (fun hHeld=>?_)
    clear hK K
    (try simp only [Act.put,pA,pB,pC])
    refine wpAnyH_done (by kernel_rfl) ?_ _
   rotate_left 1
   refine AllReadyH.cons (o:=_) rfl (fun K hK=>?_) AllReadyH.nil
   focus
    go_simp
    refine hK.out _ _ (hSk _ (hB3.alloc (nT hle hB3.size) _)) (fun hHeld=>?_)
    clear hK K
    (try simp only [Act.put,pA,pB,pC])
    refine rk 0 rfl (fun K hK=>?_)
    go_simp
    refine hK.out _ _ (hSk _ (hB3.alloc (nT hle hB3.size) _)) (fun hHeld=>?_)
    clear hK K
    (try simp only [Act.put,pA,pB,pC])
    refine rk 10 rfl (fun K hK=>?_)
    rw [if_pos (by rfl)]
    refine A7 _ _ rfl (wq.heap.size+2) v _ rfl (hO3.alloc _) w3.heap.size _ (CH.chain y15 sx) rfl (World.cell?_alloc_mark _ _ _ _ _) (by rw [List.length_map];omega) (by have:=hB3.size;simp;omega) ?_
    intro v5 w5 hO5 hg5
    obtain⟨a5,c5,rfl,hf5a,hf5b,hf5c⟩:=hO5.form
    have hB5:Below (wq.heap.size+2) W w5:=(hB3.alloc (nT hle hB3.size) _).grown hg5 (by have:=hB3.size;simp;omega) (fun k e=>(hO3.ownBlock k e).1)
    have hv5:=hV _ hB5
    have hf5:=hF _ hB5
    refine hK.out _ _ (hSk _ hB5) (fun hHeld=>?_)
    clear hK K
    (try simp only [Act.put,pA,pB,pC])
    refine rk 11 rfl (fun K hK=>?_)
    go_simp
    refine hK.out _ _ (⟨(World.cell?_setCell_far _ ⟨wq.heap.size,0,none⟩ ⟨w.heap.size,1,none⟩ _ (fun e=>by dsimp only at e;omega)).trans (hSk _ hB5).1,(World.cell?_setCell_far _ ⟨wq.heap.size,0,none⟩ ⟨sb,so+x.1.val,none⟩ _ (fun e=>by dsimp only at e;omega)).trans (hSk _ hB5).2⟩) (fun hHeld=>?_)
    clear hK K
    (try simp only [Act.put,pA,pB,pC])
    refine wpAnyH_done (by kernel_rfl) ?_ _
  all_goals
   have hbd:Below W.heap.size W w3:=(Below.refl _ W).drew.trans (dR.mono nR)
   have hko:∀ u,KeepsOthers W (w5.setCell ⟨wq.heap.size,0,none⟩ u):=fun u =>
    (((Dd hbd).trans (KeepsOthers.alloc _ _)).trans (KeepsOthers.of_grownBy hg5 (fun j o hj ho=>by
     obtain⟨_,cs,t,fr,hcs⟩:=(hO3.alloc _).ownBlock j hj
     rw [ho] at hcs;cases hcs;rfl))).trans (KeepsOthers.setCell _ _ _)
   have hk5:∀ k,k<wq.heap.size+2→w5.heap[k]?=W.heap[k]?:=fun k hk=>hB5.block k hk
   have hks:∀ k u,k≠wq.heap.size→(w5.setCell ⟨wq.heap.size,0,none⟩ u).heap[k]?=w5.heap[k]?:=fun k u hk=>Aw _ _ _ _ hk
   refine⟨(hko _).from _,(hko _).walks,⟨?_,?_,⟨.slice a5 (pre.length+1) c5,?_,?_⟩,?_⟩⟩
   ·have:=(hko undef).size;simp at this ⊢;omega
   ·rw [hks _ _ (by omega),hk5 _ (by omega)];exact hb0
   ·exact Al w5 wq.heap.size 0 _ _ _ _ ((hk5 _ (by omega)).trans hb3)
   ·rw [List.map_append]
    have h0:=hO5.setFar (g:=wq.heap.size) (by omega) 0 (.slice a5 (pre.length+1) c5)
    simp only [Ai,List.length_append,List.length_map,List.length_cons,List.length_nil,Nat.zero_add,List.map_cons,List.map_nil,hsx,hy15] at h0 ⊢
    exact h0
   ·exact⟨hB5.os.trans hbw.os,hB5.tape.trans hbw.tape,hB5.output.trans hbw.output,by have:=hbw.size;have:=(hko undef).size;simp at this ⊢;omega,fun k hk=>by rw [hks _ _ (by omega),hk5 _ (by omega)];exact hbw.block k hk⟩
 case done =>
  intro D xs W hD hxs hI hdef
  subst hxs
  have hGW:Gl W:=hGq.below hI.below
  obtain⟨hle,hb0,⟨v,hb3,hO⟩,hbw⟩:=hI
  have hbW:Below w.heap.size w W:=hbq'.trans (hbw.mono (by omega))
  have hel:((CH.dN m).map fun x=>CH.chain (15 - x.2.val) (sig.getD x.1.val []))=CH.ends sig m:=(ends_eq sig m hn1).symm
  rw [hel] at hO
  have cO:∀ W',Below W.heap.size W W'→Calls prog 104 #[v] W' (fun e w'=>e=.returned (.string ⟨(CH.dl (CH.ends sig m)).toArray⟩)∧Below W'.heap.size W' w'):=fun W' hb =>
   of_any v _ W' (hGW.below hb) (hO.below hb).strs (by
    refine nT (Iv _ 1000000 (ends_len sig m hl1) (by omega)) ?_
    have:(CH.ends sig m).length≤18:=by rw [← hel,List.length_map,CH.bU];exact Nat.le_refl _
    omega)
  have cT:∀ W',Below W.heap.size W W'→Calls prog 118 #[.string ⟨pub.toArray⟩,.int .i64 ((2:Int) ^ n2),.int .i64 i,.string ⟨(CH.dl (CH.ends sig m)).toArray⟩,.slice a2 n2 k2] W' (fun e w'=>e=.returned (.bool V)∧Below W'.heap.size W' w'):=fun W' hb=>by
   have hbb:Below w.heap.size w W':=hbW.trans (hb.mono hbW.size)
   have h3:=treeCheck_any pub (CH.dl (CH.ends sig m)) (2 ^ n2) i (.slice a2 n2 k2) path W' (hGW.below hb) q4 (by omega) (by rw [CH.iG];omega) ((H2.out.below hbb nR).mono hbb.size) (by omega) hl2
   rw [show ((2 ^ n2:Nat):Int)=(2:Int) ^ n2 from by simp] at h3
   rw [HF.out]
   exact h3
  obtain⟨va,vc,ve,hvf⟩:=hO.form
  generalize hLe:(CH.ends sig m).length=ne at ve
  subst ve
  clear hvf hLe
  generalize CH.dl (CH.ends sig m)=leaf at cO cT HF
  have g0:∀ (d:Nat) (os:Array Obj),(grow (redrawn W d) os).cell? ⟨w.heap.size,0,none⟩=some (.int .i64 i):=cell_regrown (by simp [World.cell?,hb0])
  have g2:∀ (d:Nat) (os:Array Obj),(grow (redrawn W d) os).cell? ⟨w.heap.size,2,none⟩=some (.slice a2 n2 k2):=cell_regrown (by simp [World.cell?,hb0])
  have g3:∀ (d:Nat) (os:Array Obj),(grow (redrawn W d) os).cell? ⟨wq.heap.size,0,none⟩=some (.slice va ne vc):=cell_regrown (by simp [World.cell?,hb3])
  have hdlt:D<W.heap.size:=(aZ hdef)
  clear HF hb0 hb3 hO hel hcm hI0
  go_wp2_with fail
  refine wp_region_quiet_below (by kernel_rfl) (by kernel_rfl) ?_
  repeat (quiet_step (first|exact Calls.regrown_of (cO _ (below_regrown _ _ _))|exact Calls.regrown_of (cT _ (below_regrown _ _ _))))
  refine wpQuiet_nil ?_
  intro wq hbq
  replace hbq:=Af hbq
  go_wp2_with fail
  refine⟨by simp,.inl ⟨_,_,rfl,run_takeDeferred ((hbq.block D hdlt).trans hdef),?_⟩⟩
  exact⟨_,results_tmp rfl _ _ _,rfl,(hbW.trans (hbq.mono hbW.size)).grown (grownBy_putObj' _ _ _) (nT hbW.size hbq.size) (fun k e=>by cases e;omega)⟩
end
end Go.Proofs.YtjaeapaeaiiieaaGreatDoor
namespace CH
def ig (v:Version):Version:={ v with sel:=⟨0,[],[]⟩ }
def message (v:Version):Except Int Str:=match bK (ig v) with
 | .error e=>.error e
 | .ok _=>.ok (sum ((bare v).getD []))
def msg (v:Version):Str:=match message v with
 | .error _=>[]
 | .ok m=>m
theorem bare_noSeal (v:Version):bare (ig v)=bare v:=rfl
end CH
namespace Go.Proofs.YtjaeapaeaiiieaaGreatDoor
open Go.RowKit Go.Lib Go.Shelf Go.Sort
theorem actTextC:ActTextC:=fun a s W hG h=>actText_of a s W hG h fun W' hb=>actUnused_any a s W' (hG.below hb) ((h.below hb (Nat.le_refl _)).mono hb.size)
theorem K3 (v:CH.Version) (s:bF) (w:World) (hG:Gc w) (h:aK w.heap.size w v s) :
  Calls Tryz.prog 32 #[.agg (Ab v s).toArray] w (Ret w (bareV (CH.bare v))):=bare_of actTextC v s w hG h
def resV:Except Int (List UInt8)→Value
 | .ok t=>.tuple #[.string ⟨t.toArray⟩,.int .i64 0]
 | .error e=>.tuple #[.string ⟨#[]⟩,.int .i64 e]
theorem bare_len {v:CH.Version} {s:bF} {B:Nat} {w:World} {t:List UInt8} (hb:CH.bare v=some t) (h:aK B w v s):t.length≤5000000000:=by
 rw [bare_eq] at hb
 split at hb
 ·cases hb
 ·rename_i hc
  obtain⟨u,hu,rfl⟩:=Option.map_eq_some_iff.1 hb
  have h40:v.acts.length≤40:=by
   simp only [Bool.or_eq_true,Bool.not_eq_true',not_or,Bool.and_eq_false_iff,decide_eq_false_iff_not,not_and] at hc
   omega
  have hs:∀ a∈v.acts,(CH.aT a).isSome=true:=fun a ha=>by
   cases he:CH.aT a with
   | none=>rw [Fi he v.acts ha] at hu;cases hu
   | some _=>rfl
  rw [Fh v.acts hs] at hu
  cases hu
  have h1:=Iz h.acts.acts
  have h2:=Nat.mul_le_mul_right 100000101 h40
  have h3:=J2 h.small
  simp only [List.length_append,List.length_singleton]
  omega
def C5 (s:CH.Seal):List CH.Word:=[.str ([115,101,97,108]:List UInt8),.int s.index,.strs s.sig,.str [47],.strs s.path]
theorem sealWords_len {s:CH.Seal} (hi:I64 s.index) (h1:Short s.sig) (h2:Short s.path) (h18:s.sig.length≤18) (h8:s.path.length≤8):(CH.words (C5 s)).length≤1000000:=by
 have h3:((C5 s).flatMap CH.Word.texts).length≤80:=by
  unfold C5
  simp only [List.flatMap_cons,List.flatMap_nil,List.length_append,D4,List.length_nil]
  show 1+(1+(s.sig.length+(1+(s.path.length+0))))≤80
  omega
 refine Nat.le_trans (Gn _ 10000 80 ?_ h3) (by decide)
 intro x hx
 simp only [C5,List.mem_cons,List.not_mem_nil,or_false] at hx
 rcases hx with rfl|rfl|rfl|rfl|rfl
 ·exact Bj _ (by simp)
 ·exact Bk _ hi
 ·exact h1.2
 ·exact Bj _ (by simp)
 ·exact h2.2
theorem Mt (v:CH.Version):CH.bK v=match CH.bare v with
  | none=>.error 1
  | some s=>if decide (v.sel.index<0)||(decide (255<v.sel.index)||(!CH.dI v.sel.sig 18||!CH.dI v.sel.path 8)) then .error 1
   else if 20000<(s++(CH.words (C5 v.sel)++[10])).length then .error 2 else .ok (s++(CH.words (C5 v.sel)++[10])):=by
 unfold CH.bK CH.within C5
 cases CH.bare v with
 | none=>rfl
 | some s =>
  dsimp only
  have e1:decide (0≤v.sel.index)=!decide (v.sel.index<0):=by
   by_cases h:v.sel.index<0
   ·rw [decide_eq_true h,decide_eq_false (by omega)];rfl
   ·rw [decide_eq_false h,decide_eq_true (by omega)];rfl
  have e2:decide (v.sel.index≤255)=!decide (255<v.sel.index):=by
   by_cases h:255<v.sel.index
   ·rw [decide_eq_true h,decide_eq_false (by omega)];rfl
   ·rw [decide_eq_false h,decide_eq_true (by omega)];rfl
  rw [e1,e2,List.append_assoc]
  cases decide (v.sel.index<0) <;> cases decide (255<v.sel.index) <;> cases CH.dI v.sel.sig 18 <;> cases CH.dI v.sel.path 8 <;> rfl
theorem Di (v:CH.Version) (s:bF) (w:World) (hG:Gc w) (h:aK w.heap.size w v s) :
  Calls Tryz.prog 31 #[.agg (Ab v s).toArray] w (Ret w (resV (CH.bK v))):=by
 obtain⟨R,hR⟩:∃ R,Hid (resV (CH.bK v)=R):=⟨_,hid rfl⟩
 rw [hR.out]
 have hR1:=hR.out
 rw [Mt] at hR1
 clear hR
 have hB0:=fun o=>(Below.refl _ w).alloc (Nat.le_refl _) o
 have HV:=hid fun (W:World) (hb:Below w.heap.size w W)=>(h.below hb (Nat.le_refl _)).mono hb.size
 have T:=fun (W:World) (hb:Below w.heap.size w W)=>K3 v s W (hG.below hb) (HV.out W hb)
 obtain⟨t,ht⟩:∃ t,CH.bare v=t:=⟨_,rfl⟩
 have hl:∀ x,t=some x→x.length≤5000000000:=fun x hx=>bare_len (ht.trans hx) h
 rw [ht] at T hR1
 have T:=hid T
 have hR1:=hid hR1
 have HS:=hid h.small
 obtain⟨va,v1,v2⟩:=s
 clear h ht
 generalize hC:Ab v { va:=va,v1:=v1,v2:=v2 }=C at T ⊢
 have hlen:(Tryz.prog.info? 30).map (·.size)=some C.length:=by rw [← hC];kernel_rfl
 have hC:=hid hC
 have hr0:=hid (Br w C 30)
 go_enter Tryz.func31,Tryz.ntmps31
 go_wp2_with (refine wpList_load_mid rfl 30 _ rfl w.heap.size 0 rfl C _ hr0.out Tryz.underlying30 rfl hlen ?_)
 refine (T.out _ (hB0 _)).mono ?_
 rintro e w1 ⟨rfl,hb1⟩
 clear T
 have hB1:Below w.heap.size w w1:=(hB0 _).trans (hb1.mono (by simp))
 have hlt1:w.heap.size<w1.heap.size:=Nat.lt_of_lt_of_le (by simp) hb1.size
 have hr1:w1.rangeAt w.heap.size 0 C:=Ck hr0.out hb1 (by simp)
 rw [← hC.out] at hr1
 have r5:w1.rangeAt w.heap.size 5 [aJ v.sel.index,v1,v2]:=Bp (l:=[aJ v.authority,aJ v.number,aJ v.pos,ah v.prev,va]) hr1 5 rfl
 have k5:w1.cell? ⟨w.heap.size,5,none⟩=some (.int .i64 v.sel.index):=hr1 5 _ rfl
 have k6:w1.cell? ⟨w.heap.size,6,none⟩=some v1:=hr1 6 _ rfl
 have k7:w1.cell? ⟨w.heap.size,7,none⟩=some v2:=hr1 7 _ rfl
 clear hb1 hr0 hr1 hlen r5
 have hv1:Strs w1.heap.size w1 v1 v.sel.sig:=(HV.out w1 hB1).sig
 have hv2:Strs w1.heap.size w1 v2 v.sel.path:=(HV.out w1 hB1).path
 obtain⟨a1,c1,rfl,_,_⟩:=hv1.form
 obtain⟨a2,c2,rfl,_,_⟩:=hv2.form
 have hb1a:=fun o=>(Below.refl _ w1).alloc (Nat.le_refl _) o
 cases t with
 | none =>
  dsimp only [bareV]
  generalize v.sel.sig.length=n1 at *
  generalize v.sel.path.length=n2 at *
  go_wp2
  refine bodyPost_ret (results_tmp2 rfl _ _ _) rfl ?_
  exact⟨by rw [← hR1.out];rfl,hB1.alloc hB1.size _⟩
 | some t =>
  have hl:=hl t rfl
  dsimp only at hR1
  dsimp only [bareV]
  obtain⟨b1,h1⟩:∃ b,decide (v.sel.index<0)=b:=⟨_,rfl⟩
  obtain⟨b2,h2⟩:∃ b,decide (255<v.sel.index)=b:=⟨_,rfl⟩
  have D1:=fun (W:World) (hb:Below w1.heap.size w1 W)=>Hc _ v.sel.sig 18 W ((hG.below hB1).gl.below hb) ((hv1.below hb (Nat.le_refl _)).mono hb.size) (fun l hl=>Nat.le_trans (HS.out.sig.2 l hl) (by decide))
  have D2:=fun (W:World) (hb:Below w1.heap.size w1 W)=>Hc _ v.sel.path 8 W ((hG.below hB1).gl.below hb) ((hv2.below hb (Nat.le_refl _)).mono hb.size) (fun l hl=>Nat.le_trans (HS.out.path.2 l hl) (by decide))
  obtain⟨b3,h3⟩:∃ b,CH.dI v.sel.sig 18=b:=⟨_,rfl⟩
  obtain⟨b4,h4⟩:∃ b,CH.dI v.sel.path 8=b:=⟨_,rfl⟩
  rw [h1,h2,h3,h4] at hR1
  rw [h3] at D1
  rw [h4] at D2
  have D1:=hid D1
  have D2:=hid D2
  have H3:=hid h3
  have H4:=hid h4
  have hv1:=hid hv1
  have hv2:=hid hv2
  clear h3 h4
  generalize hn1:v.sel.sig.length=n1 at *
  generalize hn2:v.sel.path.length=n2 at *
  have hn1:=hid hn1
  have hn2:=hid hn2
  rcases (by cases b1 <;> cases b2 <;> simp:(b1=true)∨(b1=false∧b2=true)∨(b1=false∧b2=false)) with rfl|⟨rfl,rfl⟩|⟨rfl,rfl⟩
  ·go_wp2
   refine bodyPost_ret (results_tmp2 rfl _ _ _) rfl ?_
   exact⟨by rw [← hR1.out];rfl,hB1.alloc hB1.size _⟩
  ·go_wp2
   refine bodyPost_ret (results_tmp2 rfl _ _ _) rfl ?_
   exact⟨by rw [← hR1.out];rfl,hB1.alloc hB1.size _⟩
  ·go_wp2_with fail
   refine (D1.out _ (hb1a _)).mono ?_
   rintro e w2 ⟨rfl,hb2⟩
   have hblk:=(hb2.block w1.heap.size (by simp)).trans (heap_alloc_last w1 _)
   have hlt2:w1.heap.size<w2.heap.size:=(Array.getElem?_eq_some_iff.1 hblk).1
   have g0:w2.cell? ⟨w1.heap.size,0,none⟩=some (.int .i64 v.sel.index):=Aa hblk 0
   have g1:w2.cell? ⟨w1.heap.size,1,none⟩=some (.slice a1 n1 c1):=Aa hblk 1
   have g2:w2.cell? ⟨w1.heap.size,2,none⟩=some (.slice a2 n2 c2):=Aa hblk 2
   have hb12:Below w1.heap.size w1 w2:=(hb1a _).trans (hb2.mono (by simp))
   have hB2:Below w.heap.size w w2:=hB1.trans (hb12.mono hB1.size)
   clear D1 hb2 hblk
   cases b3 with
   | false =>
    go_wp2
    refine bodyPost_ret (results_tmp2 rfl _ _ _) rfl ?_
    exact⟨by rw [← hR1.out];rfl,hB2⟩
   | true =>
    go_wp2_with fail
    refine (D2.out _ hb12).mono ?_
    rintro e w3 ⟨rfl,hb3⟩
    have m0:=(hb3.cell (p:=⟨w1.heap.size,0,none⟩) hlt2).trans g0
    have m1:=(hb3.cell (p:=⟨w1.heap.size,1,none⟩) hlt2).trans g1
    have m2:=(hb3.cell (p:=⟨w1.heap.size,2,none⟩) hlt2).trans g2
    have hB3:Below w.heap.size w w3:=hB2.trans (hb3.mono hB2.size)
    have hb13:Below w1.heap.size w1 w3:=hb12.trans (hb3.mono hb12.size)
    clear D2 hb3 g0 g1 g2
    cases b4 with
    | false =>
     go_wp2
     refine bodyPost_ret (results_tmp2 rfl _ _ _) rfl ?_
     exact⟨by rw [← hR1.out];rfl,hB3⟩
    | true =>
     have h18:v.sel.sig.length≤18:=by have:=H3.out;unfold CH.dI at this;simp only [Bool.and_eq_true,decide_eq_true_eq] at this;exact this.1
     have h8:v.sel.path.length≤8:=by have:=H4.out;unfold CH.dI at this;simp only [Bool.and_eq_true,decide_eq_true_eq] at this;exact this.1
     have hwl:=sealWords_len HS.out.index HS.out.sig HS.out.path h18 h8
     have hWV:Df w3.heap.size w3 (C5 v.sel) [.iface 9 (ah ([115,101,97,108]:List UInt8)),.iface 3 (.int .i64 v.sel.index),.iface 22 (.slice a1 n1 c1),.iface 9 (ah [47]),.iface 22 (.slice a2 n2 c2)] :=
      ⟨rfl,⟨rfl,HS.out.index⟩,⟨_,rfl,(hv1.out.below hb13 (Nat.le_refl _)).mono hb13.size,by omega⟩,rfl,⟨_,rfl,(hv2.out.below hb13 (Nat.le_refl _)).mono hb13.size,by omega⟩,trivial⟩
     have WN:=hid fun T=>Dy (C5 v.sel) _ T 5 w3 (hG.below hB3).gl hWV rfl (by decide) (by omega)
     generalize hWW:CH.words (C5 v.sel)=WW at *
     have hl4:¬ (9223372036854775807<WW.length+1):=by omega
     have hl5:¬ (9223372036854775807<t.length+(WW.length+1)):=by omega
     have hR2:Hid (resV (if 20000<(t++(WW++[10])).length then .error 2 else .ok (t++(WW++[10])))=R):=hid (by rw [← hR1.out];rfl)
     clear hR1 hWV h18 h8
     go_wp2_with fail
     refine (WN.out _).mono ?_
     rintro e w4 ⟨rfl,hb4⟩
     have hB4:Below w.heap.size w w4:=(hB3.alloc hB3.size _).trans (hb4.mono (hB3.alloc hB3.size _).size)
     clear WN hb4
     have ecat:(⟨t.toArray⟩++(⟨WW.toArray⟩++⟨#[10]⟩):ByteArray)=⟨(t++(WW++[10])).toArray⟩:=by rw [← Ag,← Ag]
     have hsz:(⟨t.toArray⟩++(⟨WW.toArray⟩++⟨#[10]⟩):ByteArray).size=t.length+(WW.length+1):=by rw [ecat];simp [ByteArray.size]
     by_cases h20:20000<t.length+(WW.length+1)
     ·have q:decide ((20000:Int)<((t.length+(WW.length+1):Nat):Int))=true:=by simp;omega
      have hR3:Hid (resV (.error 2)=R):=hid (by rw [← hR2.out,if_pos (by simpa using h20)])
      clear hR2
      go_wp2
      refine bodyPost_ret (results_tmp2 rfl _ _ _) rfl ?_
      exact⟨by rw [← hR3.out];rfl,hB4⟩
     ·have q:decide ((20000:Int)<((t.length+(WW.length+1):Nat):Int))=false:=by simp;omega
      have hR3:Hid (resV (.ok (t++(WW++[10])))=R):=hid (by rw [← hR2.out,if_neg (by simpa using h20)])
      clear hR2
      go_wp2
      refine bodyPost_ret (results_tmp2 rfl _ _ _) rfl ?_
      exact⟨by rw [← hR3.out];rfl,hB4⟩
theorem aK.ig {B:Nat} {w:World} {v:CH.Version} {s:bF} (h:aK B w v s):aK B w (CH.ig v) ⟨s.va,.slice none 0 0,.slice none 0 0⟩ :=
 ⟨h.acts,⟨none,0,rfl,Nat.le_refl _,by decide,fun e=>absurd rfl e⟩,⟨none,0,rfl,Nat.le_refl _,by decide,fun e=>absurd rfl e⟩,
  ⟨h.small.authority,h.small.number,h.small.pos,h.small.prev,⟨by show (-9223372036854775808:Int)≤0;decide,by show (0:Int)≤9223372036854775807;decide⟩,⟨by simp [CH.ig],fun l hl=>by cases hl⟩,⟨by simp [CH.ig],fun l hl=>by cases hl⟩⟩⟩
theorem Ms {v:CH.Version} {t:List UInt8} (h:CH.bK v=.ok t):∃ u,CH.bare v=some u:=by
 rw [Mt] at h
 cases hb:CH.bare v with
 | none=>rw [hb] at h;cases h
 | some u=>exact⟨u,rfl⟩
theorem K7 {v:CH.Version} {e:Int} (h:CH.bK v=.error e):e=1∨e=2:=by
 rw [Mt] at h
 cases hb:CH.bare v with
 | none=>rw [hb] at h;cases h;exact .inl rfl
 | some u =>
  rw [hb] at h
  dsimp only at h
  split at h
  ·cases h;exact .inl rfl
  ·split at h
   ·cases h;exact .inr rfl
   ·cases h
theorem Nf (v:CH.Version):CH.message v=match CH.bK (CH.ig v) with
 | .error e=>.error e
 | .ok _=>.ok (CH.sum ((CH.bare v).getD [])):=rfl
theorem Gd (v:CH.Version) (s:bF) (w:World) (hG:Gc w) (h:aK w.heap.size w v s) :
  Calls Tryz.prog 14 #[.agg (Ab v s).toArray] w (Ret w (resV (CH.message v))):=by
 obtain⟨R,hR⟩:∃ R,Hid (resV (CH.message v)=R):=⟨_,hid rfl⟩
 rw [hR.out]
 have hR1:=hR.out
 rw [Nf] at hR1
 have hB0:=fun o=>(Below.refl _ w).alloc (Nat.le_refl _) o
 have h0:=h.ig
 have HV:=hid fun (W:World) (hb:Below w.heap.size w W)=>(h0.below hb (Nat.le_refl _)).mono hb.size
 have T:=fun (W:World) (hb:Below w.heap.size w W)=>Di (CH.ig v) _ W (hG.below hb) (HV.out W hb)
 have TB:=fun (W:World) (hb:Below w.heap.size w W)=>K3 (CH.ig v) _ W (hG.below hb) (HV.out W hb)
 rw [CH.bare_noSeal] at TB
 obtain⟨t,ht⟩:∃ t,CH.bare v=t:=⟨_,rfl⟩
 obtain⟨x,hx⟩:∃ x,CH.bK (CH.ig v)=x:=⟨_,rfl⟩
 have hl:∀ u,t=some u→u.length≤5000000000:=fun u hu=>bare_len (ht.trans hu) h
 have hsome:∀ y,x=.ok y→∃ u,t=some u:=fun y hy=>by
  obtain⟨u,hu⟩:=Ms (hx.trans hy)
  rw [CH.bare_noSeal,ht] at hu
  exact⟨u,hu⟩
 have herr:∀ e,x=.error e→e≠0:=fun e he=>by
  rcases K7 (hx.trans he) with rfl|rfl <;> decide
 rw [hx,ht] at hR1
 rw [hx] at T
 rw [ht] at TB
 obtain⟨va,v1,v2⟩:=s
 clear h h0 hx ht hR
 dsimp only [Ab,CH.ig] at T TB ⊢
 have T:=hid T
 have TB:=hid TB
 have hR1:=hid hR1
 have hsz:∀ o,(w.alloc o).heap.size=w.heap.size+1:=fun o=>by simp
 go_enter Tryz.func14,Tryz.ntmps14
 go_wp2_with fail
 refine (T.out _ (hB0 _)).mono ?_
 rintro e w1 ⟨rfl,hb1⟩
 have hB1:Below w.heap.size w w1:=(hB0 _).trans (hb1.mono (by simp))
 have hblk:=(hb1.block w.heap.size (by simp)).trans (heap_alloc_last w _)
 have k0:=Aa hblk 0
 have k1:=Aa hblk 1
 have k2:=Aa hblk 2
 have k3:=Aa hblk 3
 have k4:=Aa hblk 4
 have k5:=Aa hblk 5
 have k6:=Aa hblk 6
 have k7:=Aa hblk 7
 clear T hb1 hblk hsz
 cases x with
 | error e =>
  dsimp only [resV]
  dsimp only at hR1
  have q:(e==0)=false:=by simpa using herr e rfl
  clear herr hsome hl
  go_wp2
  refine bodyPost_ret (results_tmp2 rfl _ _ _) rfl ?_
  exact⟨by rw [← hR1.out];rfl,hB1⟩
 | ok y =>
  obtain⟨u,rfl⟩:=hsome y rfl
  dsimp only [resV]
  have S:=hid fun W hG=>Mk u W hG (Nat.le_trans (hl u rfl) (by decide))
  dsimp only [Option.getD_some] at hR1
  go_wp2_with fail
  refine (TB.out _ hB1).mono ?_
  rintro e w2 ⟨rfl,hb2⟩
  have hB2:Below w.heap.size w w2:=hB1.trans (hb2.mono hB1.size)
  clear TB
  dsimp only [bareV]
  go_wp2_with fail
  refine (S.out _ (hG.below hB2).gl).mono ?_
  rintro e w3 ⟨rfl,hb3⟩
  clear S
  go_wp2
  refine bodyPost_ret (results_tmp2 rfl _ _ _) rfl ?_
  exact⟨by rw [← hR1.out];rfl,hB2.trans (hb3.mono hB2.size)⟩
theorem bare_ok {v:CH.Version} {u:List UInt8} (h:CH.bare v=some u):0≤v.authority∧v.authority<6∧1≤v.number∧v.number≤200∧0≤v.pos:=by
 rw [bare_eq] at h
 split at h
 ·cases h
 ·rename_i hc
  simp only [Bool.or_eq_true,Bool.not_eq_true',not_or,Bool.not_eq_false,Bool.and_eq_true,decide_eq_true_eq] at hc
  omega
theorem Ln {v:CH.Version} {m:List UInt8} (h:CH.message v=.ok m):m.length=16:=by
 rw [Nf] at h
 split at h
 ·cases h
 ·cases h;exact CH.dK _
theorem msg_len (v:CH.Version):(CH.msg v).length≤16:=by
 unfold CH.msg
 cases h:CH.message v with
 | error e=>simp
 | ok m=>rw [Ln h];exact Nat.le_refl _
def errInt:Except Int (List UInt8)→Int
 | .ok _=>0
 | .error e=>e
theorem resV_msg (v:CH.Version):resV (CH.message v)=.tuple #[.string ⟨(CH.msg v).toArray⟩,.int .i64 (errInt (CH.message v))]:=by
 unfold CH.msg
 cases CH.message v <;> rfl
end Go.Proofs.YtjaeapaeaiiieaaGreatDoor
namespace Go.Proofs.YtjaeapaeaiiieaaGreatDoor
section
open Go.Lib Go.Proofs.Tryz Go.RowKit Go.Shelf Go.Sort
theorem Cl {P:Program} {fn:Func} {p u:Tmp} {ty:TypeId} (h:fn.results=#[.cell p ty,.tmp u]) (tmps:Array Value) (w:World) (a:Addr) (x:Value)
  (hp:tmps.getD p undef=.pointer (some a)) (hl:(loadVar ty a).run P w=.ok x w):(results fn tmps).run P w=.ok (.tuple #[x,tmps.getD u undef]) w:=by
 simp only [results,h]
 have hp':tmps[p]?.getD undef=.pointer (some a):=by simpa using hp
 simp [asAddr]
 rw [hp']
 simp [Result.andThen,hl]
theorem alloc2_snd (w:World) (o1 o2:Obj):((w.alloc o1).alloc o2).heap[w.heap.size+1]?=some o2:=by
 have:=heap_alloc_last (w.alloc o1) o2
 rwa [World.size_alloc] at this
theorem alloc2_fst (w:World) (o1 o2:Obj):((w.alloc o1).alloc o2).heap[w.heap.size]?=some o1 :=
 (((Below.refl _ (w.alloc o1)).alloc nR o2).block w.heap.size (by simp)).trans (heap_alloc_last w o1)
theorem En {B:Nat} {w:World} {v:Value} {ls:List (List UInt8)} (h:Strs B w v ls) (b o:Nat) (cs:List Value) (hx:∀ l∈ls,∀ j,j<cs.length→w.cell? ⟨b,o+j,none⟩≠some (ah l)):Strs B (w.setCells b o cs) v ls:=by
 obtain⟨a,cap,h1,h2,h3,h4⟩:=h
 refine⟨a,cap,h1,h2,h3,fun hne=>?_⟩
 obtain⟨b',off,e,hlt,hc⟩:=h4 hne
 refine⟨b',off,e,hlt,fun j l hj=>?_⟩
 have h5:=hc j l hj
 rw [World.cell?_setCells_out b cs o w ⟨b',off+j,none⟩ ?_]
 ·exact h5
 ·intro hb _
  by_cases hr:off+j<o∨o+cs.length≤off+j
  ·exact hr
  ·exfalso
   have hb:b'=b:=hb
   subst hb
   refine hx l (List.mem_of_getElem? hj) (off+j - o) (by omega) ?_
   rw [show o+(off+j - o)=off+j from by omega]
   exact h5
theorem Bh {w w1:World} {B b:Nat} (h:Below B w w1) (hb:B≤b):∀ (cs:List Value) (o:Nat),Below B w (w1.setCells b o cs):=by
 intro cs
 induction cs generalizing w1 with
 | nil=>intro o;exact h
 | cons v r ih =>
  intro o
  have h':Below B w (w1.setCell ⟨b,o,none⟩ v):=by
   refine⟨h.os,h.tape,h.output,?_,fun k hk=>?_⟩
   ·have:(w1.setCell ⟨b,o,none⟩ v).heap.size=w1.heap.size:=by simp [World.setCell]
    rw [this];exact h.size
   ·simp only [World.setCell]
    rw [Array.getElem?_modify,if_neg (by show ¬ b=k;omega)]
    exact h.block k hk
  rw [World.setCells]
  exact ih h' (o+1)
theorem Jc (w:World) (b:Nat):∀ (cs:List Value) (o:Nat),(w.setCells b o cs).heap.size=w.heap.size:=by
 intro cs
 induction cs generalizing w with
 | nil=>intro o;rfl
 | cons v r ih=>intro o;rw [World.setCells,ih];simp [World.setCell]
def VerRet (w:World) (v:CH.Version) (e:Ending) (w':World):Prop :=
 ∃ s:bF,e=.returned (.tuple #[.agg (Ab v s).toArray,.int .i64 0])∧aK w'.heap.size w' v s∧Below w.heap.size w w'
def F0:List Value:=[.int .i64 0,.int .i64 0,.int .i64 0,.string ⟨#[]⟩,.slice none 0 0,.int .i64 0,.slice none 0 0,.slice none 0 0]
theorem zero_one:(F0.toArray).all (·.oneCell')=true:=all_oneCell_toArray (cs:=F0) (by
  intro u hu
  simp only [F0,List.mem_cons,List.not_mem_nil,or_false] at hu
  rcases hu with rfl|rfl|rfl|rfl|rfl|rfl|rfl|rfl <;> rfl)
def VerRetR (w:World) (v:CH.Version) (r:Except Int (List UInt8)) (e:Ending) (w':World):Prop :=
 Below w.heap.size w w'∧((∃ s:bF,e=.returned (.tuple #[.agg (Ab v s).toArray,.int .i64 0])∧aK w'.heap.size w' v s∧∃ t,r=.ok t)∨∃ er,e=.returned (.tuple #[.agg F0.toArray,.int .i64 er])∧r=.error er)
theorem make_fin (v:CH.Version) (i h:Nat) (secret m:List UInt8) (r:Except Int (List UInt8)) (va:Value) (w:World) (hG:Gc w) (hA:aK w.heap.size w v ⟨va,.slice none 0 0,.slice none 0 0⟩) (hv:v.sel=⟨0,[],[]⟩) (hn:v.number=(i:Int)+1)
  (hm:CH.message v=.ok m) (hs:secret.length≤1000000) (hh:h≤8) (hi:i<2 ^ h) (ht:CH.bK { v with sel:=⟨i,CH.sig secret i m,CH.path (CH.keys secret h) i⟩ }=r) (hr0:∀ er,r=.error er→er≠0)
  (h1:Short (CH.sig secret i m)) (h2:Short (CH.path (CH.keys secret h) i)) (h3:∀ l∈CH.sig secret i m,l≠[]) (h4:∀ l∈CH.path (CH.keys secret h) i,l≠[]) :
  Calls prog 12 #[.int .i64 v.authority,.int .i64 v.number,.int .i64 v.pos,.string ⟨v.prev.toArray⟩,va,.string ⟨secret.toArray⟩,.int .i64 h] w (VerRetR w { v with sel:=⟨i,CH.sig secret i m,CH.path (CH.keys secret h) i⟩ } r):=by
 have hB0:=fun o=>(Below.refl _ w).alloc nR o
 have hB00:=fun o o'=>((Below.refl _ w).alloc nR o).alloc (by simp) o'
 have HV:=hid fun (W:World) (hb:Below w.heap.size w W)=>(hA.below hb nR).mono hb.size
 have M:=fun (W:World) (hb:Below w.heap.size w W)=>Gd v _ W (hG.below hb) (HV.out W hb)
 rw [hm] at M
 have S:=hid fun (W:World) (hb:Below w.heap.size w W)=>sign_any secret m h i W (hG.below hb).gl hs (by rw [Ln hm];decide) hh hi
 generalize CH.sig secret i m=sg at *
 generalize CH.path (CH.keys secret h) i=pt at *
 have hi256:i<256:=nL hi (by have:2 ^ h≤2 ^ 8:=Nat.pow_le_pow_right (by decide) hh;omega)
 have T:=hid fun (W:World) (hb:Below w.heap.size w W) (v1 v2:Value) (q1:Strs W.heap.size W v1 sg) (q2:Strs W.heap.size W v2 pt)=>Di { v with sel:=⟨i,sg,pt⟩ } ⟨va,v1,v2⟩ W (hG.below hb) ⟨(HV.out W hb).acts,q1,q2,⟨hA.small.authority,hA.small.number,hA.small.pos,hA.small.prev,⟨by show (-9223372036854775808:Int)≤(i:Int);omega,by show (i:Int)≤9223372036854775807;omega⟩,h1,h2⟩⟩
 have HS:=hid hA.small
 obtain⟨aa,ca,e,_,_⟩:=hA.acts.form
 change va=_ at e
 subst e
 clear hA
 generalize v.acts.length=N at *
 have hsub:(v.number - 1:Int)=(i:Int):=by omega
 dsimp only [Ab,resV] at M
 rw [hv] at M
 dsimp only at M
 replace M:=hid M
 have hnb:-9223372036854775808≤v.number∧v.number≤9223372036854775807:=HS.out.number
 have hng:1≤v.number∧v.number≤300:=by omega
 clear hn hnb
 go_enter func12,ntmps12
 go_wp2_with fail
 refine (M.out _ (hB00 _ _)).mono ?_
 rintro e w1 ⟨rfl,hb1⟩
 clear M
 have hB1:Below w.heap.size w w1:=(hB00 _ _).trans (hb1.mono (by simp;omega))
 have hblk:=(hb1.block (w.heap.size+1) (by simp)).trans (alloc2_snd _ _ _)
 have hblk0:=(hb1.block w.heap.size (by simp;omega)).trans (alloc2_fst _ _ _)
 have hlt:w.heap.size+1<w1.heap.size:=(aZ hblk)
 go_wp2_with fail
 refine (S.out _ hB1).mono ?_
 rintro e w2 ⟨v1,v2,rfl,q1,q2,hb2⟩
 clear S
 have hB2:Below w.heap.size w w2:=hB1.trans (hb2.mono hB1.size)
 have hblk2:=(hb2.block (w.heap.size+1) hlt).trans hblk
 have hblk02:=(hb2.block w.heap.size (by omega)).trans hblk0
 have T2:=fun (W:World) (hb:Below w.heap.size w W) (r1:Strs W.heap.size W v1 sg) (r2:Strs W.heap.size W v2 pt)=>T.out W hb v1 v2 r1 r2
 rw [ht] at T2
 dsimp only [Ab] at T2
 have hq1:=hid q1
 have hq2:=hid q2
 obtain⟨a1,c1,rfl,_,_⟩:=q1.form
 obtain⟨a2,c2,rfl,_,_⟩:=q2.form
 clear q1 q2 T hblk hblk0 hb1
 generalize sg.length=n1 at *
 generalize pt.length=n2 at *
 replace T2:=hid T2
 have hlt2:w.heap.size+1<w2.heap.size:=nL hlt hb2.size
 have hr2:w2.rangeAt (w.heap.size+1) 0 ([.int .i64 v.authority,.int .i64 v.number,.int .i64 v.pos,.string ⟨v.prev.toArray⟩,.slice aa N ca]++[.int .i64 0,.slice none 0 0,.slice none 0 0]):=fun j u hj=>by
  rw [Nat.zero_add,Aa hblk2 j]
  simpa using hj
 have rl:=Cq hr2
 have rr:=Bp hr2 5 rfl
 have hthere:w2.there (w.heap.size+1) 5 3:=fun j hj=>⟨by
  obtain⟨u,hu⟩:∃ u,([.int .i64 0,.slice none 0 0,.slice none 0 0]:List Value)[j]?=some u:=⟨_,lZ hj⟩
  rw [rr j u hu];rfl,Ao hblk2 _⟩
 have hrX:(w2.setCells (w.heap.size+1) 5 [.int .i64 i,.slice a1 n1 c1,.slice a2 n2 c2]).rangeAt (w.heap.size+1) 0 [.int .i64 v.authority,.int .i64 v.number,.int .i64 v.pos,.string ⟨v.prev.toArray⟩,.slice aa N ca,.int .i64 i,.slice a1 n1 c1,.slice a2 n2 c2]:=fun j u hj=>by
  rcases Nat.lt_or_ge j 5 with h5|h5
  ·exact World.rangeAt_setCells_apart rl (w.heap.size+1) 5 [.int .i64 i,.slice a1 n1 c1,.slice a2 n2 c2] (.inr (.inl (by simp))) j u (by
    rw [← hj]
    rcases (by omega:j=0∨j=1∨j=2∨j=3∨j=4) with rfl|rfl|rfl|rfl|rfl <;> rfl)
  ·have:=World.rangeAt_setCells_same w2 (w.heap.size+1) 5 [.int .i64 i,.slice a1 n1 c1,.slice a2 n2 c2] hthere (j - 5) u (by
    rw [← hj]
    have hj8:j<8:=by have:=(lS hj);simpa using this
    rcases (by omega:j=5∨j=6∨j=7) with rfl|rfl|rfl <;> rfl)
   rw [show 0+j=5+(j - 5) from by omega]
   exact this
 have hno:∀ (l:List UInt8) (j:Nat),j<3→w2.cell? ⟨w.heap.size+1,5+j,none⟩≠some (ah l):=fun l j hj e=>by
  rcases (by omega:j=0∨j=1∨j=2) with rfl|rfl|rfl
  ·rw [rr 0 _ rfl] at e;cases e
  ·rw [rr 1 _ rfl] at e;cases e
  ·rw [rr 2 _ rfl] at e;cases e
 have hX1:=En hq1.out (w.heap.size+1) 5 [.int .i64 i,.slice a1 n1 c1,.slice a2 n2 c2] (fun l _ j hj=>hno l j hj)
 have hX2:=En hq2.out (w.heap.size+1) 5 [.int .i64 i,.slice a1 n1 c1,.slice a2 n2 c2] (fun l _ j hj=>hno l j hj)
 have hBX:=Bh hB2 (Nat.le_succ _) [.int .i64 i,.slice a1 n1 c1,.slice a2 n2 c2] 5
 have hsX:=Jc w2 (w.heap.size+1) [.int .i64 i,.slice a1 n1 c1,.slice a2 n2 c2] 5
 have h0X:(w2.setCells (w.heap.size+1) 5 [.int .i64 i,.slice a1 n1 c1,.slice a2 n2 c2]).rangeAt w.heap.size 0 [.int .i64 0,.int .i64 0,.int .i64 0,.string ⟨#[]⟩,.slice none 0 0,.int .i64 0,.slice none 0 0,.slice none 0 0]:=World.rangeAt_setCells_apart (fun j u hj=>by rw [Nat.zero_add,Aa hblk02 j];simpa using hj) _ _ _ (.inl (by omega))
 have h0f:∀ j,(w2.setCells (w.heap.size+1) 5 [.int .i64 i,.slice a1 n1 c1,.slice a2 n2 c2]).frozen? ⟨w.heap.size,j,none⟩=false:=fun j=>by rw [World.frozen?_setCells];exact Ao hblk02 j
 have hi8:(prog.info? 30).map (·.size)=some 8:=by kernel_rfl
 have hi3:(prog.info? 28).map (·.size)=some 3:=by kernel_rfl
 have hall:(#[.int .i64 i,.slice a1 n1 c1,.slice a2 n2 c2]:Array Value).all (·.oneCell')=true:=all_oneCell_toArray (cs:=[.int .i64 i,.slice a1 n1 c1,.slice a2 n2 c2]) (by
  intro u hu
  simp only [List.mem_cons,List.not_mem_nil,or_false] at hu
  rcases hu with rfl|rfl|rfl <;> rfl)
 replace hall:=hid hall
 have W1:=hid hthere
 have W2:=hid hrX
 clear hthere hrX rl rr hr2 hno hblk2 hblk02
 replace hX1:=hX1.mono (Nat.le_of_eq hsX.symm)
 replace hX2:=hX2.mono (Nat.le_of_eq hsX.symm)
 have T3:=hid (T2.out _ hBX hX1 hX2)
 replace hX1:=hid hX1
 replace hX2:=hid hX2
 replace hBX:=hid hBX
 replace hsX:=hid hsX
 replace h0X:=hid h0X
 replace h0f:=hid h0f
 clear T2 hb2 hq1 hq2 hB2
 go_wp2_with (first|refine wpList_store_mid rfl 28 _ _ rfl (w.heap.size+1) 5 #[.int .i64 i,.slice a1 n1 c1,.slice a2 n2 c2] rfl rfl W1.out hi3 hall.out ?_|refine wpList_load_mid rfl 30 _ rfl (w.heap.size+1) 0 rfl [.int .i64 v.authority,.int .i64 v.number,.int .i64 v.pos,.string ⟨v.prev.toArray⟩,.slice aa N ca,.int .i64 i,.slice a1 n1 c1,.slice a2 n2 c2] _ W2.out underlying30 rfl hi8 ?_)
 refine T3.out.mono ?_
 rintro e w3 ⟨rfl,hb3⟩
 have hBX':=hBX.out
 have hsX':=hsX.out
 have hx1:=hX1.out
 have hx2:=hX2.out
 have hr3:w3.rangeAt (w.heap.size+1) 0 [.int .i64 v.authority,.int .i64 v.number,.int .i64 v.pos,.string ⟨v.prev.toArray⟩,.slice aa N ca,.int .i64 i,.slice a1 n1 c1,.slice a2 n2 c2]:=Ck W2.out hb3 (by rw [hsX'];omega)
 have h03:=Ck h0X.out hb3 (by rw [hsX'];omega)
 have hf3:∀ j,w3.frozen? ⟨w.heap.size,j,none⟩=false:=fun j=>(hb3.frozen (p:=⟨w.heap.size,j,none⟩) (by rw [hsX'];show w.heap.size<_;omega)).trans (h0f.out j)
 clear T3 W1 W2 h0X h0f hall hi3
 generalize w2.setCells (w.heap.size+1) 5 [.int .i64 i,.slice a1 n1 c1,.slice a2 n2 c2]=X at *
 have hB3:Below w.heap.size w w3:=hBX'.trans (hb3.mono hBX'.size)
 have hy1:=(hx1.below hb3 nR).mono hb3.size
 have hy2:=(hx2.below hb3 nR).mono hb3.size
 have hth:w3.there w.heap.size 0 8:=fun j hj=>⟨by
  obtain⟨u,hu⟩:∃ u,([.int .i64 0,.int .i64 0,.int .i64 0,.string ⟨#[]⟩,.slice none 0 0,.int .i64 0,.slice none 0 0,.slice none 0 0]:List Value)[j]?=some u:=⟨_,lZ hj⟩
  rw [h03 j u hu];rfl,hf3 _⟩
 have hno:∀ (l:List UInt8),l≠[]→∀ (j:Nat),j<8→w3.cell? ⟨w.heap.size,0+j,none⟩≠some (ah l):=fun l hl j hj e=>by
  rcases (by omega:j=0∨j=1∨j=2∨j=3∨j=4∨j=5∨j=6∨j=7) with rfl|rfl|rfl|rfl|rfl|rfl|rfl|rfl
  ·rw [h03 0 _ rfl] at e;cases e
  ·rw [h03 1 _ rfl] at e;cases e
  ·rw [h03 2 _ rfl] at e;cases e
  ·rw [h03 3 _ rfl] at e
   simp only [Option.some.injEq,Value.string.injEq,ByteArray.mk.injEq] at e
   exact hl (by simpa using e.symm)
  ·rw [h03 4 _ rfl] at e;cases e
  ·rw [h03 5 _ rfl] at e;cases e
  ·rw [h03 6 _ rfl] at e;cases e
  ·rw [h03 7 _ rfl] at e;cases e
 have hz1:=hid (En hy1 w.heap.size 0 [.int .i64 v.authority,.int .i64 v.number,.int .i64 v.pos,.string ⟨v.prev.toArray⟩,.slice aa N ca,.int .i64 i,.slice a1 n1 c1,.slice a2 n2 c2] (fun l hl j hj=>hno l (h3 l hl) j hj))
 have hz2:=hid (En hy2 w.heap.size 0 [.int .i64 v.authority,.int .i64 v.number,.int .i64 v.pos,.string ⟨v.prev.toArray⟩,.slice aa N ca,.int .i64 i,.slice a1 n1 c1,.slice a2 n2 c2] (fun l hl j hj=>hno l (h4 l hl) j hj))
 have hall:(#[.int .i64 v.authority,.int .i64 v.number,.int .i64 v.pos,.string ⟨v.prev.toArray⟩,.slice aa N ca,.int .i64 i,.slice a1 n1 c1,.slice a2 n2 c2]:Array Value).all (·.oneCell')=true:=all_oneCell_toArray (cs:=[.int .i64 v.authority,.int .i64 v.number,.int .i64 v.pos,.string ⟨v.prev.toArray⟩,.slice aa N ca,.int .i64 i,.slice a1 n1 c1,.slice a2 n2 c2]) (by
  intro u hu
  simp only [List.mem_cons,List.not_mem_nil,or_false] at hu
  rcases hu with rfl|rfl|rfl|rfl|rfl|rfl|rfl|rfl <;> rfl)
 have hrF:=hid (World.rangeAt_setCells_same w3 w.heap.size 0 [.int .i64 v.authority,.int .i64 v.number,.int .i64 v.pos,.string ⟨v.prev.toArray⟩,.slice aa N ca,.int .i64 i,.slice a1 n1 c1,.slice a2 n2 c2] hth)
 have hBF:=hid (Bh hB3 nR [.int .i64 v.authority,.int .i64 v.number,.int .i64 v.pos,.string ⟨v.prev.toArray⟩,.slice aa N ca,.int .i64 i,.slice a1 n1 c1,.slice a2 n2 c2] 0)
 have hsF:=hid (Jc w3 w.heap.size [.int .i64 v.authority,.int .i64 v.number,.int .i64 v.pos,.string ⟨v.prev.toArray⟩,.slice aa N ca,.int .i64 i,.slice a1 n1 c1,.slice a2 n2 c2] 0)
 have hrZ:=hid (World.rangeAt_setCells_same w3 w.heap.size 0 F0 hth)
 have hBZ:=hid (Bh hB3 nR F0 0)
 replace hth:=hid hth
 replace hall:=hid hall
 replace hr3:=hid hr3
 clear hno h03 hf3 hy1 hy2 hx1 hx2 hX1 hX2 hBX hsX hBX' hsX' hb3 hB3
 cases r with
 | error er =>
  have q1:(er==0)=false:=by simpa using hr0 er rfl
  have q2:(er != 0)=true:=by simpa using hr0 er rfl
  dsimp only [resV]
  clear hrF hBF hsF hz1 hz2
  go_wp2_with (first|refine wpList_store_mid rfl 30 _ _ rfl w.heap.size 0 F0.toArray rfl rfl hth.out hi8 zero_one ?_)
  refine bodyPost_ret (Cl rfl _ _ ⟨w.heap.size,0,none⟩ _ rfl (run_loadVar_mid _ w.heap.size 0 30 F0 _ hrZ.out underlying30 rfl hi8)) rfl ?_
  exact⟨hBZ.out,.inr ⟨er,rfl,rfl⟩⟩
 | ok t =>
  dsimp only [resV]
  clear hrZ hBZ
  go_wp2_with (first|refine wpList_store_mid rfl 30 _ _ rfl w.heap.size 0 #[.int .i64 v.authority,.int .i64 v.number,.int .i64 v.pos,.string ⟨v.prev.toArray⟩,.slice aa N ca,.int .i64 i,.slice a1 n1 c1,.slice a2 n2 c2] rfl rfl hth.out hi8 hall.out ?_|refine wpList_load_mid rfl 30 _ rfl (w.heap.size+1) 0 rfl [.int .i64 v.authority,.int .i64 v.number,.int .i64 v.pos,.string ⟨v.prev.toArray⟩,.slice aa N ca,.int .i64 i,.slice a1 n1 c1,.slice a2 n2 c2] _ hr3.out underlying30 rfl hi8 ?_)
  refine bodyPost_ret (Cl rfl _ _ ⟨w.heap.size,0,none⟩ _ rfl (run_loadVar_mid _ w.heap.size 0 30 [.int .i64 v.authority,.int .i64 v.number,.int .i64 v.pos,.string ⟨v.prev.toArray⟩,.slice aa N ca,.int .i64 i,.slice a1 n1 c1,.slice a2 n2 c2] _ hrF.out underlying30 rfl hi8)) rfl ?_
  refine⟨hBF.out,.inl ⟨⟨.slice aa N ca,.slice a1 n1 c1,.slice a2 n2 c2⟩,rfl,⟨((HV.out _ hBF.out).acts),?_,?_,⟨HS.out.authority,HS.out.number,HS.out.pos,HS.out.prev,⟨by show (-9223372036854775808:Int)≤(i:Int);omega,by show (i:Int)≤9223372036854775807;omega⟩,h1,h2⟩⟩,⟨t,rfl⟩⟩⟩
  ·exact hz1.out.mono (Nat.le_of_eq hsF.out.symm)
  ·exact hz2.out.mono (Nat.le_of_eq hsF.out.symm)
theorem make_any (v:CH.Version) (i h:Nat) (secret m t:List UInt8) (va:Value) (w:World) (hG:Gc w) (hA:aK w.heap.size w v ⟨va,.slice none 0 0,.slice none 0 0⟩) (hv:v.sel=⟨0,[],[]⟩) (hn:v.number=(i:Int)+1)
  (hm:CH.message v=.ok m) (hs:secret.length≤1000000) (hh:h≤8) (hi:i<2 ^ h) (ht:CH.bK { v with sel:=⟨i,CH.sig secret i m,CH.path (CH.keys secret h) i⟩ }=.ok t)
  (h1:Short (CH.sig secret i m)) (h2:Short (CH.path (CH.keys secret h) i)) (h3:∀ l∈CH.sig secret i m,l≠[]) (h4:∀ l∈CH.path (CH.keys secret h) i,l≠[]) :
  Calls prog 12 #[.int .i64 v.authority,.int .i64 v.number,.int .i64 v.pos,.string ⟨v.prev.toArray⟩,va,.string ⟨secret.toArray⟩,.int .i64 h] w (VerRet w { v with sel:=⟨i,CH.sig secret i m,CH.path (CH.keys secret h) i⟩ }) :=
 (make_fin v i h secret m _ va w hG hA hv hn hm hs hh hi ht (fun _ h=>by cases h) h1 h2 h3 h4).mono fun e w' hR=>by
  obtain⟨hb,⟨s,e1,e2,_⟩|⟨er,_,e2⟩⟩:=hR
  ·exact⟨s,e1,e2,hb⟩
  ·cases e2
theorem verZero (w:World):(zeroValue 30).run prog w=.ok (.agg #[.int .i64 0,.int .i64 0,.int .i64 0,.string ⟨#[]⟩,.slice none 0 0,.int .i64 0,.slice none 0 0,.slice none 0 0]) w:=by kernel_rfl
theorem putOld_any (c o r:Nat) (p:Int × Int) (v old:CH.Version) (s so:bF) (kvs:List ((Int × Int) × Value)) (j:Nat) (w:World) (hc:w.cell? ⟨c,o,none⟩=some (.map (some r))) (hm:A8 An r w kvs) (hf:Az p kvs 0=some (j,.agg (Ab old so).toArray)) (ho:aK w.heap.size w old so) (hv:aK w.heap.size w v s) :
  Calls prog 35 #[.pointer (some ⟨c,o,none⟩),An p,.agg (Ab v s).toArray] w (Ret w (.tuple #[.agg (Ab old so).toArray,.bool false])):=by
 have L:=fun (W:World) (hb:Below w.heap.size w W)=>D8 underlying72 _ verZero (hm.below hb) p
 simp only [hf,Option.map_some,Option.getD_some,Option.isSome_some] at L
 obtain⟨p1,p2⟩:=p
 obtain⟨va,v1,v2⟩:=s
 obtain⟨ua,u1,u2⟩:=so
 obtain⟨x1,y1,e1,_,_⟩:=ho.acts.form
 obtain⟨x2,y2,e2,_,_⟩:=ho.sig.form
 obtain⟨x3,y3,e3,_,_⟩:=ho.path.form
 change ua=_ at e1
 change u1=_ at e2
 change u2=_ at e3
 subst e1 e2 e3
 clear ho hv
 generalize old.acts.length=n0 at *
 generalize old.sel.sig.length=n1 at *
 generalize old.sel.path.length=n2 at *
 dsimp only [Ab,An] at *
 have gI:=World.block_lt_of_cell? w _ hc
 go_enter func35,ntmps35
 go_wp2_with fail
 rename_i K hK
 have hB0:Below w.heap.size w (((w.alloc (.cells #[.int .i64 p1,.int .i64 p2] 94)).alloc (.cells #[.int .i64 v.authority,.int .i64 v.number,.int .i64 v.pos,.string ⟨v.prev.toArray⟩,va,.int .i64 v.sel.index,v1,v2] 30)).alloc (.cells #[.int .i64 0,.int .i64 0,.int .i64 0,.string ⟨#[]⟩,.slice none 0 0,.int .i64 0,.slice none 0 0,.slice none 0 0] 30)):=(((Below.refl _ w).alloc nR _).alloc (by simp) _).alloc (by simp;omega) _
 have hblk:(((w.alloc (.cells #[.int .i64 p1,.int .i64 p2] 94)).alloc (.cells #[.int .i64 v.authority,.int .i64 v.number,.int .i64 v.pos,.string ⟨v.prev.toArray⟩,va,.int .i64 v.sel.index,v1,v2] 30)).alloc (.cells #[.int .i64 0,.int .i64 0,.int .i64 0,.string ⟨#[]⟩,.slice none 0 0,.int .i64 0,.slice none 0 0,.slice none 0 0] 30)).heap[w.heap.size]?=some (.cells #[.int .i64 p1,.int .i64 p2] 94 (0,0)):=by
  simp only [World.alloc,Array.getElem?_push,Array.size_push]
  rw [if_neg (by omega),if_neg (by omega),if_pos trivial]
 have hblk2:(((w.alloc (.cells #[.int .i64 p1,.int .i64 p2] 94)).alloc (.cells #[.int .i64 v.authority,.int .i64 v.number,.int .i64 v.pos,.string ⟨v.prev.toArray⟩,va,.int .i64 v.sel.index,v1,v2] 30)).alloc (.cells #[.int .i64 0,.int .i64 0,.int .i64 0,.string ⟨#[]⟩,.slice none 0 0,.int .i64 0,.slice none 0 0,.slice none 0 0] 30)).heap[w.heap.size+1+1]?=some (.cells #[.int .i64 0,.int .i64 0,.int .i64 0,.string ⟨#[]⟩,.slice none 0 0,.int .i64 0,.slice none 0 0,.slice none 0 0] 30 (0,0)):=by
  simp only [World.alloc,Array.getElem?_push,Array.size_push]
  rw [if_pos trivial]
 have hsz:(((w.alloc (.cells #[.int .i64 p1,.int .i64 p2] 94)).alloc (.cells #[.int .i64 v.authority,.int .i64 v.number,.int .i64 v.pos,.string ⟨v.prev.toArray⟩,va,.int .i64 v.sel.index,v1,v2] 30)).alloc (.cells #[.int .i64 0,.int .i64 0,.int .i64 0,.string ⟨#[]⟩,.slice none 0 0,.int .i64 0,.slice none 0 0,.slice none 0 0] 30)).heap.size=w.heap.size+3:=by simp
 generalize ((w.alloc (.cells #[.int .i64 p1,.int .i64 p2] 94)).alloc (.cells #[.int .i64 v.authority,.int .i64 v.number,.int .i64 v.pos,.string ⟨v.prev.toArray⟩,va,.int .i64 v.sel.index,v1,v2] 30)).alloc (.cells #[.int .i64 0,.int .i64 0,.int .i64 0,.string ⟨#[]⟩,.slice none 0 0,.int .i64 0,.slice none 0 0,.slice none 0 0] 30)=W0 at *
 have SS:∀ W',Below W0.heap.size W0 W'→W'.cell? ⟨c,o,none⟩=some (.map (some r))∧W'.cell? ⟨w.heap.size,0,none⟩=some (.int .i64 p1)∧W'.cell? ⟨w.heap.size,1,none⟩=some (.int .i64 p2)∧(Instr.lookup 72 (.map (some r)) (.agg #[.int .i64 p1,.int .i64 p2]) true).run prog W'=_:=fun W' hb =>
  ⟨((hB0.trans (hb.mono hB0.size)).cell (p:=⟨c,o,none⟩) gI).trans hc,(hb.cell (p:=⟨w.heap.size,0,none⟩) (by show w.heap.size<_;omega)).trans (Aa hblk 0),(hb.cell (p:=⟨w.heap.size,1,none⟩) (by show w.heap.size<_;omega)).trans (Aa hblk 1),L W' (hB0.trans (hb.mono hB0.size))⟩
 have hBd:Below W0.heap.size W0 W0.drew:=(Below.refl _ W0).drew
 clear L
 go_region_held3 (fun W'=>W'.cell? ⟨c,o,none⟩=some (.map (some r))∧W'.cell? ⟨w.heap.size,0,none⟩=some (.int .i64 p1)∧W'.cell? ⟨w.heap.size,1,none⟩=some (.int .i64 p2)∧(Instr.lookup 72 (.map (some r)) (.agg #[.int .i64 p1,.int .i64 p2]) true).run prog W'=.ok (.tuple #[.agg #[.int .i64 old.authority,.int .i64 old.number,.int .i64 old.pos,.string ⟨old.prev.toArray⟩,.slice x1 n0 y1,.int .i64 old.sel.index,.slice x2 n1 y2,.slice x3 n2 y3],.bool true]) W') ((refine SS _ ?_;repeat (first|exact hBd|exact Below.refl _ _|refine Below.drew ?_|refine Below.alloc ?_ (by simp <;> omega) _|refine Below.setCell ?_ (by simp <;> omega) _))) (first|fail)
 all_goals
  have hBX:Below W0.heap.size W0 (W0.alloc (.cells #[.int .i64 old.authority,.int .i64 old.number,.int .i64 old.pos,.string ⟨old.prev.toArray⟩,.slice x1 n0 y1,.int .i64 old.sel.index,.slice x2 n1 y2,.slice x3 n2 y3] 30)).drew:=((Below.refl _ W0).alloc nR _).drew
  have hrX:(W0.alloc (.cells #[.int .i64 old.authority,.int .i64 old.number,.int .i64 old.pos,.string ⟨old.prev.toArray⟩,.slice x1 n0 y1,.int .i64 old.sel.index,.slice x2 n1 y2,.slice x3 n2 y3] 30)).drew.rangeAt (w.heap.size+3) 0 [.int .i64 old.authority,.int .i64 old.number,.int .i64 old.pos,.string ⟨old.prev.toArray⟩,.slice x1 n0 y1,.int .i64 old.sel.index,.slice x2 n1 y2,.slice x3 n2 y3]:=by
   rw [← hsz]
   exact fun j u hj=>Br W0 [.int .i64 old.authority,.int .i64 old.number,.int .i64 old.pos,.string ⟨old.prev.toArray⟩,.slice x1 n0 y1,.int .i64 old.sel.index,.slice x2 n1 y2,.slice x3 n2 y3] 30 j u hj
  have hth:(W0.alloc (.cells #[.int .i64 old.authority,.int .i64 old.number,.int .i64 old.pos,.string ⟨old.prev.toArray⟩,.slice x1 n0 y1,.int .i64 old.sel.index,.slice x2 n1 y2,.slice x3 n2 y3] 30)).drew.there (w.heap.size+1+1) 0 8:=fun j hj=>by
   have h2:=(hBX.block (w.heap.size+1+1) (by omega)).trans hblk2
   refine⟨?_,Ao h2 _⟩
   rw [Nat.zero_add,Aa h2 j]
   rcases (by omega:j=0∨j=1∨j=2∨j=3∨j=4∨j=5∨j=6∨j=7) with rfl|rfl|rfl|rfl|rfl|rfl|rfl|rfl <;> rfl
  have hi8:(prog.info? 30).map (·.size)=some 8:=by kernel_rfl
  have hall:(#[.int .i64 old.authority,.int .i64 old.number,.int .i64 old.pos,.string ⟨old.prev.toArray⟩,.slice x1 n0 y1,.int .i64 old.sel.index,.slice x2 n1 y2,.slice x3 n2 y3]:Array Value).all (·.oneCell')=true:=all_oneCell_toArray (cs:=[.int .i64 old.authority,.int .i64 old.number,.int .i64 old.pos,.string ⟨old.prev.toArray⟩,.slice x1 n0 y1,.int .i64 old.sel.index,.slice x2 n1 y2,.slice x3 n2 y3]) (by
   intro u hu
   simp only [List.mem_cons,List.not_mem_nil,or_false] at hu
   rcases hu with rfl|rfl|rfl|rfl|rfl|rfl|rfl|rfl <;> rfl)
  have hBw:=hB0.trans (hBX.mono hB0.size)
  clear SS hBd hBX hblk hblk2
  generalize (W0.alloc (.cells #[.int .i64 old.authority,.int .i64 old.number,.int .i64 old.pos,.string ⟨old.prev.toArray⟩,.slice x1 n0 y1,.int .i64 old.sel.index,.slice x2 n1 y2,.slice x3 n2 y3] 30)).drew=X at *
  have hrF:=hid (World.rangeAt_setCells_same X (w.heap.size+1+1) 0 [.int .i64 old.authority,.int .i64 old.number,.int .i64 old.pos,.string ⟨old.prev.toArray⟩,.slice x1 n0 y1,.int .i64 old.sel.index,.slice x2 n1 y2,.slice x3 n2 y3] hth)
  have hBF:=hid (Bh (b:=w.heap.size+1+1) hBw (by omega) [.int .i64 old.authority,.int .i64 old.number,.int .i64 old.pos,.string ⟨old.prev.toArray⟩,.slice x1 n0 y1,.int .i64 old.sel.index,.slice x2 n1 y2,.slice x3 n2 y3] 0)
  replace hrX:=hid hrX
  replace hth:=hid hth
  replace hall:=hid hall
  simp only [Exit.then]
  refine hK _ _ ?_
  clear hK
  go_wp2_with (refine wpList_load_mid rfl 30 _ rfl (w.heap.size+3) 0 rfl [.int .i64 old.authority,.int .i64 old.number,.int .i64 old.pos,.string ⟨old.prev.toArray⟩,.slice x1 n0 y1,.int .i64 old.sel.index,.slice x2 n1 y2,.slice x3 n2 y3] _ hrX.out underlying30 rfl hi8 ?_;refine wpList_store_mid rfl 30 _ _ rfl (w.heap.size+1+1) 0 #[.int .i64 old.authority,.int .i64 old.number,.int .i64 old.pos,.string ⟨old.prev.toArray⟩,.slice x1 n0 y1,.int .i64 old.sel.index,.slice x2 n1 y2,.slice x3 n2 y3] rfl rfl hth.out hi8 hall.out ?_)
  refine bodyPost_ret (Cl rfl _ _ ⟨w.heap.size+1+1,0,none⟩ _ rfl (run_loadVar_mid _ (w.heap.size+1+1) 0 30 [.int .i64 old.authority,.int .i64 old.number,.int .i64 old.pos,.string ⟨old.prev.toArray⟩,.slice x1 n0 y1,.int .i64 old.sel.index,.slice x2 n1 y2,.slice x3 n2 y3] _ hrF.out underlying30 rfl hi8)) rfl ?_
  exact⟨rfl,hBF.out⟩
theorem M8 (w:World):(zeroValue 97).run prog w=.ok (.agg #[.int .i64 0,.int .i64 0,.int .i64 0,.string ⟨#[]⟩,.slice none 0 0,.int .i64 0,.slice none 0 0,.slice none 0 0,.int .i64 0,.int .i64 0,.int .i64 0,.string ⟨#[]⟩,.slice none 0 0,.int .i64 0,.slice none 0 0,.slice none 0 0]) w:=by kernel_rfl
theorem putOldF_any (c o r:Nat) (p:Int × Int) (v vv old aV:CH.Version) (va v1 v2 vb v3 v4:Value) (x1 x2 x3 x4 x5 x6:Option Addr) (n0 n1 n2 n3 n4 n5 y1 y2 y3 y4 y5 y6:Nat) (kvs:List ((Int × Int) × Value)) (j:Nat) (w:World) (hc:w.cell? ⟨c,o,none⟩=some (.map (some r))) (hm:A8 An r w kvs)
  (hf:Az p kvs 0=some (j,.agg #[.int .i64 old.authority,.int .i64 old.number,.int .i64 old.pos,.string ⟨old.prev.toArray⟩,.slice x1 n0 y1,.int .i64 old.sel.index,.slice x2 n1 y2,.slice x3 n2 y3,.int .i64 aV.authority,.int .i64 aV.number,.int .i64 aV.pos,.string ⟨aV.prev.toArray⟩,.slice x4 n3 y4,.int .i64 aV.sel.index,.slice x5 n4 y5,.slice x6 n5 y6])) :
  Calls prog 36 #[.pointer (some ⟨c,o,none⟩),An p,.agg #[.int .i64 v.authority,.int .i64 v.number,.int .i64 v.pos,.string ⟨v.prev.toArray⟩,va,.int .i64 v.sel.index,v1,v2,.int .i64 vv.authority,.int .i64 vv.number,.int .i64 vv.pos,.string ⟨vv.prev.toArray⟩,vb,.int .i64 vv.sel.index,v3,v4]] w (Ret w (.tuple #[.agg #[.int .i64 old.authority,.int .i64 old.number,.int .i64 old.pos,.string ⟨old.prev.toArray⟩,.slice x1 n0 y1,.int .i64 old.sel.index,.slice x2 n1 y2,.slice x3 n2 y3,.int .i64 aV.authority,.int .i64 aV.number,.int .i64 aV.pos,.string ⟨aV.prev.toArray⟩,.slice x4 n3 y4,.int .i64 aV.sel.index,.slice x5 n4 y5,.slice x6 n5 y6],.bool false])):=by
 have L:=fun (W:World) (hb:Below w.heap.size w W)=>D8 underlying75 _ M8 (hm.below hb) p
 simp only [hf,Option.map_some,Option.getD_some,Option.isSome_some] at L
 obtain⟨p1,p2⟩:=p
 dsimp only [An] at *
 have gI:=World.block_lt_of_cell? w _ hc
 go_enter func36,ntmps36
 go_wp2_with fail
 rename_i K hK
 have hB0:Below w.heap.size w (((w.alloc (.cells #[.int .i64 p1,.int .i64 p2] 94)).alloc (.cells #[.int .i64 v.authority,.int .i64 v.number,.int .i64 v.pos,.string ⟨v.prev.toArray⟩,va,.int .i64 v.sel.index,v1,v2,.int .i64 vv.authority,.int .i64 vv.number,.int .i64 vv.pos,.string ⟨vv.prev.toArray⟩,vb,.int .i64 vv.sel.index,v3,v4] 97)).alloc (.cells #[.int .i64 0,.int .i64 0,.int .i64 0,.string ⟨#[]⟩,.slice none 0 0,.int .i64 0,.slice none 0 0,.slice none 0 0,.int .i64 0,.int .i64 0,.int .i64 0,.string ⟨#[]⟩,.slice none 0 0,.int .i64 0,.slice none 0 0,.slice none 0 0] 97)):=(((Below.refl _ w).alloc nR _).alloc (by simp) _).alloc (by simp;omega) _
 have hblk:(((w.alloc (.cells #[.int .i64 p1,.int .i64 p2] 94)).alloc (.cells #[.int .i64 v.authority,.int .i64 v.number,.int .i64 v.pos,.string ⟨v.prev.toArray⟩,va,.int .i64 v.sel.index,v1,v2,.int .i64 vv.authority,.int .i64 vv.number,.int .i64 vv.pos,.string ⟨vv.prev.toArray⟩,vb,.int .i64 vv.sel.index,v3,v4] 97)).alloc (.cells #[.int .i64 0,.int .i64 0,.int .i64 0,.string ⟨#[]⟩,.slice none 0 0,.int .i64 0,.slice none 0 0,.slice none 0 0,.int .i64 0,.int .i64 0,.int .i64 0,.string ⟨#[]⟩,.slice none 0 0,.int .i64 0,.slice none 0 0,.slice none 0 0] 97)).heap[w.heap.size]?=some (.cells #[.int .i64 p1,.int .i64 p2] 94 (0,0)):=by
  simp only [World.alloc,Array.getElem?_push,Array.size_push]
  rw [if_neg (by omega),if_neg (by omega),if_pos trivial]
 have hblk2:(((w.alloc (.cells #[.int .i64 p1,.int .i64 p2] 94)).alloc (.cells #[.int .i64 v.authority,.int .i64 v.number,.int .i64 v.pos,.string ⟨v.prev.toArray⟩,va,.int .i64 v.sel.index,v1,v2,.int .i64 vv.authority,.int .i64 vv.number,.int .i64 vv.pos,.string ⟨vv.prev.toArray⟩,vb,.int .i64 vv.sel.index,v3,v4] 97)).alloc (.cells #[.int .i64 0,.int .i64 0,.int .i64 0,.string ⟨#[]⟩,.slice none 0 0,.int .i64 0,.slice none 0 0,.slice none 0 0,.int .i64 0,.int .i64 0,.int .i64 0,.string ⟨#[]⟩,.slice none 0 0,.int .i64 0,.slice none 0 0,.slice none 0 0] 97)).heap[w.heap.size+1+1]?=some (.cells #[.int .i64 0,.int .i64 0,.int .i64 0,.string ⟨#[]⟩,.slice none 0 0,.int .i64 0,.slice none 0 0,.slice none 0 0,.int .i64 0,.int .i64 0,.int .i64 0,.string ⟨#[]⟩,.slice none 0 0,.int .i64 0,.slice none 0 0,.slice none 0 0] 97 (0,0)):=by
  simp only [World.alloc,Array.getElem?_push,Array.size_push]
  rw [if_pos trivial]
 have hsz:(((w.alloc (.cells #[.int .i64 p1,.int .i64 p2] 94)).alloc (.cells #[.int .i64 v.authority,.int .i64 v.number,.int .i64 v.pos,.string ⟨v.prev.toArray⟩,va,.int .i64 v.sel.index,v1,v2,.int .i64 vv.authority,.int .i64 vv.number,.int .i64 vv.pos,.string ⟨vv.prev.toArray⟩,vb,.int .i64 vv.sel.index,v3,v4] 97)).alloc (.cells #[.int .i64 0,.int .i64 0,.int .i64 0,.string ⟨#[]⟩,.slice none 0 0,.int .i64 0,.slice none 0 0,.slice none 0 0,.int .i64 0,.int .i64 0,.int .i64 0,.string ⟨#[]⟩,.slice none 0 0,.int .i64 0,.slice none 0 0,.slice none 0 0] 97)).heap.size=w.heap.size+3:=by simp
 generalize ((w.alloc (.cells #[.int .i64 p1,.int .i64 p2] 94)).alloc (.cells #[.int .i64 v.authority,.int .i64 v.number,.int .i64 v.pos,.string ⟨v.prev.toArray⟩,va,.int .i64 v.sel.index,v1,v2,.int .i64 vv.authority,.int .i64 vv.number,.int .i64 vv.pos,.string ⟨vv.prev.toArray⟩,vb,.int .i64 vv.sel.index,v3,v4] 97)).alloc (.cells #[.int .i64 0,.int .i64 0,.int .i64 0,.string ⟨#[]⟩,.slice none 0 0,.int .i64 0,.slice none 0 0,.slice none 0 0,.int .i64 0,.int .i64 0,.int .i64 0,.string ⟨#[]⟩,.slice none 0 0,.int .i64 0,.slice none 0 0,.slice none 0 0] 97)=W0 at *
 have SS:∀ W',Below W0.heap.size W0 W'→W'.cell? ⟨c,o,none⟩=some (.map (some r))∧W'.cell? ⟨w.heap.size,0,none⟩=some (.int .i64 p1)∧W'.cell? ⟨w.heap.size,1,none⟩=some (.int .i64 p2)∧(Instr.lookup 75 (.map (some r)) (.agg #[.int .i64 p1,.int .i64 p2]) true).run prog W'=_:=fun W' hb =>
  ⟨((hB0.trans (hb.mono hB0.size)).cell (p:=⟨c,o,none⟩) gI).trans hc,(hb.cell (p:=⟨w.heap.size,0,none⟩) (by show w.heap.size<_;omega)).trans (Aa hblk 0),(hb.cell (p:=⟨w.heap.size,1,none⟩) (by show w.heap.size<_;omega)).trans (Aa hblk 1),L W' (hB0.trans (hb.mono hB0.size))⟩
 have hBd:Below W0.heap.size W0 W0.drew:=(Below.refl _ W0).drew
 clear L
 go_region_held3 (fun W'=>W'.cell? ⟨c,o,none⟩=some (.map (some r))∧W'.cell? ⟨w.heap.size,0,none⟩=some (.int .i64 p1)∧W'.cell? ⟨w.heap.size,1,none⟩=some (.int .i64 p2)∧(Instr.lookup 75 (.map (some r)) (.agg #[.int .i64 p1,.int .i64 p2]) true).run prog W'=.ok (.tuple #[.agg #[.int .i64 old.authority,.int .i64 old.number,.int .i64 old.pos,.string ⟨old.prev.toArray⟩,.slice x1 n0 y1,.int .i64 old.sel.index,.slice x2 n1 y2,.slice x3 n2 y3,.int .i64 aV.authority,.int .i64 aV.number,.int .i64 aV.pos,.string ⟨aV.prev.toArray⟩,.slice x4 n3 y4,.int .i64 aV.sel.index,.slice x5 n4 y5,.slice x6 n5 y6],.bool true]) W') ((refine SS _ ?_;repeat (first|exact hBd|exact Below.refl _ _|refine Below.drew ?_|refine Below.alloc ?_ (by simp <;> omega) _|refine Below.setCell ?_ (by simp <;> omega) _))) (first|fail)
 all_goals
  have hBX:Below W0.heap.size W0 (W0.alloc (.cells #[.int .i64 old.authority,.int .i64 old.number,.int .i64 old.pos,.string ⟨old.prev.toArray⟩,.slice x1 n0 y1,.int .i64 old.sel.index,.slice x2 n1 y2,.slice x3 n2 y3,.int .i64 aV.authority,.int .i64 aV.number,.int .i64 aV.pos,.string ⟨aV.prev.toArray⟩,.slice x4 n3 y4,.int .i64 aV.sel.index,.slice x5 n4 y5,.slice x6 n5 y6] 97)).drew:=((Below.refl _ W0).alloc nR _).drew
  have hrX:(W0.alloc (.cells #[.int .i64 old.authority,.int .i64 old.number,.int .i64 old.pos,.string ⟨old.prev.toArray⟩,.slice x1 n0 y1,.int .i64 old.sel.index,.slice x2 n1 y2,.slice x3 n2 y3,.int .i64 aV.authority,.int .i64 aV.number,.int .i64 aV.pos,.string ⟨aV.prev.toArray⟩,.slice x4 n3 y4,.int .i64 aV.sel.index,.slice x5 n4 y5,.slice x6 n5 y6] 97)).drew.rangeAt (w.heap.size+3) 0 [.int .i64 old.authority,.int .i64 old.number,.int .i64 old.pos,.string ⟨old.prev.toArray⟩,.slice x1 n0 y1,.int .i64 old.sel.index,.slice x2 n1 y2,.slice x3 n2 y3,.int .i64 aV.authority,.int .i64 aV.number,.int .i64 aV.pos,.string ⟨aV.prev.toArray⟩,.slice x4 n3 y4,.int .i64 aV.sel.index,.slice x5 n4 y5,.slice x6 n5 y6]:=by
   rw [← hsz]
   exact fun j u hj=>Br W0 [.int .i64 old.authority,.int .i64 old.number,.int .i64 old.pos,.string ⟨old.prev.toArray⟩,.slice x1 n0 y1,.int .i64 old.sel.index,.slice x2 n1 y2,.slice x3 n2 y3,.int .i64 aV.authority,.int .i64 aV.number,.int .i64 aV.pos,.string ⟨aV.prev.toArray⟩,.slice x4 n3 y4,.int .i64 aV.sel.index,.slice x5 n4 y5,.slice x6 n5 y6] 97 j u hj
  have hth:(W0.alloc (.cells #[.int .i64 old.authority,.int .i64 old.number,.int .i64 old.pos,.string ⟨old.prev.toArray⟩,.slice x1 n0 y1,.int .i64 old.sel.index,.slice x2 n1 y2,.slice x3 n2 y3,.int .i64 aV.authority,.int .i64 aV.number,.int .i64 aV.pos,.string ⟨aV.prev.toArray⟩,.slice x4 n3 y4,.int .i64 aV.sel.index,.slice x5 n4 y5,.slice x6 n5 y6] 97)).drew.there (w.heap.size+1+1) 0 16:=fun j hj=>by
   have h2:=(hBX.block (w.heap.size+1+1) (by omega)).trans hblk2
   refine⟨?_,Ao h2 _⟩
   rw [Nat.zero_add,Aa h2 j]
   rcases (by omega:j=0∨j=1∨j=2∨j=3∨j=4∨j=5∨j=6∨j=7∨j=8∨j=9∨j=10∨j=11∨j=12∨j=13∨j=14∨j=15) with rfl|rfl|rfl|rfl|rfl|rfl|rfl|rfl|rfl|rfl|rfl|rfl|rfl|rfl|rfl|rfl <;> rfl
  have hi8:(prog.info? 97).map (·.size)=some 16:=by kernel_rfl
  have hall:(#[.int .i64 old.authority,.int .i64 old.number,.int .i64 old.pos,.string ⟨old.prev.toArray⟩,.slice x1 n0 y1,.int .i64 old.sel.index,.slice x2 n1 y2,.slice x3 n2 y3,.int .i64 aV.authority,.int .i64 aV.number,.int .i64 aV.pos,.string ⟨aV.prev.toArray⟩,.slice x4 n3 y4,.int .i64 aV.sel.index,.slice x5 n4 y5,.slice x6 n5 y6]:Array Value).all (·.oneCell')=true:=all_oneCell_toArray (cs:=[.int .i64 old.authority,.int .i64 old.number,.int .i64 old.pos,.string ⟨old.prev.toArray⟩,.slice x1 n0 y1,.int .i64 old.sel.index,.slice x2 n1 y2,.slice x3 n2 y3,.int .i64 aV.authority,.int .i64 aV.number,.int .i64 aV.pos,.string ⟨aV.prev.toArray⟩,.slice x4 n3 y4,.int .i64 aV.sel.index,.slice x5 n4 y5,.slice x6 n5 y6]) (by
   intro u hu
   simp only [List.mem_cons,List.not_mem_nil,or_false] at hu
   rcases hu with rfl|rfl|rfl|rfl|rfl|rfl|rfl|rfl|rfl|rfl|rfl|rfl|rfl|rfl|rfl|rfl <;> rfl)
  have hBw:=hB0.trans (hBX.mono hB0.size)
  clear SS hBd hBX hblk hblk2
  generalize (W0.alloc (.cells #[.int .i64 old.authority,.int .i64 old.number,.int .i64 old.pos,.string ⟨old.prev.toArray⟩,.slice x1 n0 y1,.int .i64 old.sel.index,.slice x2 n1 y2,.slice x3 n2 y3,.int .i64 aV.authority,.int .i64 aV.number,.int .i64 aV.pos,.string ⟨aV.prev.toArray⟩,.slice x4 n3 y4,.int .i64 aV.sel.index,.slice x5 n4 y5,.slice x6 n5 y6] 97)).drew=X at *
  have hrF:=hid (World.rangeAt_setCells_same X (w.heap.size+1+1) 0 [.int .i64 old.authority,.int .i64 old.number,.int .i64 old.pos,.string ⟨old.prev.toArray⟩,.slice x1 n0 y1,.int .i64 old.sel.index,.slice x2 n1 y2,.slice x3 n2 y3,.int .i64 aV.authority,.int .i64 aV.number,.int .i64 aV.pos,.string ⟨aV.prev.toArray⟩,.slice x4 n3 y4,.int .i64 aV.sel.index,.slice x5 n4 y5,.slice x6 n5 y6] hth)
  have hBF:=hid (Bh (b:=w.heap.size+1+1) hBw (by omega) [.int .i64 old.authority,.int .i64 old.number,.int .i64 old.pos,.string ⟨old.prev.toArray⟩,.slice x1 n0 y1,.int .i64 old.sel.index,.slice x2 n1 y2,.slice x3 n2 y3,.int .i64 aV.authority,.int .i64 aV.number,.int .i64 aV.pos,.string ⟨aV.prev.toArray⟩,.slice x4 n3 y4,.int .i64 aV.sel.index,.slice x5 n4 y5,.slice x6 n5 y6] 0)
  replace hrX:=hid hrX
  replace hth:=hid hth
  replace hall:=hid hall
  simp only [Exit.then]
  refine hK _ _ ?_
  clear hK
  go_wp2_with (refine wpList_load_mid rfl 97 _ rfl (w.heap.size+3) 0 rfl [.int .i64 old.authority,.int .i64 old.number,.int .i64 old.pos,.string ⟨old.prev.toArray⟩,.slice x1 n0 y1,.int .i64 old.sel.index,.slice x2 n1 y2,.slice x3 n2 y3,.int .i64 aV.authority,.int .i64 aV.number,.int .i64 aV.pos,.string ⟨aV.prev.toArray⟩,.slice x4 n3 y4,.int .i64 aV.sel.index,.slice x5 n4 y5,.slice x6 n5 y6] _ hrX.out underlying97 rfl hi8 ?_;refine wpList_store_mid rfl 97 _ _ rfl (w.heap.size+1+1) 0 #[.int .i64 old.authority,.int .i64 old.number,.int .i64 old.pos,.string ⟨old.prev.toArray⟩,.slice x1 n0 y1,.int .i64 old.sel.index,.slice x2 n1 y2,.slice x3 n2 y3,.int .i64 aV.authority,.int .i64 aV.number,.int .i64 aV.pos,.string ⟨aV.prev.toArray⟩,.slice x4 n3 y4,.int .i64 aV.sel.index,.slice x5 n4 y5,.slice x6 n5 y6] rfl rfl hth.out hi8 hall.out ?_)
  refine bodyPost_ret (Cl rfl _ _ ⟨w.heap.size+1+1,0,none⟩ _ rfl (run_loadVar_mid _ (w.heap.size+1+1) 0 97 [.int .i64 old.authority,.int .i64 old.number,.int .i64 old.pos,.string ⟨old.prev.toArray⟩,.slice x1 n0 y1,.int .i64 old.sel.index,.slice x2 n1 y2,.slice x3 n2 y3,.int .i64 aV.authority,.int .i64 aV.number,.int .i64 aV.pos,.string ⟨aV.prev.toArray⟩,.slice x4 n3 y4,.int .i64 aV.sel.index,.slice x5 n4 y5,.slice x6 n5 y6] _ hrF.out underlying97 rfl hi8)) rfl ?_
  exact⟨rfl,hBF.out⟩
def PutNew (w:World) (r:Nat) (p:Int × Int) (x:Value) (kvs:List ((Int × Int) × Value)) (e:Ending) (w':World):Prop :=
 e=.returned (.tuple #[x,.bool true])∧Held [r] w w'∧A8 An r w' (kvs++[(p,x)])
theorem putNew_any (c o r:Nat) (p:Int × Int) (v:CH.Version) (s:bF) (kvs:List ((Int × Int) × Value)) (w:World) (hc:w.cell? ⟨c,o,none⟩=some (.map (some r))) (hm:A8 An r w kvs) (hf:Az p kvs 0=none) (hv:aK w.heap.size w v s) :
  Calls prog 35 #[.pointer (some ⟨c,o,none⟩),An p,.agg (Ab v s).toArray] w (PutNew w r p (.agg (Ab v s).toArray) kvs):=by
 have L:=fun (W:World) (hb:Below w.heap.size w W)=>D8 underlying72 _ verZero (hm.below hb) p
 simp only [hf,Option.map_none,Option.getD_none,Option.isSome_none] at L
 have UP:=fun (W:World) (hb:Below w.heap.size w W)=>Kc underlying72 (hm.below hb) p (.agg (Ab v s).toArray) hf
 obtain⟨p1,p2⟩:=p
 obtain⟨va,v1,v2⟩:=s
 have hoc:∀ u∈([.int .i64 v.authority,.int .i64 v.number,.int .i64 v.pos,.string ⟨v.prev.toArray⟩,va,.int .i64 v.sel.index,v1,v2]:List Value),u.oneCell'=true:=by
  obtain⟨_,_,e1,_,_⟩:=hv.acts.form
  obtain⟨_,_,e2,_,_⟩:=hv.sig.form
  obtain⟨_,_,e3,_,_⟩:=hv.path.form
  change va=_ at e1
  change v1=_ at e2
  change v2=_ at e3
  intro u hu
  simp only [List.mem_cons,List.not_mem_nil,or_false] at hu
  rcases hu with rfl|rfl|rfl|rfl|rfl|rfl|rfl|rfl
  ·rfl
  ·rfl
  ·rfl
  ·rfl
  ·rw [e1];rfl
  ·rfl
  ·rw [e2];rfl
  ·rw [e3];rfl
 replace hoc:=hid hoc
 have hrlt:=hm.lt
 clear hv
 dsimp only [Ab,An] at *
 have gI:=World.block_lt_of_cell? w _ hc
 go_enter func35,ntmps35
 go_wp2_with fail
 rename_i K hK
 have hB0:Below w.heap.size w (((w.alloc (.cells #[.int .i64 p1,.int .i64 p2] 94)).alloc (.cells #[.int .i64 v.authority,.int .i64 v.number,.int .i64 v.pos,.string ⟨v.prev.toArray⟩,va,.int .i64 v.sel.index,v1,v2] 30)).alloc (.cells #[.int .i64 0,.int .i64 0,.int .i64 0,.string ⟨#[]⟩,.slice none 0 0,.int .i64 0,.slice none 0 0,.slice none 0 0] 30)):=(((Below.refl _ w).alloc nR _).alloc (by simp) _).alloc (by simp;omega) _
 have hblk:(((w.alloc (.cells #[.int .i64 p1,.int .i64 p2] 94)).alloc (.cells #[.int .i64 v.authority,.int .i64 v.number,.int .i64 v.pos,.string ⟨v.prev.toArray⟩,va,.int .i64 v.sel.index,v1,v2] 30)).alloc (.cells #[.int .i64 0,.int .i64 0,.int .i64 0,.string ⟨#[]⟩,.slice none 0 0,.int .i64 0,.slice none 0 0,.slice none 0 0] 30)).heap[w.heap.size]?=some (.cells #[.int .i64 p1,.int .i64 p2] 94 (0,0)):=by
  simp only [World.alloc,Array.getElem?_push,Array.size_push]
  rw [if_neg (by omega),if_neg (by omega),if_pos trivial]
 have hblk1:(((w.alloc (.cells #[.int .i64 p1,.int .i64 p2] 94)).alloc (.cells #[.int .i64 v.authority,.int .i64 v.number,.int .i64 v.pos,.string ⟨v.prev.toArray⟩,va,.int .i64 v.sel.index,v1,v2] 30)).alloc (.cells #[.int .i64 0,.int .i64 0,.int .i64 0,.string ⟨#[]⟩,.slice none 0 0,.int .i64 0,.slice none 0 0,.slice none 0 0] 30)).heap[w.heap.size+1]?=some (.cells #[.int .i64 v.authority,.int .i64 v.number,.int .i64 v.pos,.string ⟨v.prev.toArray⟩,va,.int .i64 v.sel.index,v1,v2] 30 (0,0)):=by
  simp only [World.alloc,Array.getElem?_push,Array.size_push]
  rw [if_neg (by omega),if_pos trivial]
 have hblk2:(((w.alloc (.cells #[.int .i64 p1,.int .i64 p2] 94)).alloc (.cells #[.int .i64 v.authority,.int .i64 v.number,.int .i64 v.pos,.string ⟨v.prev.toArray⟩,va,.int .i64 v.sel.index,v1,v2] 30)).alloc (.cells #[.int .i64 0,.int .i64 0,.int .i64 0,.string ⟨#[]⟩,.slice none 0 0,.int .i64 0,.slice none 0 0,.slice none 0 0] 30)).heap[w.heap.size+1+1]?=some (.cells #[.int .i64 0,.int .i64 0,.int .i64 0,.string ⟨#[]⟩,.slice none 0 0,.int .i64 0,.slice none 0 0,.slice none 0 0] 30 (0,0)):=by
  simp only [World.alloc,Array.getElem?_push,Array.size_push]
  rw [if_pos trivial]
 have hsz:(((w.alloc (.cells #[.int .i64 p1,.int .i64 p2] 94)).alloc (.cells #[.int .i64 v.authority,.int .i64 v.number,.int .i64 v.pos,.string ⟨v.prev.toArray⟩,va,.int .i64 v.sel.index,v1,v2] 30)).alloc (.cells #[.int .i64 0,.int .i64 0,.int .i64 0,.string ⟨#[]⟩,.slice none 0 0,.int .i64 0,.slice none 0 0,.slice none 0 0] 30)).heap.size=w.heap.size+3:=by simp
 generalize ((w.alloc (.cells #[.int .i64 p1,.int .i64 p2] 94)).alloc (.cells #[.int .i64 v.authority,.int .i64 v.number,.int .i64 v.pos,.string ⟨v.prev.toArray⟩,va,.int .i64 v.sel.index,v1,v2] 30)).alloc (.cells #[.int .i64 0,.int .i64 0,.int .i64 0,.string ⟨#[]⟩,.slice none 0 0,.int .i64 0,.slice none 0 0,.slice none 0 0] 30)=W0 at *
 have SS:∀ W',Below W0.heap.size W0 W'→W'.cell? ⟨c,o,none⟩=some (.map (some r))∧W'.cell? ⟨w.heap.size,0,none⟩=some (.int .i64 p1)∧W'.cell? ⟨w.heap.size,1,none⟩=some (.int .i64 p2)∧(Instr.lookup 72 (.map (some r)) (.agg #[.int .i64 p1,.int .i64 p2]) true).run prog W'=_:=fun W' hb =>
  ⟨((hB0.trans (hb.mono hB0.size)).cell (p:=⟨c,o,none⟩) gI).trans hc,(hb.cell (p:=⟨w.heap.size,0,none⟩) (by show w.heap.size<_;omega)).trans (Aa hblk 0),(hb.cell (p:=⟨w.heap.size,1,none⟩) (by show w.heap.size<_;omega)).trans (Aa hblk 1),L W' (hB0.trans (hb.mono hB0.size))⟩
 have hBd:Below W0.heap.size W0 W0.drew:=(Below.refl _ W0).drew
 clear L
 go_region_held3 (fun W'=>W'.cell? ⟨c,o,none⟩=some (.map (some r))∧W'.cell? ⟨w.heap.size,0,none⟩=some (.int .i64 p1)∧W'.cell? ⟨w.heap.size,1,none⟩=some (.int .i64 p2)∧(Instr.lookup 72 (.map (some r)) (.agg #[.int .i64 p1,.int .i64 p2]) true).run prog W'=.ok (.tuple #[.agg #[.int .i64 0,.int .i64 0,.int .i64 0,.string ⟨#[]⟩,.slice none 0 0,.int .i64 0,.slice none 0 0,.slice none 0 0],.bool false]) W') ((refine SS _ ?_;repeat (first|exact hBd|exact Below.refl _ _|refine Below.drew ?_|refine Below.alloc ?_ (by simp <;> omega) _|refine Below.setCell ?_ (by simp <;> omega) _))) (first|fail)
 all_goals
  have hBX:Below W0.heap.size W0 (W0.alloc (.cells #[.int .i64 0,.int .i64 0,.int .i64 0,.string ⟨#[]⟩,.slice none 0 0,.int .i64 0,.slice none 0 0,.slice none 0 0] 30)).drew:=((Below.refl _ W0).alloc nR _).drew
  have hrX:(W0.alloc (.cells #[.int .i64 0,.int .i64 0,.int .i64 0,.string ⟨#[]⟩,.slice none 0 0,.int .i64 0,.slice none 0 0,.slice none 0 0] 30)).drew.rangeAt (w.heap.size+3) 0 [.int .i64 0,.int .i64 0,.int .i64 0,.string ⟨#[]⟩,.slice none 0 0,.int .i64 0,.slice none 0 0,.slice none 0 0]:=by
   rw [← hsz]
   exact fun j u hj=>Br W0 [.int .i64 0,.int .i64 0,.int .i64 0,.string ⟨#[]⟩,.slice none 0 0,.int .i64 0,.slice none 0 0,.slice none 0 0] 30 j u hj
  have hth:(W0.alloc (.cells #[.int .i64 0,.int .i64 0,.int .i64 0,.string ⟨#[]⟩,.slice none 0 0,.int .i64 0,.slice none 0 0,.slice none 0 0] 30)).drew.there (w.heap.size+1+1) 0 8:=fun j hj=>by
   have h2:=(hBX.block (w.heap.size+1+1) (by omega)).trans hblk2
   refine⟨?_,Ao h2 _⟩
   rw [Nat.zero_add,Aa h2 j]
   rcases (by omega:j=0∨j=1∨j=2∨j=3∨j=4∨j=5∨j=6∨j=7) with rfl|rfl|rfl|rfl|rfl|rfl|rfl|rfl <;> rfl
  have hi8:(prog.info? 30).map (·.size)=some 8:=by kernel_rfl
  have hall:(#[.int .i64 0,.int .i64 0,.int .i64 0,.string ⟨#[]⟩,.slice none 0 0,.int .i64 0,.slice none 0 0,.slice none 0 0]:Array Value).all (·.oneCell')=true:=all_oneCell_toArray (cs:=[.int .i64 0,.int .i64 0,.int .i64 0,.string ⟨#[]⟩,.slice none 0 0,.int .i64 0,.slice none 0 0,.slice none 0 0]) (by
   intro u hu
   simp only [List.mem_cons,List.not_mem_nil,or_false] at hu
   rcases hu with rfl|rfl|rfl|rfl|rfl|rfl|rfl|rfl <;> rfl)
  have hBw:=hB0.trans (hBX.mono hB0.size)
  obtain⟨s1,s2,s3,_⟩:=SS _ hBX
  have fZ:=(hBX.block (w.heap.size+1) (by omega)).trans hblk1
  have hb2X:=(hBX.block (w.heap.size+1+1) (by omega)).trans hblk2
  have hUP:=UP _ (hBw.drew)
  have hmX:=hm.below hBw
  clear SS hBd hBX hblk hblk1 hblk2 UP hm
  generalize (W0.alloc (.cells #[.int .i64 0,.int .i64 0,.int .i64 0,.string ⟨#[]⟩,.slice none 0 0,.int .i64 0,.slice none 0 0,.slice none 0 0] 30)).drew=X at *
  have hrF:=hid (World.rangeAt_setCells_same X (w.heap.size+1+1) 0 [.int .i64 0,.int .i64 0,.int .i64 0,.string ⟨#[]⟩,.slice none 0 0,.int .i64 0,.slice none 0 0,.slice none 0 0] hth)
  have hBF:=hid (Bh (b:=w.heap.size+1+1) hBw (by omega) [.int .i64 0,.int .i64 0,.int .i64 0,.string ⟨#[]⟩,.slice none 0 0,.int .i64 0,.slice none 0 0,.slice none 0 0] 0)
  replace hrX:=hid hrX
  replace hth:=hid hth
  replace hall:=hid hall
  simp only [Exit.then]
  refine hK _ _ ?_
  clear hK
  go_wp2_with fail
  obtain⟨ob,u1,u2,_⟩:=hUP
  have SX:∀ W',Cells X W'→W'.cell? ⟨c,o,none⟩=some (.map (some r))∧W'.cell? ⟨w.heap.size,0,none⟩=some (.int .i64 p1)∧W'.cell? ⟨w.heap.size,1,none⟩=some (.int .i64 p2)∧W'.cell? ⟨w.heap.size+1,0,none⟩=some (.int .i64 v.authority)∧W'.cell? ⟨w.heap.size+1,1,none⟩=some (.int .i64 v.number)∧W'.cell? ⟨w.heap.size+1,2,none⟩=some (.int .i64 v.pos)∧W'.cell? ⟨w.heap.size+1,3,none⟩=some (.string ⟨v.prev.toArray⟩)∧W'.cell? ⟨w.heap.size+1,4,none⟩=some va∧W'.cell? ⟨w.heap.size+1,5,none⟩=some (.int .i64 v.sel.index)∧W'.cell? ⟨w.heap.size+1,6,none⟩=some v1∧W'.cell? ⟨w.heap.size+1,7,none⟩=some v2:=fun W' hb=>⟨hb _ _ s1,hb _ _ s2,hb _ _ s3,hb _ _ (Aa fZ 0),hb _ _ (Aa fZ 1),hb _ _ (Aa fZ 2),hb _ _ (Aa fZ 3),hb _ _ (Aa fZ 4),hb _ _ (Aa fZ 5),hb _ _ (Aa fZ 6),hb _ _ (Aa fZ 7)⟩
  have hBd:Below X.heap.size X X.drew:=(Below.refl _ X).drew
  have hHX:Held [r] X (X.drew.putObj r ob):=⟨hBd.os,hBd.tape,hBd.output,by simp [World.putObj],fun k hk hr=>(World.putObj_heap_other (by simpa using hr)).trans (hBd.block k hk)⟩
  have hcp:Cells X (X.drew.putObj r ob):=hHX.cells (fun q hq=>by
   cases List.mem_singleton.1 hq
   obtain⟨es,ck,e,_⟩:=hmX
   exact⟨es,ck,e⟩)
  have hcd:Cells X X.drew:=Cells.of_below hBd
  have hcr:Cells X X:=fun _ _ h=>h
  go_region_held3 (fun W'=>W'.cell? ⟨c,o,none⟩=some (.map (some r))∧W'.cell? ⟨w.heap.size,0,none⟩=some (.int .i64 p1)∧W'.cell? ⟨w.heap.size,1,none⟩=some (.int .i64 p2)∧W'.cell? ⟨w.heap.size+1,0,none⟩=some (.int .i64 v.authority)∧W'.cell? ⟨w.heap.size+1,1,none⟩=some (.int .i64 v.number)∧W'.cell? ⟨w.heap.size+1,2,none⟩=some (.int .i64 v.pos)∧W'.cell? ⟨w.heap.size+1,3,none⟩=some (.string ⟨v.prev.toArray⟩)∧W'.cell? ⟨w.heap.size+1,4,none⟩=some va∧W'.cell? ⟨w.heap.size+1,5,none⟩=some (.int .i64 v.sel.index)∧W'.cell? ⟨w.heap.size+1,6,none⟩=some v1∧W'.cell? ⟨w.heap.size+1,7,none⟩=some v2) ((refine SX _ ?_;first|exact hcp|exact hcd|exact hcr)) (first|fail)
  have hXs:w.heap.size≤X.heap.size:=hBw.size
  have hb1Y:=(hHX.block (w.heap.size+1) (aZ fZ) (by simp;omega)).trans fZ
  have hb2Y:=(hHX.block (w.heap.size+1+1) (aZ hb2X) (by simp;omega)).trans hb2X
  clear SX hBd hcp hcd hcr u1 hmX hth hrX hrF hBF hall
  have hrY:(X.drew.putObj r ob).rangeAt (w.heap.size+1) 0 [.int .i64 v.authority,.int .i64 v.number,.int .i64 v.pos,.string ⟨v.prev.toArray⟩,va,.int .i64 v.sel.index,v1,v2]:=fun j u hj=>by
   rw [Nat.zero_add,Aa hb1Y j]
   simpa using hj
  have hthY:(X.drew.putObj r ob).there (w.heap.size+1+1) 0 8:=fun j hj=>by
   refine⟨?_,Ao hb2Y _⟩
   rw [Nat.zero_add,Aa hb2Y j]
   rcases (by omega:j=0∨j=1∨j=2∨j=3∨j=4∨j=5∨j=6∨j=7) with rfl|rfl|rfl|rfl|rfl|rfl|rfl|rfl <;> rfl
  generalize X.drew.putObj r ob=Y at *
  have hrF:=hid (World.rangeAt_setCells_same Y (w.heap.size+1+1) 0 [.int .i64 v.authority,.int .i64 v.number,.int .i64 v.pos,.string ⟨v.prev.toArray⟩,va,.int .i64 v.sel.index,v1,v2] hthY)
  have hBF:=hid (Bh (b:=w.heap.size+1+1) (Below.refl w.heap.size Y) (by omega) [.int .i64 v.authority,.int .i64 v.number,.int .i64 v.pos,.string ⟨v.prev.toArray⟩,va,.int .i64 v.sel.index,v1,v2] 0)
  have hall:=hid (all_oneCell_toArray hoc.out)
  replace hrY:=hid hrY
  replace hthY:=hid hthY
  go_wp2_with (refine wpList_load_mid rfl 30 _ rfl (w.heap.size+1) 0 rfl [.int .i64 v.authority,.int .i64 v.number,.int .i64 v.pos,.string ⟨v.prev.toArray⟩,va,.int .i64 v.sel.index,v1,v2] _ hrY.out underlying30 rfl hi8 ?_;refine wpList_store_mid rfl 30 _ _ rfl (w.heap.size+1+1) 0 #[.int .i64 v.authority,.int .i64 v.number,.int .i64 v.pos,.string ⟨v.prev.toArray⟩,va,.int .i64 v.sel.index,v1,v2] rfl rfl hthY.out hi8 hall.out ?_)
  refine bodyPost_ret (Cl rfl _ _ ⟨w.heap.size+1+1,0,none⟩ _ rfl (run_loadVar_mid _ (w.heap.size+1+1) 0 30 [.int .i64 v.authority,.int .i64 v.number,.int .i64 v.pos,.string ⟨v.prev.toArray⟩,va,.int .i64 v.sel.index,v1,v2] _ hrF.out underlying30 rfl hi8)) rfl ?_
  refine⟨rfl,⟨hBF.out.os.trans (hHX.os.trans hBw.os),hBF.out.tape.trans (hHX.tape.trans hBw.tape),hBF.out.output.trans (hHX.output.trans hBw.output),nT hBw.size (nT hHX.size hBF.out.size),fun k hk hr=>(hBF.out.block k hk).trans ((hHX.block k (nL hk hXs) hr).trans (hBw.block k hk))⟩,?_⟩
  obtain⟨es,ck,e1,e2⟩:=u2
  exact⟨es,ck,(hBF.out.block r hrlt).trans e1,e2⟩
end
end Go.Proofs.YtjaeapaeaiiieaaGreatDoor
