/-L-/
import Derived.OrdersHeld
import Derived.Deep.RegionHeld
import Derived.Deep.RegionHeld3
import Derived.Test.YtjnooagaghdkdaaGreatDoorZ1
set_option maxHeartbeats 10000000
set_option maxRecDepth 100000
set_option linter.all false
namespace Go.Proofs.YtjnooagaghdkdaaGreatDoor
section
open Go.RowKit
@[go_sem] theorem grow_drewN' (w:World) (n:Nat) (e:Array Obj) (d:Nat):grow (w.drewN n) e d=grow w e d:=rfl
@[go_sem] theorem grow_drew' (w:World) (e:Array Obj) (d:Nat):grow w.drew e d=grow w e d:=rfl
@[go_sem] theorem setCell_drewN' (w:World) (n:Nat) (a:Addr) (v:Value):(w.drewN n).setCell a v=(w.setCell a v).drewN n:=rfl
section
variable {P:Program} {ops:Array Oper} {Q:Exit->Act->World->Prop} {md:Region.Mode} {S:World->Prop} {brk:Nat->Bool}
def Jdq (ops:Array Oper) (brk:Nat->Bool) (listed:Array Bool):Bool:=(List.range ops.size).all fun k=>!(brk k && listed.getD k true)
def wpE (P:Program) (md:Region.Mode) (ops:Array Oper) (Q:Exit->Act->World->Prop) (S:World->Prop) (brk:Nat->Bool):Nat->Array Bool->Act->World->Prop
 | 0,listed,a,w=>Region.ready md ops listed=[]/\Q .normal a w
 | fuel+1,listed,a,w=>
  (Region.ready md ops listed=[]->Q .normal a w)/\
  ∀ i∈Region.ready md ops listed,wpOp P ops Q i (fun a' w'=>(Jdq ops brk (listed.setIfInBounds i true)=true->S w')/\wpE P md ops Q S brk fuel (listed.setIfInBounds i true) a' w') a w
theorem Jg8:∀ (fuel:Nat) (listed:Array Bool) (a:Act) (w:World),wpE P md ops Q S brk fuel listed a w->wpAny P md ops Q fuel listed a w
 | 0,_,_,_,h=>h
 | fuel+1,_,_,_,h=>⟨h.1,fun i hi=>wpOp_mono (fun a' w' h'=>Jg8 fuel _ a' w' h'.2) (h.2 i hi)⟩
theorem JlS {listed:Array Bool} {j:Nat} (h:Jdq ops brk (listed.setIfInBounds j true)=true):Jdq ops brk listed=true:=by
 unfold Jdq at *;rw [List.all_eq_true] at *;intro k hk;have h1:=h k hk
 by_cases hjk:j=k
 ·subst hjk
  simp only [Bool.not_eq_true',zN6] at h1 ⊢;rcases h1 with h1 | h1
  ·exact .inl h1
  ·rcases zD1 j listed.size with h2 | h2
   ·simp [h2] at h1
   ·exact .inr (by simp [Array.getD_eq_getD_getElem?] at h1)
 ·rw [getD_set_ne true hjk] at h1
  exact h1
theorem Jfa {listed:Array Bool} {j:Nat} (h:Jdq ops brk listed=true) (hj:brk j=false):Jdq ops brk (listed.setIfInBounds j true)=true:=by
 unfold Jdq at *;rw [List.all_eq_true] at *;intro k hk;have h1:=h k hk
 by_cases hjk:j=k
 ·subst hjk
  simp [hj]
 ·rw [getD_set_ne true hjk]
  exact h1
def Jnc (md:Region.Mode) (ops:Array Oper) (brk:Nat->Bool) (i:Nat):Bool:=
 (List.range ops.size).all fun j=>!brk j || (match ops[j]? with | some o=>o.after.any fun e=>Region.binds md e && e.on == i | none=>true)
theorem Jl1 {i j:Nat} {oj:Oper} (h:Jnc md ops brk i=true) (hj:ops[j]?=some oj) (hb:brk j=true):∃ e∈oj.after,Region.binds md e=true/\e.on=i:=by
 have hlt:j<ops.size:=(zL2.1 hj).1;have h1:=List.all_eq_true.1 h j (zK0.2 hlt);rw [hb,hj] at h1;simp only [Bool.not_true,zP1] at h1;obtain ⟨k,hk,he⟩:=Array.any_eq_true.1 h1;simp only [zE1,zH0] at he;exact ⟨_,Array.getElem_mem hk,he.1,he.2⟩
theorem Jjf {i j:Nat} {listed:Array Bool} (hr:i∈Region.ready md ops listed) (hj:j∈Region.ready md ops listed):listed.getD j true=false/\∃ oj,ops[j]?=some oj/\∀ e∈oj.after,Region.binds md e=true->e.on≠i:=by
 obtain ⟨hjun,oj,hoj,hall⟩:=mem_ready.1 hj;refine ⟨hjun,oj,hoj,fun e he hb heq=>?_⟩
 have h1:=hall e he hb;have h0:=(mem_ready.1 hr).1;rw [heq] at h1;rcases zD1 i listed.size with h' | h'
 ·simp [h'] at h0 h1; rw [h0] at h1; cases h1
 ·simp [zL3 h'] at h1
theorem Jm9 {i:Nat} {oi:Oper} {v:Value} (hi:ops[i]?=some oi) (hsel:∀ (j:Nat) (o:Oper) cs b,ops[j]?=some o->o.op≠.select cs b)
  (hQ:∀ c a w,Q (.panic c) (a.put oi.dst v) w->Q (.panic c) a w) (hwt:Jnc md ops brk i=true) (hbi:brk i=false) :
  ∀ (fuel:Nat) (listed:Array Bool) (a:Act) (w:World),
   (∀ j oj,ops[j]?=some oj->j≠i->listed.getD j true=false->(∀ e∈oj.after,Region.binds md e=true->e.on≠i)->oi.apart ops oj=true)->
   i∈Region.ready md ops listed->YieldsIf P ops S oi v a->Jdq ops brk listed=true->S w->
   wpE P md ops Q S brk fuel (listed.setIfInBounds i true) (a.put oi.dst v) w->wpE P md ops Q S brk (fuel+1) listed a w:=by
 intro fuel
 induction fuel with
 | zero=>
  intro listed a w _ hr hy hc hS H;refine ⟨fun h=>(by rw [h] at hr; cases hr),fun j hj=>?_⟩
  by_cases hji:j=i
  ·subst hji; exact hy.wpOp hi hS ⟨fun _=>hS,H⟩
  ·have:=ready_mono hj hji
   rw [H.1] at this;cases this
 | succ fuel ih=>
  intro listed a w hfree hr hy hc hS H;refine ⟨fun h=>(by rw [h] at hr; cases hr),fun j hj=>?_⟩
  by_cases hji:j=i
  ·subst hji; exact hy.wpOp hi hS ⟨fun _=>hS,H⟩
  ·have h1:=H.2 j (ready_mono hj hji)
   obtain ⟨hjun,oj,hoj,hnot⟩:=Jjf hr hj;have hbj:brk j=false:=by
    cases hb:brk j with
    | false=>rfl
    | true=>
     obtain ⟨e,he,h2,h3⟩:=Jl1 hwt hoj hb;exact absurd h3 (hnot e he h2)
   have h2:=wpOp_putIf hoj (hfree j oj hoj hji hjun hnot) (fun cs b=>hsel i oi cs b hi) (fun cs b=>hsel j oj cs b hoj) hQ hy h1
   have hfree':∀ k ok,ops[k]?=some ok->k≠i->(listed.setIfInBounds j true).getD k true=false->
     (∀ e∈ok.after,Region.binds md e=true->e.on≠i)->oi.apart ops ok=true:=fun k ok hk hki hun hno=>by
    refine hfree k ok hk hki ?_ hno
    by_cases hjk:j=k
    ·subst hjk; exact hjun
    ·rw [getD_set_ne true hjk] at hun; exact hun
   have hcj:=Jfa hc hbj;have hcij:=Jfa (Jfa hc hbi) hbj;refine wpOp_mono (fun a' w' h3=>⟨fun _=>h3.2.1 hcij,ih (listed.setIfInBounds j true) a' w' hfree' (ready_mono hr (Ne.symm hji)) h3.1 hcj (h3.2.1 hcij) ?_⟩) h2
   rw [zR2 _ _ hji];exact h3.2.2
theorem Jg7 {i:Nat} {oi:Oper} {v:Value} (hi:ops[i]?=some oi) (hsel:∀ (j:Nat) (o:Oper) cs b,ops[j]?=some o->o.op≠.select cs b)
  (hQ:∀ c a w,Q (.panic c) (a.put oi.dst v) w->Q (.panic c) a w) (hbi:brk i=false) :
  ∀ (fuel:Nat) (listed:Array Bool) (a:Act) (w:World),
   (∀ j oj,ops[j]?=some oj->j≠i->listed.getD j true=false->(∀ e∈oj.after,Region.binds md e=true->e.on≠i)->oi.apart ops oj=true)->
   i∈Region.ready md ops listed->YieldsIf P ops (fun _=>True) oi v a->(Jdq ops brk listed=true->S w)->
   wpE P md ops Q S brk fuel (listed.setIfInBounds i true) (a.put oi.dst v) w->wpE P md ops Q S brk (fuel+1) listed a w:=by
 intro fuel
 induction fuel with
 | zero=>
  intro listed a w _ hr hy hS H;refine ⟨fun h=>(by rw [h] at hr; cases hr),fun j hj=>?_⟩
  by_cases hji:j=i
  ·subst hji; exact hy.wpOp hi trivial ⟨fun hc=>hS (JlS hc),H⟩
  ·have:=ready_mono hj hji
   rw [H.1] at this;cases this
 | succ fuel ih=>
  intro listed a w hfree hr hy hS H;refine ⟨fun h=>(by rw [h] at hr; cases hr),fun j hj=>?_⟩
  by_cases hji:j=i
  ·subst hji; exact hy.wpOp hi trivial ⟨fun hc=>hS (JlS hc),H⟩
  ·have h1:=H.2 j (ready_mono hj hji)
   obtain ⟨hjun,oj,hoj,hnot⟩:=Jjf hr hj;have h2:=wpOp_putIf hoj (hfree j oj hoj hji hjun hnot) (fun cs b=>hsel i oi cs b hi) (fun cs b=>hsel j oj cs b hoj) hQ hy h1
   have hfree':∀ k ok,ops[k]?=some ok->k≠i->(listed.setIfInBounds j true).getD k true=false->
     (∀ e∈ok.after,Region.binds md e=true->e.on≠i)->oi.apart ops ok=true:=fun k ok hk hki hun hno=>by
    refine hfree k ok hk hki ?_ hno
    by_cases hjk:j=k
    ·subst hjk; exact hjun
    ·rw [getD_set_ne true hjk] at hun; exact hun
   have hcc:Jdq ops brk (listed.setIfInBounds j true)=true->Jdq ops brk ((listed.setIfInBounds i true).setIfInBounds j true)=true:=fun hc=>by
    rw [zR2 _ _ (Ne.symm hji)];exact Jfa hc hbi
   refine wpOp_mono (fun a' w' h3=>⟨fun hc=>h3.2.1 (hcc hc),ih (listed.setIfInBounds j true) a' w' hfree' (ready_mono hr (Ne.symm hji)) h3.1 (fun hc=>h3.2.1 (hcc hc)) ?_⟩) h2
   rw [zR2 _ _ hji];exact h3.2.2
theorem Jk3 {i:Nat} {oi:Oper} {v:Value} {fuel:Nat} {listed:Array Bool} {a:Act} {w:World} (hi:ops[i]?=some oi)
  (hs:Region.noSelect ops=true) (hf:Region.free md ops listed i=true) (hr:(Region.ready md ops listed).contains i=true)
  (hwt:Jnc md ops brk i=true) (hc:Jdq ops brk listed=true) (hbi:brk i=false)
  (hQ:∀ c a w,Q (.panic c) (a.put oi.dst v) w->Q (.panic c) a w) (hy:YieldsIf P ops S oi v a) (hS:S w)
  (h:wpE P md ops Q S brk fuel (listed.setIfInBounds i true) (a.put oi.dst v) w):wpE P md ops Q S brk (fuel+1) listed a w:=
 Jm9 hi (Region.noSelect_spec hs) hQ hwt hbi fuel listed a w (Region.free_spec hi hf) (by simpa using hr) hy hc hS h
theorem JiI {i:Nat} {oi:Oper} {v:Value} {fuel:Nat} {listed:Array Bool} {a:Act} {w:World} (hi:ops[i]?=some oi)
  (hs:Region.noSelect ops=true) (hf:Region.free md ops listed i=true) (hr:(Region.ready md ops listed).contains i=true) (hbi:brk i=false)
  (hQ:∀ c a w,Q (.panic c) (a.put oi.dst v) w->Q (.panic c) a w) (hy:YieldsIf P ops (fun _=>True) oi v a) (hS:S w)
  (h:wpE P md ops Q S brk fuel (listed.setIfInBounds i true) (a.put oi.dst v) w):wpE P md ops Q S brk (fuel+1) listed a w:=
 Jg7 hi (Region.noSelect_spec hs) hQ hbi fuel listed a w (Region.free_spec hi hf) (by simpa using hr) hy (fun _=>hS) h
theorem JiH {i:Nat} {oi:Oper} {v:Value} {fuel:Nat} {listed:Array Bool} {a:Act} {w:World} (hi:ops[i]?=some oi)
  (hs:Region.noSelect ops=true) (hf:Region.free md ops listed i=true) (hr:(Region.ready md ops listed).contains i=true) (hbi:brk i=false)
  (hQ:∀ c a w,Q (.panic c) (a.put oi.dst v) w->Q (.panic c) a w) (hy:YieldsIf P ops (fun _=>True) oi v a) (hc:Jdq ops brk listed=false)
  (h:wpE P md ops Q S brk fuel (listed.setIfInBounds i true) (a.put oi.dst v) w):wpE P md ops Q S brk (fuel+1) listed a w:=
 Jg7 hi (Region.noSelect_spec hs) hQ hbi fuel listed a w (Region.free_spec hi hf) (by simpa using hr) hy (fun hc2=>by rw [hc] at hc2; cases hc2) h
def AllE (P:Program) (md:Region.Mode) (ops:Array Oper) (Q:Exit->Act->World->Prop) (S:World->Prop) (brk:Nat->Bool) (fuel:Nat) (listed:Array Bool) (a:Act) (w:World) (rs:List Nat):Prop:=
 ∀ i∈rs,wpOp P ops Q i (fun a' w'=>(Jdq ops brk (listed.setIfInBounds i true)=true->S w')/\wpE P md ops Q S brk fuel (listed.setIfInBounds i true) a' w') a w
theorem AllE.nil {fuel:Nat} {listed:Array Bool} {a:Act} {w:World}:AllE P md ops Q S brk fuel listed a w []:=fun _ h=>by cases h
theorem AllE.cons {fuel:Nat} {listed:Array Bool} {a:Act} {w:World} {i:Nat} {o:Oper} {rs:List Nat} (ho:ops[i]?=some o)
  (h:∀ K':Act->World->Prop,Shut (∀ a w,S w->(S w->wpE P md ops Q S brk fuel (listed.setIfInBounds i true) a w)->K' a w)->if Region.wanted o (yielded ops a.tmps)=true then Oper.wp P o a w K' Q else K' (a.put o.dst undef) w)
  (hs:AllE P md ops Q S brk fuel listed a w rs):AllE P md ops Q S brk fuel listed a w (i :: rs):=fun j hj=>by
 rcases zE2.1 hj with rfl | hj
 ·exact wpOp_step ho (fun K' hK=>h K' (fun a w hS hW=>hK a w ⟨fun _=>hS,hW hS⟩))
 ·exact hs j hj
theorem AllE.last {fuel:Nat} {listed:Array Bool} {a:Act} {w:World} {i:Nat} {o:Oper} {rs:List Nat} (ho:ops[i]?=some o) (hb:Jdq ops brk (listed.setIfInBounds i true)=false)
  (h:∀ K':Act->World->Prop,Shut (∀ a w,wpE P md ops Q S brk fuel (listed.setIfInBounds i true) a w->K' a w)->if Region.wanted o (yielded ops a.tmps)=true then Oper.wp P o a w K' Q else K' (a.put o.dst undef) w)
  (hs:AllE P md ops Q S brk fuel listed a w rs):AllE P md ops Q S brk fuel listed a w (i :: rs):=fun j hj=>by
 rcases zE2.1 hj with rfl | hj
 ·exact wpOp_step ho (fun K' hK=>h K' (fun a w hW=>hK a w ⟨fun hf=>(by rw [hb] at hf; cases hf),hW⟩))
 ·exact hs j hj
theorem Jm8 {rs:List Nat} {fuel:Nat} {listed:Array Bool} {a:Act} {w:World} (hr:Region.ready md ops listed=rs) (hne:rs≠[])
  (h:AllE P md ops Q S brk fuel listed a w rs):wpE P md ops Q S brk (fuel+1) listed a w:=⟨fun h0=>absurd (hr▸h0) hne,by rw [hr]; exact h⟩
theorem wpE_done {listed:Array Bool} {a:Act} {w:World} (hr:Region.ready md ops listed=[]) (h:Q .normal a w) :
  ∀ fuel,wpE P md ops Q S brk fuel listed a w
 | 0=>⟨hr,h⟩
 | _+1=>⟨fun _=>h,by rw [hr]; simp⟩
theorem Jj7 {id:Nat} {a:Act} {w:World} (hm:P.follows .mixedOrders=true) (h:∀ W,Hid (W=w.drew)->wpAny P .any ops Q ops.size (Array.replicate ops.size false) a W):(Code.region id ops true).wp P Q a w:=
 wp_region_any hm (h _ (zA0 rfl))
theorem JaD {a:Act} {W:World} (S:World->Prop) (brk:Nat->Bool) (hS:S W) (h:S W->wpE P .any ops Q S brk ops.size (Array.replicate ops.size false) a W):wpAny P .any ops Q ops.size (Array.replicate ops.size false) a W:=
 Jg8 _ _ _ _ (h hS)
end
section
variable {P:Program} {w:World} {ops:Array Oper} {o:Oper} {a:Act} {K:Act->World->Prop} {Q:Exit->Act->World->Prop} {EE:Prop}
theorem JbV (hw:Region.wanted o (yielded ops a.tmps)=true) (sv x:Operand) (t:TypeId)
  (ho:o.op=.call { callee:=.builtin .append,args:=#[sv,x],argTypes:=#[t,t] })
  {α:Type} {f:α->List Value} {s:Nat} {e:TypeId} {z:Value} {bytes:Nat} (E:El P t e z s bytes) {B:Nat} {v xv:Value} {l m:List α}
  (hs:a.eval sv=v) (hx:a.eval x=xv) (hown:Ow f s e w B v l) (hsrc:Sl f s w xv m) (h1:∀ x,∀ u∈f x,u.oneCell'=true)
  (h63:l.length+m.length<=maxLen) (hbytes:(l.length+m.length)*bytes<=140737488355328) (hbase:B<=w.heap.size)
  (h:∀ v' w',Ow f s e w' B v' (l ++ m)->w.grownBy w' v.ownBlock->(v'.ownBlock=v.ownBlock\/v'.ownBlock=some w.heap.size)->K (a.put o.dst v') w'):if Region.wanted o (yielded ops a.tmps)=true then Oper.wp P o a w K Q else EE:=by
 rw [if_pos hw];exact Jm7 w sv x t ho E hs hx hown hsrc h1 h63 hbytes hbase h
theorem Jk9 (hw:Region.wanted o (yielded ops a.tmps)=true) (x y:Operand) (t:TypeId) (ho:o.op=Op.makeSlice t x y)
  {α:Type} {f:α->List Value} {s:Nat} {e:TypeId} {z:Value} {bytes:Nat} (E:El P t e z s bytes) {B n:Nat} {C:Int} (hx:a.eval x=.int .i64 0) (hy:a.eval y=.int .i64 C) (hC:C=(n:Int))
  (hbytes:n*bytes<=140737488355328) (hn:n<=maxLen) (hbase:B<=w.heap.size)
  (h:∀ w',Ow f s e w' B (.slice (some ⟨w.heap.size,0,none⟩) 0 n) []->w.grownBy w' none->K (a.put o.dst (.slice (some ⟨w.heap.size,0,none⟩) 0 n)) w'):if Region.wanted o (yielded ops a.tmps)=true then Oper.wp P o a w K Q else EE:=by
 rw [if_pos hw];obtain ⟨i,hi,hz⟩:=zK9.1 E.info;simp only [Prod.mk.injEq] at hz;obtain ⟨z1,z2,z3⟩:=hz;obtain ⟨w',hrun,r1,r2⟩:=run_make_own (P:=P) w B t e i z s E.slice hi z1 z2 .i64 .i64 n (by rw [z3,zL8]; omega) hn hbase
 subst hC;unfold Oper.wp;simp [execOp,ho,hx,hy,hrun,Result.andThen];exact h w' ⟨r1,by simp⟩ r2
end
theorem Ow.one_at {α:Type} (f:α->List Value) (s:Nat) (w:World) (x:α) (e:TypeId) (hs:(f x).length=s) (cs:Array Value) (hcs:cs.toList=f x) {n B:Nat} (hn:n=w.heap.size) (hB:B<=w.heap.size):Ow f s e (w.alloc (.cells cs e)) B (.slice (some ⟨n,0,none⟩) 1 1) [x]:=by
 subst hn;refine ⟨?_,by simpa using hs⟩
 have:=World.ownsRow_lit (e:=e) (size:=s) w cs 1 hB (by simp [maxLen]) (by rw [<-Array.length_toList,hcs,hs,Nat.one_mul])
 rw [hcs] at this;simpa using this
theorem Jb0 {α:Type} {K:Act->World->Prop} {A:Act} {Wc:World} {cs:Array Value} {e:TypeId} {n:Nat} (hn:n=Wc.heap.size) (B:Nat) (hB:B<=Wc.heap.size) (f:α->List Value) (s:Nat) (x:α) (hs:(f x).length=s) (hcs:cs.toList=f x)
  (h:∀ w',Ow f s e w' B (.slice (some ⟨n,0,none⟩) 1 1) [x]->Below Wc.heap.size Wc w'->K A w'):K A (Wc.alloc (.cells cs e)):=
 h _ (Ow.one_at f s Wc x e hs cs hcs hn hB) ((zB6 _ _).alloc (zA3 _) _)
theorem Ow.lt {α:Type} {f:α->List Value} {s:Nat} {e:TypeId} {w:World} {B:Nat} {v:Value} {l:List α} (h:Ow f s e w B v l):∀ g,v.ownBlock=some g->g<w.heap.size:=by
 intro q hq;obtain ⟨A,c,rfl,_,_,_,h4⟩:=h.form;cases A with
 | none=>cases hq
 | some a=>
  obtain ⟨g,rfl,_,hg⟩:=h4 _ rfl;have e1:g=q:=by simpa [Value.ownBlock] using hq
  omega
theorem Ow.apart {α:Type} {f:α->List Value} {s:Nat} {e:TypeId} {w:World} {B:Nat} {v x:Value} {l:List α} (h:Ow f s e w B v l) {g:Nat} (hx:x.ownBlock=some g) (hg:w.heap.size<=g):v.ownBlock≠x.ownBlock:=by
 intro h1;have:=h.lt g (h1.trans hx);omega
theorem Ow.moved {α:Type} {f:α->List Value} {s:Nat} {e:TypeId} {W W' w':World} {ext:Array Obj} {d d' B:Nat} {v:Value} {l:List α} (h:Ow f s e (grow W ext d) B v l) (hB:W.heap.size<=B) (hb:Below (grow W' ext d').heap.size (grow W' ext d') w') (hs:W'.heap.size=W.heap.size):Ow f s e w' B v l:=
 (h.regrow hB hs).below hb
theorem Jax {P:Program} {c:Code} {Q:Exit->Act->World->Prop} {a:Act} {w:World} (h:∀ W,Hid (W=w)->c.wp P Q a W):c.wp P Q a w:=h w (zA0 rfl)
theorem JcF {W w1 w2:World} {r:Option Nat} (hb:Below W.heap.size W w1) (hg:w1.grownBy w2 r) (hr:∀ g,r=some g->W.heap.size<=g):∃ ext d,w2=grow W ext d:=by
 obtain ⟨h1,h2,h3,h4,h5⟩:=hb;obtain ⟨g1,g2,g3,g4,g5⟩:=hg;refine zA2 W ⟨g1.trans h1,g2.trans h2,g3.trans h3,zB5 h4 g4,fun k hk=>?_⟩
 rw [g5 k qH1 ?_,h5 k hk];cases r with
 | none=>simp
 | some g=>have:=hr g rfl; simp; omega
theorem Ow.above {α:Type} {f:α->List Value} {s:Nat} {e:TypeId} {w:World} {B:Nat} {v:Value} {l:List α} (h:Ow f s e w B v l):∀ g,v.ownBlock=some g->B<=g:=by
 intro q hq;obtain ⟨A,c,rfl,_,_,_,h4⟩:=h.form;cases A with
 | none=>cases hq
 | some a=>
  obtain ⟨g,rfl,hB,_⟩:=h4 _ rfl;have e1:g=q:=by simpa [Value.ownBlock] using hq
  omega
theorem tkY {p:Prop} (h:p:=by intro w hSw; (try dsimp only at hSw); go_simp <;> with_reducible rfl):p:=h
section
variable {P:Program} {md:Region.Mode} {ops:Array Oper} {Q:Exit->Act->World->Prop} {S:World->Prop} {brk:Nat->Bool} {i:Nat} {oi:Oper} {v:Value} {fuel:Nat} {listed:Array Bool} {a:Act} {w:World}
theorem tkP (hi:ops[i]?=some oi:=by simp only [List.getElem?_toArray]; rfl) (hs:Region.noSelect ops=true:=by kernel_rfl) (hf:Region.free md ops listed i=true:=by kernel_rfl) (hr:(Region.ready md ops listed).contains i=true:=by kernel_rfl) (hbi:brk i=false:=by rfl) (hQ:∀ c a w,Q (.panic c) (a.put oi.dst v) w->Q (.panic c) a w:=by exact fun _ _ _ h=>h) (hw:Region.wanted oi (yielded ops a.tmps)=true:=by rfl) (y:∀ w,(fun _:World=>True) w->(execOp a.eval oi).run P w=.ok (.value v) w) (hS:S w:=by assumption) (r:wpE P md ops Q S brk fuel (listed.setIfInBounds i true) (a.put oi.dst v) w):wpE P md ops Q S brk (fuel+1) listed a w:=JiI hi hs hf hr hbi hQ (Or.inl ⟨hw,y⟩) hS r
theorem tkQ (hi:ops[i]?=some oi:=by simp only [List.getElem?_toArray]; rfl) (hs:Region.noSelect ops=true:=by kernel_rfl) (hf:Region.free md ops listed i=true:=by kernel_rfl) (hr:(Region.ready md ops listed).contains i=true:=by kernel_rfl) (hbi:brk i=false:=by rfl) (hQ:∀ c a w,Q (.panic c) (a.put oi.dst v) w->Q (.panic c) a w:=by exact fun _ _ _ h=>h) (hw:Region.wanted oi (yielded ops a.tmps)=true:=by rfl) (y:∀ w,(fun _:World=>True) w->(execOp a.eval oi).run P w=.ok (.value v) w) (hc:Jdq ops brk listed=false:=by kernel_rfl) (r:wpE P md ops Q S brk fuel (listed.setIfInBounds i true) (a.put oi.dst v) w):wpE P md ops Q S brk (fuel+1) listed a w:=JiH hi hs hf hr hbi hQ (Or.inl ⟨hw,y⟩) hc r
theorem tkA (hi:ops[i]?=some oi:=by simp only [List.getElem?_toArray]; rfl) (hs:Region.noSelect ops=true:=by kernel_rfl) (hf:Region.free md ops listed i=true:=by kernel_rfl) (hr:(Region.ready md ops listed).contains i=true:=by kernel_rfl) (hwt:Jnc md ops brk i=true:=by kernel_rfl) (hc:Jdq ops brk listed=true:=by kernel_rfl) (hbi:brk i=false:=by rfl) (hQ:∀ c a w,Q (.panic c) (a.put oi.dst v) w->Q (.panic c) a w:=by exact fun _ _ _ h=>h) (hw:Region.wanted oi (yielded ops a.tmps)=true:=by rfl) (y:∀ w,S w->(execOp a.eval oi).run P w=.ok (.value v) w) (hS:S w:=by assumption) (r:wpE P md ops Q S brk fuel (listed.setIfInBounds i true) (a.put oi.dst v) w):wpE P md ops Q S brk (fuel+1) listed a w:=Jk3 hi hs hf hr hwt hc hbi hQ (Or.inl ⟨hw,y⟩) hS r
theorem tpP (i:Nat) {oi:Oper} {v:Value} {fuel:Nat} {listed:Array Bool} {a:Act} {w:World} {q:Prop} (r:q) (hi:ops[i]?=some oi:=by simp only [List.getElem?_toArray]; rfl) (hs:Region.noSelect ops=true:=by kernel_rfl) (hf:Region.free md ops listed i=true:=by kernel_rfl) (hr:(Region.ready md ops listed).contains i=true:=by kernel_rfl) (hbi:brk i=false:=by rfl) (hQ:∀ c a w,Q (.panic c) (a.put oi.dst v) w->Q (.panic c) a w:=by exact fun _ _ _ h=>h) (hw:Region.wanted oi (yielded ops a.tmps)=true:=by rfl) (y:∀ w,(fun _:World=>True) w->(execOp a.eval oi).run P w=.ok (.value v) w:=by intro w hSw; (try dsimp only at hSw); go_simp <;> with_reducible rfl) (hS:S w:=by assumption) (e:(wpE P md ops Q S brk fuel (listed.setIfInBounds i true) (a.put oi.dst v) w)=q:=by first | (simp only [Act.put,List.setIfInBounds_toArray,List.set_cons_zero,List.set_cons_succ]; first | done | rfl) | rfl):wpE P md ops Q S brk (fuel+1) listed a w:=JiI hi hs hf hr hbi hQ (Or.inl ⟨hw,y⟩) hS (e.mpr r)
theorem tpQ (i:Nat) {oi:Oper} {v:Value} {fuel:Nat} {listed:Array Bool} {a:Act} {w:World} {q:Prop} (r:q) (hi:ops[i]?=some oi:=by simp only [List.getElem?_toArray]; rfl) (hs:Region.noSelect ops=true:=by kernel_rfl) (hf:Region.free md ops listed i=true:=by kernel_rfl) (hr:(Region.ready md ops listed).contains i=true:=by kernel_rfl) (hbi:brk i=false:=by rfl) (hQ:∀ c a w,Q (.panic c) (a.put oi.dst v) w->Q (.panic c) a w:=by exact fun _ _ _ h=>h) (hw:Region.wanted oi (yielded ops a.tmps)=true:=by rfl) (y:∀ w,(fun _:World=>True) w->(execOp a.eval oi).run P w=.ok (.value v) w:=by intro w hSw; (try dsimp only at hSw); go_simp <;> with_reducible rfl) (hc:Jdq ops brk listed=false:=by kernel_rfl) (e:(wpE P md ops Q S brk fuel (listed.setIfInBounds i true) (a.put oi.dst v) w)=q:=by first | (simp only [Act.put,List.setIfInBounds_toArray,List.set_cons_zero,List.set_cons_succ]; first | done | rfl) | rfl):wpE P md ops Q S brk (fuel+1) listed a w:=JiH hi hs hf hr hbi hQ (Or.inl ⟨hw,y⟩) hc (e.mpr r)
theorem tpA (i:Nat) {oi:Oper} {v:Value} {fuel:Nat} {listed:Array Bool} {a:Act} {w:World} {q:Prop} (r:q) (hi:ops[i]?=some oi:=by simp only [List.getElem?_toArray]; rfl) (hs:Region.noSelect ops=true:=by kernel_rfl) (hf:Region.free md ops listed i=true:=by kernel_rfl) (hr:(Region.ready md ops listed).contains i=true:=by kernel_rfl) (hwt:Jnc md ops brk i=true:=by kernel_rfl) (hc:Jdq ops brk listed=true:=by kernel_rfl) (hbi:brk i=false:=by rfl) (hQ:∀ c a w,Q (.panic c) (a.put oi.dst v) w->Q (.panic c) a w:=by exact fun _ _ _ h=>h) (hw:Region.wanted oi (yielded ops a.tmps)=true:=by rfl) (y:∀ w,S w->(execOp a.eval oi).run P w=.ok (.value v) w:=by intro w hSw; (try dsimp only at hSw); go_simp <;> with_reducible rfl) (hS:S w:=by assumption) (e:(wpE P md ops Q S brk fuel (listed.setIfInBounds i true) (a.put oi.dst v) w)=q:=by first | (simp only [Act.put,List.setIfInBounds_toArray,List.set_cons_zero,List.set_cons_succ]; first | done | rfl) | rfl):wpE P md ops Q S brk (fuel+1) listed a w:=Jk3 hi hs hf hr hwt hc hbi hQ (Or.inl ⟨hw,y⟩) hS (e.mpr r)
end
abbrev zB1:=@Jm8
abbrev zB2:=@AllE.nil
abbrev zB4:=@AllE.cons
abbrev zC4:=@wpE_done
abbrev zC8:=@AllE.last
abbrev zD8:=@Jj7
structure Grn where
 ext:Array Obj
 d:Nat
instance:Nonempty Grn:=⟨⟨#[],0⟩⟩
theorem grow_nil (W:World) (d:Nat):grow W #[] d={ W with drawn:=d }:=by simp [grow]
theorem JbF {P:Program} {id:Nat} {Q:Exit->Act->World->Prop} {a:Act} {w:World} {l:List Oper} (hm:P.follows .mixedOrders=true) (hB:Region.lexB .any l.toArray=true)
  (h:wpQuiet P l.toArray (fun w'=>∃ p:Grn,w'=grow w p.ext p.d) (fun a'=>∀ w',(∃ p:Grn,w'=grow w p.ext p.d)->Q .normal a' w') l a):(Code.region id l.toArray true).wp P Q a w:=
 wp_region_quiet (C:=fun w'=>∃ p:Grn,w'=grow w p.ext p.d) hm hB ⟨⟨#[],w.drawn+1⟩,(grow_nil w _).symm⟩ qA1
theorem Calls.grow_of {P:Program} {f:FuncId} {args:Array Value} {w:World} {p:Grn} {v:Value}
  (h:Calls P f args (grow w p.ext p.d) fun e w'=>e=.returned v/\Below (grow w p.ext p.d).heap.size (grow w p.ext p.d) w'):Calls P f args (grow w p.ext p.d) fun e w''=>e=.returned v/\∃ p:Grn,w''=grow w p.ext p.d:=
 h.mono fun _ _ ⟨he,hb⟩=>⟨he,by
  obtain ⟨ext,d,h⟩:=zA2 w (zB8 (Below.grow w p.ext p.d (zB6 _ _) (zA3 _)) hb);exact ⟨⟨ext,d⟩,h⟩⟩
/-! a cut inside such a walk: the scratch slots from lo on are forgotten, but for the last of them, that holds a Bool -/
def junk:Nat->Nat->(Nat->Value)->List Value
 | 0,_,_=>[]
 | n+1,i,m=>m i :: junk n (i+1) m
theorem Jlx (m:Nat->Value):∀ (n i k:Nat),(junk n i m)[k]?=if k<n then some (m (i+k)) else none
 | 0,i,k=>by simp [junk]
 | n+1,i,0=>by simp [junk]
 | n+1,i,k+1=>by
  unfold junk;rw [zL4,Jlx m n (i+1) k]
  by_cases h:k<n
  ·rw [if_pos h,if_pos qH1,show i+1+k=i+(k+1) from by omega]
  ·rw [if_neg h,if_neg qH1]
theorem junk_of (l:List Value):junk l.length 0 (fun i=>l.getD i undef)=l:=by
 apply zO2;intro k;rw [Jlx]
 by_cases h:k<l.length
 ·rw [if_pos h,zG3,zE6,zA8 h]
  rfl
 ·rw [if_neg h,zM0 qH1]
theorem act_of {a':Act} {L:List Value} {ds:List Deferred} {lo len:Nat} {v:Value} (h0:a'.defers=ds) (h1:a'.tmps.toList.take lo=L.take lo) (h2:a'.tmps.toList.drop (lo+len+1)=L.drop (lo+len+1)) (h3:a'.tmps.toList[lo+len]?=some v) :
  ∃ m,a'=⟨(L.take lo ++ (junk len 0 m ++ v :: L.drop (lo+len+1))).toArray,ds⟩:=by
 have hlt:=(zB3.1 h3).1;refine ⟨fun i=>((a'.tmps.toList.drop lo).take len).getD i undef,?_⟩
 have hj:=junk_of ((a'.tmps.toList.drop lo).take len);rw [zC2,zE5,zF8 qH1] at hj;rw [hj,<-h1,<-h2];have e1:v :: a'.tmps.toList.drop (lo+len+1)=a'.tmps.toList.drop (lo+len):=by
  rw [zR4 hlt];congr 1;rw [zA8 hlt] at h3;injection h3 with h3
  exact h3.symm
 have e2:(a'.tmps.toList.drop lo).take len ++ a'.tmps.toList.drop (lo+len)=a'.tmps.toList.drop lo:=by
  rw [<-zJ2,zD7]
 rw [e1,e2,zD7];cases a';subst h0;simp
section
variable {P:Program} {ops:Array Oper} {C:World->Prop}
theorem Jek {Q R:Act->Prop}:∀ (l1 l2:List Oper) (a:Act),wpQuiet P ops C R l1 a->(∀ a',R a'->wpQuiet P ops C Q l2 a')->wpQuiet P ops C Q (l1 ++ l2) a
 | [],l2,a,h1,h2=>h2 a h1
 | o :: l1,l2,a,h1,h2=>by
  rw [zF9];unfold wpQuiet at h1 ⊢;split
  ·rename_i hw
   rw [if_pos hw] at h1;exact Oper.quiet_mono (fun a h=>Jek l1 l2 a h h2) h1
  ·rename_i hw
   rw [if_neg hw] at h1;exact Jek l1 l2 _ h1 h2
theorem JaU {Q:Act->Prop} {l:List Oper} {L:List Value} {ds:List Deferred} (n lo len:Nat) (v:Bool)
  (h1:wpQuiet P ops C (fun a'=>a'.defers=ds/\a'.tmps.toList.take lo=L.take lo/\a'.tmps.toList.drop (lo+len+1)=L.drop (lo+len+1)/\a'.tmps.toList[lo+len]?=some (.bool v)) (l.take n) ⟨L.toArray,ds⟩)
  (h2:∀ m b,Hid (v=b)->wpQuiet P ops C Q (l.drop n) ⟨(L.take lo ++ (junk len 0 m ++ .bool b :: L.drop (lo+len+1))).toArray,ds⟩):wpQuiet P ops C Q l ⟨L.toArray,ds⟩:=by
 rw [<-zD7 n l];refine Jek _ _ _ h1 (fun a' h=>?_)
 obtain ⟨m,e⟩:=act_of h.1 h.2.1 h.2.2.1 h.2.2.2;rw [e];exact h2 m v (zA0 rfl)
end
end
end Go.Proofs.YtjnooagaghdkdaaGreatDoor
