/-L-/
import Derived.Test.YtjnooagaghdkdaaGreatDoorZ28
import Derived.Test.YtjnooagaghdkdaaGreatDoorZ37
set_option maxHeartbeats 10000000
set_option maxRecDepth 100000
set_option linter.all false
namespace Go.Proofs.YtjnooagaghdkdaaGreatDoor
section
open Go.RowKit Go.ChangeShapes Go.WideShapes Go.ChangeAt
def pvOf (s:Srv) (v:SrvV):Peer:=⟨s.id,s.epoch,v.la,v.lc,s.log,s.done_⟩
def memP (σ:Wd) (sv:Nat->SrvV) (k:Nat):List Peer:=((List.range k).filter (fun i=>(σ.s i).up)).map (fun i=>pvOf (σ.s i) (sv i))
theorem Jn7 (σ:Wd) (sv:Nat->SrvV) (k:Nat):memP σ sv (k+1)=if (σ.s k).up=true then memP σ sv k ++ [pvOf (σ.s k) (sv k)] else memP σ sv k:=by
 unfold memP;rw [List.range_succ,zO6,zK1]
 by_cases h:(σ.s k).up=true
 ·rw [if_pos h]
  simp [List.filter,h]
 ·rw [if_neg h]
  have:(σ.s k).up=false:=by simpa using h
  simp [List.filter,this]
theorem Jlp (σ:Wd) (sv:Nat->SrvV) (k:Nat):(memP σ sv k).length<=k:=by
 unfold memP;rw [zG0];have:=zM8 (fun i=>(σ.s i).up) (List.range k)
 simpa using this
def Jf3 (p:Peer):Peer:=⟨p.id,p.epoch,none,0,p.log,p.done_⟩
theorem JdY (σ:Wd) (sv:Nat->SrvV) (h:σ.srv.length=3):(memP σ sv 3).map Jf3=upsW σ:=by
 unfold memP upsW;rw [JiZ h,List.map_map];show (([0,1,2]:List Nat).filter (fun i=>(σ.s i).up)).map _=_
 cases h0:(σ.s 0).up <;> cases h1:(σ.s 1).up <;> cases h2:(σ.s 2).up <;> simp [List.filter,h0,h1,h2,Jf3,pvOf,Jar]
theorem Jic (σ:Wd) (sv:Nat->SrvV) (h:σ.srv.length=3) (k:Nat):(upsW σ)[k]?=((memP σ sv 3)[k]?).map Jf3:=by
 rw [<-JdY σ sv h,zI0]
theorem Jib {σ:Wd} {sv:Nat->SrvV} {p:Peer} (h:p∈memP σ sv 3):∃ i,i<3/\(σ.s i).up=true/\p=pvOf (σ.s i) (sv i):=by
 unfold memP at h;obtain ⟨i,hi,rfl⟩:=zL6.1 h;obtain ⟨h1,h2⟩:=zL7.1 hi;exact ⟨i,by simpa using h1,h2,rfl⟩
theorem Jl6 (l:List Peer):topE (l.map Jf3)=topE l:=by
 unfold topE;rw [List.foldl_map];rfl
theorem JmX {l:List Peer} {k:Nat} (h:Best l k):Best (l.map Jf3) k:=by
 intro i x y hi hx hy;rw [zI0] at hx hy;obtain ⟨x',hx',rfl⟩:=zK9.1 hx;obtain ⟨y',hy',rfl⟩:=zK9.1 hy;exact h i x' y' hi hx' hy'
theorem JoE {Reg:List Txn} {E:Int} {K:Nat} {σ:Wd} {sv:Nat->SrvV} (h:Inv Reg E K σ) {e:Ending} (he:JlZ (memP σ sv 3) e) :
  ((upsW σ).length<2/\e=.returned (.tuple #[.int .i64 0,.int .i64 0,.int .i64 14]))\/
  (2<=(upsW σ).length/\∃ k j:Nat,k<(memP σ sv 3).length/\j<3/\(σ.s j).up=true/\(memP σ sv 3)[k]?=some (pvOf (σ.s j) (sv j))/\(upsW σ).getD (Jfd (upsW σ)) Jmk=Jar (σ.s j)/\e=.returned (.tuple #[.int .i64 k,.int .i64 (topE (upsW σ)+1),.int .i64 0])):=by
 have hlen:(upsW σ).length=(memP σ sv 3).length:=by rw [<-JdY σ sv h.n3,zG0]
 have hf:∀ p∈memP σ sv 3,Fine p:=by
  intro p hp;obtain ⟨i,hi,hu,rfl⟩:=Jib hp;have u:=h.toInv0.up hi hu;have e:=(u.ep h.reg h.small).2;have hid:=u.id;unfold Half at e;refine ⟨?_,?_,e.1,e.2⟩ <;> show _ <;> simp only [pvOf] <;> omega
 have hap:∀ i,Jj5 (memP σ sv 3) i:=by
  intro i k x y hk hx hy;have:=JiL h.toInv0 i k (Jf3 x) (Jf3 y) hk (by rw [Jic σ sv h.n3,hx]; rfl) (by rw [Jic σ sv h.n3,hy]; rfl)
  exact this
 have htop:topE (memP σ sv 3)=topE (upsW σ):=by rw [<-JdY σ sv h.n3,Jl6]
 rcases he with ⟨c,hc,hns,h14,rfl⟩ | ⟨hS,k,hk,hb,rfl⟩
 ·left
  by_cases h2:(memP σ sv 3).length<2
  ·rw [h14 hf hap h2,hlen]
   exact ⟨h2,rfl⟩
  ·exfalso
   apply hns;refine ⟨hf,hap,by omega,?_⟩
   have:=(h.toInv0.topE qH1).2.1;have:=h.k300;omega
 ·right
  refine ⟨by rw [hlen]; exact hS.2.2.1,k,?_⟩
  have hx:(memP σ sv 3)[k]?=some ((memP σ sv 3)[k]'hk):=zA8 _;obtain ⟨j,hj,hu,e⟩:=Jib (zI1 hk);rw [e] at hx;refine ⟨j,hk,hj,hu,hx,?_,by rw [htop]⟩
  have hbs:Jfd (upsW σ)=k:=Jg1 qH1 (by rw [<-JdY σ sv h.n3]; exact JmX hb)
  rw [hbs,zE6,Jic σ sv h.n3,hx];rfl
theorem elect_no {σ:Wd} (h:(upsW σ).length<2):Ja7 σ=(σ,rp 14):=if_pos h
theorem JoD {σ:Wd} {j:Nat} (h:2<=(upsW σ).length) (hb:(upsW σ).getD (Jfd (upsW σ)) Jmk=Jar (σ.s j)) (hid:(σ.s j).id=(j:Int)) :
  Ja7 σ=if (JbT (σ.s j).log (topE (upsW σ)+1) [0,1,2] (Jay σ,[])).2.2≠0 then ((JbT (σ.s j).log (topE (upsW σ)+1) [0,1,2] (Jay σ,[])).1,rp (JbT (σ.s j).log (topE (upsW σ)+1) [0,1,2] (Jay σ,[])).2.2)
   else (Jb1 { (JbT (σ.s j).log (topE (upsW σ)+1) [0,1,2] (Jay σ,[])).1 with lead:=(j:Int) } (JbT (σ.s j).log (topE (upsW σ)+1) [0,1,2] (Jay σ,[])).2.1,{ rp 0 with zxid:=Jao (σ.s j).log,notes:=(JbT (σ.s j).log (topE (upsW σ)+1) [0,1,2] (Jay σ,[])).2.1 }):=by
 unfold Ja7;rw [if_neg qH1,hb];simp only [Jar,hid]
theorem SlA.keeps {α:Type} {p r:Nat->Prop} {f:α->List Value} {s:Nat} {w w':World} {v:Value} {l:List α} (h:SlA p f s w v l) (hk:Keeps r w w') (hr:∀ q,r q->p q):SlA p f s w' v l:=by
 refine ⟨?_,h.2⟩;obtain ⟨A,c,hv,h1,h2,h3,h4⟩:=h.1;refine ⟨A,c,hv,h1,h2,h3,fun h0=>?_⟩
 obtain ⟨b,off,rfl,hb,hc⟩:=h4 h0;have hnp:¬ r b:=by
  intro hp;rcases h.2 with h5 | h5
  ·rw [h5] at h0; simp at h0
  ·exact h5 b (hr b hp) (by rw [hv]; rfl)
 exact ⟨b,off,rfl,zD0 hb hk.size,fun i x hx j u hu=>(World.cell?_of_block (hk.block b hb hnp)).trans (hc i x hx j u hu)⟩
structure ElF (p0:Nat->Prop) (b:Nat) (w:World) (L:List Txn) (cv:Nat->ClV) (dv lv pv:Value) (mp:List Peer) (wr:World) (nv:Value) (σ:Wd) (sv:Nat->SrvV) (ns:List Note):Prop where
 win:WIn (fun q=>(p0 q\/q=w.heap.size)\/nv.ownBlock=some q) b wr σ sv cv dv
 nts:Ow JbZ 3 80 wr (w.heap.size+1) nv ns
 log:SlA (pW (fun q=>(p0 q\/q=w.heap.size)\/nv.ownBlock=some q) b dv) cTxn 7 wr lv L
 prs:SlA (pW (fun q=>(p0 q\/q=w.heap.size)\/nv.ownBlock=some q) b dv) JjY 4 wr pv mp
 keep:Keeps (fun q=>q=b\/dv.ownBlock=some q\/w.heap.size<=q) w wr
 box:Bk wr w.heap.size rpZ 35
section
variable {p0:Nat->Prop} {b:Nat} {w:World} {L:List Txn} {cv:Nat->ClV} {dv lv pv:Value} {mp:List Peer} {wr W W':World} {nv:Value} {σ σ':Wd} {sv sv':Nat->SrvV} {ns:List Note}
theorem ElF.fresh (h:ElF p0 b w L cv dv lv pv mp wr nv σ sv ns) {g:Nat} (hgw:wr.heap.size<=g) (hb:Below wr.heap.size wr W) (hg:W.grownBy W' (some g)):ElF p0 b w L cv dv lv pv mp W' nv σ sv ns:=by
 have hbx:=h.box.lt;have hr:∀ q,some g=some q->(fun x=>pW (fun q=>(p0 q\/q=w.heap.size)\/nv.ownBlock=some q) b dv x\/x=g) q:=fun q e=>.inr qa0
 have hm:∀ q,(fun x=>pW (fun q=>(p0 q\/q=w.heap.size)\/nv.ownBlock=some q) b dv x\/x=g) q->pW (fun q=>(p0 q\/q=w.heap.size)\/nv.ownBlock=some q) b dv q\/wr.heap.size<=q:=fun q e=>e.imp id (fun e=>by omega)
 refine ⟨?_,(h.nts.below hb).kept hg (.inr (fun e=>by have:=(h.nts.own_in e).2; omega)),(((h.log.more hm).below hb).grow hg hr (fun _=>.inl)).more (fun q e=>.inl (.inl e)),(((h.prs.more hm).below hb).grow hg hr (fun _=>.inl)).more (fun q e=>.inl (.inl e)),?_,(h.box.below hb).grown hg (fun e=>by injection e with e; omega)⟩
 ·have h1:=(h.win.more (p1:=fun q=>((p0 q\/q=w.heap.size)\/nv.ownBlock=some q)\/q=g) (fun q e=>e.imp id (fun e=>by omega))).below hb
  exact (h1.other hg (.inr rfl)).more (fun q e=>.inl (.inl e))
 ·have h1:=h.keep.trans (zC3 hb (p:=fun q=>q=b)) (fun _ _ e=>.inl e)
  have hs:=h.keep.size;exact h1.trans (zE8 (p:=fun q=>q=g) hg (fun q e=>by injection e with e; exact e.symm)) (fun k hk e=>.inr (.inr qH1))
theorem ElF.setB (h:ElF p0 b w L cv dv lv pv mp wr nv σ sv ns) (hb:b<w.heap.size) (hg:wr.grownBy W (some b)) (hw:WIn (fun q=>(p0 q\/q=w.heap.size)\/nv.ownBlock=some q) b W σ' sv' cv dv):ElF p0 b w L cv dv lv pv mp W nv σ' sv' ns:=by
 have hr:∀ q,some b=some q->pW (fun q=>(p0 q\/q=w.heap.size)\/nv.ownBlock=some q) b dv q:=fun q e=>.inr (.inl qa0)
 refine ⟨hw,h.nts.kept hg (.inr (fun e=>by have:=(h.nts.own_in e).1; omega)),h.log.grow hg hr (fun _=>.inl),h.prs.grow hg hr (fun _=>.inl),?_,h.box.grown hg (fun e=>by injection e with e; omega)⟩
 exact h.keep.trans (zE8 (p:=fun q=>q=b) hg (fun q e=>by injection e with e; exact e.symm)) (fun _ _ e=>.inl e)
theorem ElF.push {v2:Value} {ns2:List Note} (h:ElF p0 b w L cv dv lv pv mp wr nv σ sv ns) (hg:wr.grownBy W nv.ownBlock) (hat:v2.ownBlock=nv.ownBlock\/v2.ownBlock=some wr.heap.size) (ho:Ow JbZ 3 80 W (w.heap.size+1) v2 ns2):ElF p0 b w L cv dv lv pv mp W v2 σ sv ns2:=by
 have hn:∀ q,nv.ownBlock=some q->pW (fun q=>(p0 q\/q=w.heap.size)\/nv.ownBlock=some q) b dv q:=fun q e=>.inl (.inr e)
 have hp:∀ q,pW (fun q=>(p0 q\/q=w.heap.size)\/v2.ownBlock=some q) b dv q->pW (fun q=>(p0 q\/q=w.heap.size)\/nv.ownBlock=some q) b dv q\/wr.heap.size<=q:=by
  rintro q ((e | e) | e)
  ·exact .inl (.inl (.inl e))
  ·rcases hat with a | a
   ·exact .inl (.inl (.inr (a▸e)))
   ·rw [a] at e
    injection e with e
    exact .inr (zH1 e)
  ·exact .inl (.inr e)
 refine ⟨h.win.push hg hat,ho,h.log.push (v2:=v2) hn hg hp,h.prs.push (v2:=v2) hn hg hp,?_,h.box.grown hg (fun e=>by have:=(h.nts.own_in e.symm).1; omega)⟩
 exact h.keep.trans (zE8 (p:=fun q=>nv.ownBlock=some q) hg (fun q e=>e)) (fun k _ e=>.inr (.inr (by have:=(h.nts.own_in e).1; omega)))
end
structure ElL (p0:Nat->Prop) (b:Nat) (w:World) (Reg:List Txn) (E:Int) (K:Nat) (l:List Txn) (ep:Int) (cv:Nat->ClV) (dv lv pv:Value) (mp:List Peer) (σ0:Wd) (k:Nat) (wr:World) (nv:Value) (σ:Wd) (sv:Nat->SrvV) (ns:List Note):Prop extends ElF p0 b w l cv dv lv pv mp wr nv σ sv ns where
 eq:JbT l ep [0,1,2] (σ0,[])=JbT l ep ([0,1,2].drop k) (σ,ns)
 inv:Inv0 Reg E (K+1) σ
 ep:∀ i,i<3->(σ.s i).up=true->epOf (σ.s i)<=ep
 wl:ns.length<=301*k
theorem drop3 {k:Nat} (h:k<3):([0,1,2]:List Nat).drop k=k :: [0,1,2].drop (k+1):=by
 match k,h with
 | 0,_=>rfl
 | 1,_=>rfl
 | 2,_=>rfl
theorem Jot {l:List Txn} {ep:Int} {k:Nat} (h:k<3) {σ:Wd} {ns:List Note} (hu:(σ.s k).up=false):JbT l ep ([0,1,2].drop k) (σ,ns)=JbT l ep ([0,1,2].drop (k+1)) (σ,ns):=by
 rw [drop3 h,JbT,if_pos hu]
theorem Jos {l:List Txn} {ep:Int} {k:Nat} (h:k<3) {σ:Wd} {ns:List Note} (hu:(σ.s k).up=true) (hd:((comK l (σ.s k).log:Nat):Int)<(σ.s k).done_):JbT l ep ([0,1,2].drop k) (σ,ns)=(σ,ns,13):=by
 rw [drop3 h,JbT,if_neg (by rw [hu]; decide),if_pos hd]
theorem fols_go {l:List Txn} {ep:Int} {k:Nat} (h:k<3) {σ:Wd} {ns:List Note} (hu:(σ.s k).up=true) (hd:¬ ((comK l (σ.s k).log:Nat):Int)<(σ.s k).done_):JbT l ep ([0,1,2].drop k) (σ,ns)=JbT l ep ([0,1,2].drop (k+1)) (folW l ep (σ,ns) k):=by
 rw [drop3 h,JbT,if_neg (by rw [hu]; decide),if_neg hd]
theorem folW_is {Reg:List Txn} {K m:Nat} {τ:Wd} {ns:List Note} {L:List Txn} {ep:Int} (hr:LogP Reg) (hl:LogIn Reg L) (hU:UpIn Reg K m (τ.s m)) :
  folW L ep (τ,ns) m=({ τ with srv:=τ.srv.set m (JbJ { τ.s m with disk:=dskB (some (epT ep,noB)) (bS (recs L)) noB,epoch:=ep,log:=L } (τ.s m).done_.toNat L.length),fol:=τ.fol.set m true },ns ++ Ja2 { τ.s m with disk:=dskB (some (epT ep,noB)) (bS (recs L)) noB,epoch:=ep,log:=L } (τ.s m).done_.toNat L.length):=by
 have hA:folM L (τ.s m).log (L.length - comK L (τ.s m).log)=L:=Jin hr hl.sub hU.lg.sub;have hS:folS (τ.s m) L ep (L.length - comK L (τ.s m).log)={ τ.s m with disk:=dskB (some (epT ep,noB)) (bS (recs L)) noB,epoch:=ep,log:=L }:=by
  unfold folS;rw [hA]
 unfold folW comW;simp only [hA];rw [hS]
theorem JfA (S:Srv) (d n:Nat):(Ja2 S d n).length<=S.watches.length:=by
 have:=JfP (segL S.log d n) (⟨S.tz,S.nodes,S.sess⟩,S.watches,[]);unfold Ja2;simp only [zG6] at this;omega
theorem WIn.row {p0:Nat->Prop} {b:Nat} {w:World} {σ:Wd} {sv:Nat->SrvV} {cv:Nat->ClV} {dv:Value} (h:WIn p0 b w σ sv cv dv):∃ cs:List Value,cs.length=30/\w.rangeAt b 0 cs/\∀ i,i<3->At cs (i*10) (srvC (σ.s i) (sv i)):=by
 obtain ⟨cs,k⟩:=h.box;refine ⟨cs.take 30,by rw [zC2,k.len]; rfl,?_,?_⟩
 ·intro j v hv
  rw [k.bk.cell,zG3];have hj:=(zB3.1 hv).1;rw [zC2,k.len] at hj;rw [zL5 qH1] at hv;exact hv
 ·intro i hi j v hv
  have hj:j<10:=(zB3.1 hv).1;rw [zL5 qH1];exact k.srv i hi j v hv
theorem At.take {cs vs:List Value} {o:Nat} (h:At cs o vs):(cs.drop o).take vs.length=vs:=by
 apply zO2;intro j
 by_cases hj:j<vs.length
 ·rw [zL5 hj,zF3,h j _ (zA8 hj),zA8 hj]
 ·rw [List.getElem?_take_eq_none qH1,zM0 qH1]
theorem Jfv {op:Oper} {a:Act} {w:World} {K:Act->World->Prop} {Q:Exit->Act->World->Prop} (x y:Operand) (ho:op.op=.index 92 x y) {cs vs:List Value} {k:Nat} (hk:k<3) (hx:a.eval x=.agg cs.toArray) (hy:a.eval y=.int .i64 (k:Int)) (hat:At cs (k*10) vs) (hv:vs.length=10)
  (h:K (a.put op.dst (.agg vs.toArray)) w):op.wp Tryz.prog a w K Q:=by
 have h1:=hat.take;rw [hv] at h1;unfold Oper.wp execOp;simp only [ho,hx,hy,Instr.index,Sem.run_bind,Sem.run_pure];go_simp;rw [if_pos qH1];exact h
theorem wElect (p0:Nat->Prop) (b:Nat) (w:World) (σ:Wd) (sv:Nat->SrvV) (cv:Nat->ClV) (dv:Value) (Reg:List Txn) (E:Int) (K:Nat) (h:WIn p0 b w σ sv cv dv) (hp0:∀ q,p0 q->q<w.heap.size) (hI:Inv Reg E K σ) (hK:K+1<=300) (ht:TabB b w) :
  Calls Tryz.prog 52 #[.pointer (some ⟨b,0,none⟩)] w (DoRes p0 b dv (Ja7 σ).1 (Ja7 σ).2 w):=by
 have H:=zA0 (h.more (p1:=fun q=>p0 q\/q=w.heap.size) (fun q e=>e.imp id (fun e=>by omega)))
 have hlt:b<w.heap.size:=h.lt;have hltb:=hlt;have HP0:=zA0 hp0;have HI:=zA0 hI;have HT:=zA0 ht;clear h hp0 hI ht;go_enter Tryz.func52,Tryz.ntmps52
 go_upto_region 2 with fail
 refine Jax (fun W0 hW0=>?_)
 have hB0:Below w.heap.size w W0:=qaE;have hs0:w.heap.size<W0.heap.size:=by rw [hW0.out]; simp
 have HR0:=zA0 (show Bk W0 w.heap.size rpZ 35 by rw [hW0.out]; exact Bk.new _ _ _ rfl)
 have H0:=zA0 (H.out.below hB0);clear hW0 H;obtain ⟨cs,hcl,hcr,hca⟩:=H0.out.row;have hlt0:b<W0.heap.size:=qCE
 iterate 17 (first | (refine wp_load_mid 92 (.tmp 18) qJ1 b 0 qJ1 cs _ hcr Tryz.underlying92 rfl (by rw [hcl]; kernel_rfl) ?_; simp only [Act.put,zA6,zA4,zA5]) | (at_builtin; fail) | go_values | go_skip | go_guarded | go_step | go_upon | go_back)
 go_wp2_with fail;go_loopw [3,20] (fun av i wr=>∃ (k:Nat),k<=3/\i=.int .i64 k/\Hid (Below W0.heap.size W0 wr/\Ow JjY 4 62 wr W0.heap.size av (memP σ sv k))) (fun _ i _=>3 - (intOf i).toNat)
 case atStart=>exact ⟨0,zB9 _,rfl,zA0 ⟨zB6 _ _,Ow.nil _ _ _ _ _⟩⟩
 case round=>
  obtain ⟨k,hk,rfl,hx⟩:=hrel
  by_cases hlt:k<3
  ·obtain ⟨hb1,ho1⟩:=hx.out
   obtain ⟨A1,k1,rfl,_⟩:=ho1.form;have HB1:=zA0 hb1;have HO1:=zA0 ho1;have HLE:=zA0 (Jlp σ sv k);have HSU:=zA0 (Jn7 σ sv k);generalize memP σ sv k=L at *;clear hx hb1 ho1
   by_cases hu:(σ.s k).up=true
   ·rw [if_pos hu] at HSU
    have hck:At cs (k*10) [.bool true,.slice (sv k).da (σ.s k).disk.length (sv k).dc,.int .i64 (σ.s k).id,.int .i64 (σ.s k).epoch,.slice (sv k).la (σ.s k).log.length (sv k).lc,.int .i64 (σ.s k).done_,.int .i64 (σ.s k).tz,.slice (sv k).na (σ.s k).nodes.length (sv k).nc,.slice (sv k).sa (σ.s k).sess.length (sv k).sc,.slice (sv k).wa (σ.s k).watches.length (sv k).wc]:=by have:=hca k hlt; unfold srvC at this; rw [hu] at this; exact this
    go_upto_region 4 with fail
    iterate 11 (first | (refine Jfv (.tmp 19) (.tmp 20) qJ1 hlt qJ1 qJ1 hck rfl ?_; simp only [Act.put,zA6,zA4,zA5]) | (at_builtin; fail) | go_values | go_skip | go_guarded | go_step | go_upon | go_back)
    go_wp2_with (at_builtin; refine Jaf _ rfl (.tmp 25) (.tmp 28) _ rfl elPeer (B:=W0.heap.size) (l:=L) (m:=[pvOf (σ.s k) (sv k)]) rfl rfl (HO1.out.below zR) (Sl.one_at JjY 4 _ _ _ rfl _ rfl qH1 qI1) Jpc (by have:=HLE.out; simp [maxLen]; omega) (by have:=HLE.out; simp; omega) (by have:=HB1.out.size; simp <;> omega) ?_; intro v2 w2 hown2 hg2 hat2; obtain ⟨A2,c2,rfl,_⟩:=hown2.form; have HO2:=zA0 hown2; have HG2:Hid (World.grownBy _ w2 (Value.slice A1 L.length k1).ownBlock):=zA0 hg2; clear hown2 hg2 hat2)
    have hwb:Below W0.heap.size W0 w2:=Below.grown_up (HB1.out.trans (show Below W0.heap.size wr _ from (show Below wr.heap.size wr _ from zR).mono HB1.out.size)) (by have:=HB1.out.size; simp <;> omega) HG2.out (fun g hg=>(Ow.own_in HO1.out hg).1)
    go_roundw
    case rel=>exact ⟨k+1,by omega,by go_num,zA0 ⟨hwb,by have:=HO2.out; rw [zA9] at this; rw [HSU.out]; exact this⟩⟩
    case measure=>simp [intOf]; omega
   ·rw [if_neg hu] at HSU
    have hu':(σ.s k).up=false:=by simpa using hu
    have hck:At cs (k*10) [.bool false,.slice (sv k).da (σ.s k).disk.length (sv k).dc,.int .i64 (σ.s k).id,.int .i64 (σ.s k).epoch,.slice (sv k).la (σ.s k).log.length (sv k).lc,.int .i64 (σ.s k).done_,.int .i64 (σ.s k).tz,.slice (sv k).na (σ.s k).nodes.length (sv k).nc,.slice (sv k).sa (σ.s k).sess.length (sv k).sc,.slice (sv k).wa (σ.s k).watches.length (sv k).wc]:=by have:=hca k hlt; unfold srvC at this; rw [hu'] at this; exact this
    go_upto_region 4 with fail
    iterate 11 (first | (refine Jfv (.tmp 19) (.tmp 20) qJ1 hlt qJ1 qJ1 hck rfl ?_; simp only [Act.put,zA6,zA4,zA5]) | (at_builtin; fail) | go_values | go_skip | go_guarded | go_step | go_upon | go_back)
    go_wp2_with fail;go_roundw
    case rel=>exact ⟨k+1,by omega,by go_num,zA0 ⟨HB1.out.trans ((show Below wr.heap.size wr _ from zR).mono HB1.out.size),by rw [HSU.out]; exact HO1.out.below zR⟩⟩
    case measure=>simp [intOf]; omega
  ·have hk3:k=3:=by omega
   subst hk3;obtain ⟨hb1,ho1⟩:=hx.out;obtain ⟨A1,k1,rfl,_⟩:=ho1.form;have HB1:=zA0 hb1;have HO1:=zA0 ho1;have HLE:=zA0 (Jlp σ sv 3);have HPI:=zA0 (fun (W:World) (hb:Below W0.heap.size W0 W) (p:Peer) (hp:p∈memP σ sv 3)=>show p.In W by
    obtain ⟨i,hi,hu,rfl⟩:=Jib hp;have u:=HI.out.toInv0.up hi hu;have hl:=u.lg.sub.length_le;have hl2:=HI.out.small;exact ⟨((H0.out.srv i hi).log.1.below hb),by show (σ.s i).log.length*72<=_; omega⟩)
   have HEL:=zA0 (fun (W:World) (hb:Below W0.heap.size W0 W) (h:Sl JjY 4 W (.slice A1 (memP σ sv 3).length k1) (memP σ sv 3))=>Jm5 _ (memP σ sv 3) W h (HPI.out W hb) (by have:=HLE.out; omega))
   clear hx hb1 ho1 hcl hcr hca hk;go_upto_region 9 with (go_at_call 80; (with_reducible refine (HEL.out _ HB1.out HO1.out.sl).mono ?_); rintro e w1 ⟨hel,hb⟩; rcases JoE HI.out hel with ⟨h2,rfl⟩ | ⟨h2,k,j,hkl,hj,hu,hxk,hbest,rfl⟩)
   ·have hB1:Below W0.heap.size W0 w1:=HB1.out.trans (hb.mono HB1.out.size)
    have H1:=zA0 (H0.out.below hB1);have HR1:=zA0 (HR0.out.below hB1);have hbB1:=zA0 (zB8 hB0 hB1);have HQ:=zA0 (elect_no h2);clear HEL HPI HO1 HB1 H0 HR0 hb hB0 hB1;have hff:∀ j,w1.frozen? ⟨w.heap.size,j,none⟩=false:=fun j=>HR1.out.frozen j
    obtain ⟨q0,q1,q2,q3,q4,q5,q6,q7,q8,q9,q10,q11⟩:=zD4 HR1.out;go_wp2_with fail;refine zA1 (v:=rpV (rp 14) none 0) (by simp [results,Tryz.results52,go_sem,q0,q1,q2,q3,q4,q5,q6,q7,q8,q9,q10,q11]) rfl ?_
    rw [HQ.out];exact H1.out.reply (zA3 _) (zC3 hbB1.out) (.inl rfl) (rp 14) none 0 (SlA.nil _ _ _ _) (zD2 _ _ _ _ _ _ _ _ _ _ _ _ _ _)
   ·have hB1:Below W0.heap.size W0 w1:=HB1.out.trans (hb.mono HB1.out.size)
    have H1:=zA0 (H0.out.below hB1);have HR1:=zA0 (HR0.out.below hB1);have hbB1:=zA0 (zB8 hB0 hB1);have HQ:=zA0 (JoD h2 hbest (HI.out.toInv0.id hj));have HO2:=zA0 (HO1.out.below hb);obtain ⟨bp,op,hA1,hbp,x0,x1,x2,x3⟩:=HO2.out.sl.Peer_at hxk;subst hA1;simp only [pvOf] at x0 x1 x2 x3;have HWR:=zA0 (Jj8 _ b w1 _ _ _ _ H1.out);have hlow0:=zA0 (H0.out.low (fun q hq=>by
     have h1:=hB0.size;rcases hq with hq | hq
     ·have:=HP0.out q hq; omega
     ·omega))
    have hgk:(0:Int)<=(k:Int):=qCE;have hgk2:(k:Int)<((memP σ sv 3).length:Int):=qCE;clear HEL HPI HO1 HB1 H0 HR0 hb hB0 hB1;go_upto_region 13 with ((go_at_call 74; refine (HWR.out).mono ?_; rintro e w2 ⟨rfl,hin2,hg2⟩; skip))
    have hlg:=(HI.out.toInv0.up hj hu).lg;obtain ⟨t1,t2,t3⟩:=HI.out.toInv0.topE h2;have h00:=HI.out.e0;have hep:Half (topE (upsW σ)+1):=⟨by omega,by omega⟩
    have HE0:Hid (ElL p0 b w Reg E K (σ.s j).log (topE (upsW σ)+1) cv dv (.slice (sv j).la (σ.s j).log.length (sv j).lc) (.slice (some ⟨bp,op,none⟩) (memP σ sv 3).length k1) (memP σ sv 3) (Jay σ) 0 w2 (.slice none 0 0) (Jay σ) sv []):=zA0 (by
     have hr2:∀ q,some b=some q->pW (fun q=>p0 q\/q=w.heap.size) b dv q:=fun q e=>.inr (.inl qa0)
     have hsub:∀ q,pW (fun q=>(p0 q\/q=w.heap.size)\/(Value.slice none 0 0).ownBlock=some q) b dv q->pW (fun q=>p0 q\/q=w.heap.size) b dv q:=by
      rintro q ((e | e) | e)
      ·exact .inl e
      ·cases e
      ·exact .inr e
     have hlow1:=H1.out.low (fun q hq=>by
      have h1:=hbB1.out.size;rcases hq with hq | hq
      ·have:=HP0.out q hq; omega
      ·have:=HR1.out.lt; omega)
     refine ⟨⟨?_,Ow.nil _ _ _ _ _,?_,?_,?_,HR1.out.grown hg2 (fun e=>by injection e with e; omega)⟩,rfl,(HI.out.mono (zC6 K) hK).toInv0.resign.toInv0,?_,zA3 _⟩
     ·refine hin2.more (fun q e=>?_)
      rcases e with e | e
      ·exact .inl e
      ·cases e
     ·exact ((H1.out.srv j hj).log.grow hg2 hr2 (fun _=>.inl)).more (fun q e=>.inl (hsub q e))
     ·exact ((HO2.out.sla hlow0.out).grow hg2 hr2 (fun _=>.inl)).more (fun q e=>.inl (hsub q e))
     ·exact (zC3 hbB1.out (p:=fun q=>q=b)).trans (zE8 (p:=fun q=>q=b) hg2 (fun q e=>by injection e with e; exact e.symm)) (fun _ _ e=>e) |>.more (fun k _ e=>.inl e)
     ·intro i hi hui
      have:=t3 i hi hui;show epOf (σ.s i)<=_;omega)
    have hp1:topE (upsW σ)+1<=((K+1:Nat):Int):=qCE;generalize topE (upsW σ)+1=ep at *;have HT2:=zA0 (fun (W:World) (h:Keeps (fun q=>q=b\/dv.ownBlock=some q\/w.heap.size<=q) w W)=>HT.out.keeps h qH1 (fun q e=>by
     rcases e with e | e | e
     ·omega
     ·have:=(H1.out.dn.own_in e).1; omega
     ·omega))
    have hid:=HI.out.toInv0.id hj;have hdl:=hlow0.out;clear H1 HR1 HO2 x1 x2 x3 HWR hin2 hg2 hlow0 hdl hbB1 t1 t2 t3 hbest h2 hu;generalize (σ.s j).log=L at *;generalize (sv j).la=LA at *;generalize (sv j).lc=LC at *;generalize memP σ sv 3=MP at *;go_wp2_with fail;go_loopw [10,48] (fun nv i wr=>∃ (m:Nat) (τ:Wd) (tv:Nat->SrvV) (ns:List Note),m<=3/\i=.int .i64 m/\Hid (ElL p0 b w Reg E K L ep cv dv (.slice LA L.length LC) (.slice (some ⟨bp,op,none⟩) MP.length k1) MP (Jay σ) m wr nv τ tv ns)) (fun _ i _=>3 - (intOf i).toNat)
    case atStart=>exact ⟨0,_,_,_,zB9 _,rfl,HE0⟩
    case round=>
     obtain ⟨m,τ,tv,ns,hm,rfl,hx⟩:=hrel;obtain ⟨An,kn,rfl,_⟩:=hx.out.nts.form
     by_cases hlt3:m<3
     ·have g0:(0:Int)<=(m:Int):=by omega
      have g1:(m:Int)<3:=qCE;obtain ⟨c0,c1,c2,c3,c4,c5,c6,c7,c8,c9⟩:=hx.out.win.srvCells hlt3;have hltr:b<wr.heap.size:=hx.out.win.lt
      by_cases hu:(τ.s m).up=true
      ·have hU:=hx.out.inv.up hlt3 hu
       obtain ⟨q,A,B,hok⟩:=hU.ok hx.out.inv.reg hx.out.inv.small;have hlow:=hx.out.win.low (fun q hq=>by
        have h1:=hx.out.keep.size;rcases hq with (hq | hq) | hq
        ·have:=HP0.out q hq; omega
        ·have:=hx.out.box.lt; omega
        ·exact (hx.out.nts.own_in hq).2)
       have hLP:=Ja0 HI.out.reg hlg.sub;have hLn:L.length<=400:=by have h1:=hlg.sub.length_le; have h2:=HI.out.small; omega
       have hvs:vSrv (τ.s m) (tv m)=.agg #[.bool true,.slice (tv m).da (τ.s m).disk.length (tv m).dc,.int .i64 (τ.s m).id,.int .i64 (τ.s m).epoch,.slice (tv m).la (τ.s m).log.length (tv m).lc,.int .i64 (τ.s m).done_,.int .i64 (τ.s m).tz,.slice (tv m).na (τ.s m).nodes.length (tv m).nc,.slice (tv m).sa (τ.s m).sess.length (tv m).sc,.slice (tv m).wa (τ.s m).watches.length (tv m).wc]:=by unfold vSrv; rw [hu]
       rw [hu] at c0
       by_cases hd:((comK L (τ.s m).log:Nat):Int)<(τ.s m).done_
       ·have HF:=zA0 (Jf4 _ (τ.s m) (tv m) _ L ep wr q A B (hx.out.win.srv m hlt3) hx.out.log.1 hlow hok hLP hLn hd)
        have hstop:=hx.out.eq.trans (Jos hlt3 hu hd);have HQ2:Hid (Ja7 σ=(τ,rp 13)):=zA0 (by rw [HQ.out,hstop]; exact if_pos (show (13:Int)≠0 by decide))
        unfold Jdu at HF;rw [hvs] at HF;clear HQ hstop hvs hU hok hd hu hlow hLP hLn;have HQ:=HQ2;clear HQ2;go_upto_region 20 with ((go_at_call 81; refine (HF.out).mono ?_; rintro e w3 ⟨⟨da,dc,la,lc,na,nc,sa,sc,wa,wc⟩,rfl,hin,hb⟩; obtain ⟨ext1,d1,rfl⟩:=zA2 _ hb; clear hin hb))
        refine Jax (fun W3 hW3=>?_)
        have hB3:Below wr.heap.size wr W3:=by rw [hW3.out]; exact zR
        have H3:=zA0 ((hx.out.win.below hB3).more (p1:=fun q=>p0 q\/q=w.heap.size) (fun q e=>.inl (.inl e)))
        have HR3:=zA0 (hx.out.box.below hB3);have hK3:=zA0 (hx.out.keep.trans (zC3 hB3 (p:=fun q=>q=b)) (fun _ _ e=>.inl e))
        clear hW3 HF hx c0 c1 c2 c3 c4 c5 c6 c7 c8 c9 hB3;have hff:∀ j,W3.frozen? ⟨w.heap.size,j,none⟩=false:=fun j=>HR3.out.frozen j
        obtain ⟨q0,q1,q2,q3,q4,q5,q6,q7,q8,q9,q10,q11⟩:=zD4 HR3.out;go_wp2_with fail;refine zA1 (v:=rpV (rp 13) none 0) (by simp [results,Tryz.results52,go_sem,q0,q1,q2,q3,q4,q5,q6,q7,q8,q9,q10,q11]) rfl ?_
        rw [HQ.out];exact H3.out.reply (zA3 _) hK3.out (.inl rfl) (rp 13) none 0 (SlA.nil _ _ _ _) (zD2 _ _ _ _ _ _ _ _ _ _ _ _ _ _)
       ·obtain ⟨f1,f2,f3⟩:=hU.fol hx.out.inv.reg hx.out.inv.small ⟨hlg.sub,hlg.run⟩ hep qH1
        have HST:=zA0 (JgL hx.out.inv hlt3 hu hlg hep qH1 (hx.out.ep m hlt3 hu) qH1 ns);have hfw:=folW_is (ns:=ns) (ep:=ep) hx.out.inv.reg hlg hU;have hgo:=zA0 (hx.out.eq.trans (fols_go hlt3 hu hd));rw [hfw] at HST hgo;obtain ⟨m1,m2,m3,m4,_⟩:=f2.com;rw [f1] at m1 m2 m3 m4;simp only at m1 m2 m3 m4;have HF:=zA0 (Jkh _ (τ.s m) (tv m) _ L ep wr q A B (hx.out.win.srv m hlt3) hx.out.log.1 hlow hok hLP hLn hep (HT2.out wr hx.out.keep).1 qH1);unfold Jdu at HF;rw [f1,hvs] at HF;have hwl:=hU.wl;have HCM:=zA0 (fun (pc:Nat->Prop) (v:SrvV) (W:World) (h:SrvIn pc W { τ.s m with disk:=dskB (some (epT ep,noB)) (bS (recs L)) noB,epoch:=ep,log:=L } v) (hpc:∀ q,pc q->q<W.heap.size)=>JiR pc _ v (τ.s m).done_.toNat L.length W h hpc m1 m2 (zA3 _) (by show L.length<=1000; omega) (by show ((τ.s m).watches.length+1)*32<=_; omega) m3 m4 (JjA HI.out.reg hlg.sub))
        unfold Jea at HCM;have HTL:=zA0 (show (Ja2 { τ.s m with disk:=dskB (some (epT ep,noB)) (bS (recs L)) noB,epoch:=ep,log:=L } (τ.s m).done_.toNat L.length).length<=300 from zB5 (JfA _ _ _) (by show (τ.s m).watches.length<=300; omega))
        generalize Ja2 { τ.s m with disk:=dskB (some (epT ep,noB)) (bS (recs L)) noB,epoch:=ep,log:=L } (τ.s m).done_.toNat L.length=told at *
        generalize JbJ { τ.s m with disk:=dskB (some (epT ep,noB)) (bS (recs L)) noB,epoch:=ep,log:=L } (τ.s m).done_.toNat L.length=S2 at *
        generalize dskB (some (epT ep,noB)) (bS (recs L)) noB=D1 at *;clear f1 f2 f3 hfw m1 m2 m3 m4 hvs hU hok hLP hwl;have HLO:=zA0 hlow;clear hlow hd;go_upto_region 20 with ((go_at_call 81; refine (HF.out).mono ?_; rintro e w3 ⟨⟨da,dc,la,lc,na,nc,sa,sc,wa,wc⟩,rfl,hin,hb⟩; obtain ⟨ext1,d1,rfl⟩:=zA2 _ hb; have HIN:=zA0 hin; clear hin hb))
        refine Jax (fun W3 hW3=>?_)
        have hB3:Below wr.heap.size wr W3:=by rw [hW3.out]; exact zR
        have HBX:=zA0 (show Bk W3 (wr.heap.size+ext1.size) [.bool true,.slice da D1.length dc,.int .i64 (τ.s m).id,.int .i64 ep,.slice la L.length lc,.int .i64 (τ.s m).done_,.int .i64 (τ.s m).tz,.slice na (τ.s m).nodes.length nc,.slice sa (τ.s m).sess.length sc,.slice wa (τ.s m).watches.length wc] 71 by rw [hW3.out]; exact Bk.new _ _ _ qI1)
        have HIN3:=zA0 ((HIN.out.more (p':=fun x=>pW (fun q=>(p0 q\/q=w.heap.size)\/(Value.slice An ns.length kn).ownBlock=some q) b dv x\/x=wr.heap.size+ext1.size) (fun x e=>e.imp id (fun e=>by rw [e]; simp))).below (show Below _ _ W3 by rw [hW3.out]; exact zR))
        have hgl:wr.heap.size<=wr.heap.size+ext1.size:=Nat.le_add_right _ _;clear hW3 HIN HF;generalize wr.heap.size+ext1.size=g at *;have hgW:g<W3.heap.size:=HBX.out.lt;have d0:W3.cell? ⟨g,0,none⟩=some (.bool true):=HBX.out.cell 0;have d1:W3.cell? ⟨g,1,none⟩=some (.slice da D1.length dc):=HBX.out.cell 1;have d2:W3.cell? ⟨g,2,none⟩=some (.int .i64 (τ.s m).id):=HBX.out.cell 2;have d3:W3.cell? ⟨g,3,none⟩=some (.int .i64 ep):=HBX.out.cell 3;have d4:W3.cell? ⟨g,4,none⟩=some (.slice la L.length lc):=HBX.out.cell 4;have d5:W3.cell? ⟨g,5,none⟩=some (.int .i64 (τ.s m).done_):=HBX.out.cell 5;have d6:W3.cell? ⟨g,6,none⟩=some (.int .i64 (τ.s m).tz):=HBX.out.cell 6;have d7:W3.cell? ⟨g,7,none⟩=some (.slice na (τ.s m).nodes.length nc):=HBX.out.cell 7;have d8:W3.cell? ⟨g,8,none⟩=some (.slice sa (τ.s m).sess.length sc):=HBX.out.cell 8;have d9:W3.cell? ⟨g,9,none⟩=some (.slice wa (τ.s m).watches.length wc):=HBX.out.cell 9;have hfg:∀ j,W3.frozen? ⟨g,j,none⟩=false:=fun j=>HBX.out.frozen j
        have HC3:=zA0 (HCM.out _ _ W3 HIN3.out (fun x hx2=>by
         rcases hx2 with e | e
         ·exact zD0 (HLO.out x e) hB3.size
         ·rw [e]; exact hgW))
        unfold vSrv at HC3;simp only [hu] at HC3;clear HCM c0 c1 c2 c3 c4 c5 c6 c7 c8 c9;obtain ⟨yu,yd,yi,ye,yl,yn,yt,yo,ys,yw⟩:=S2;go_upto_region 23 with ((go_at_call 82; refine (HC3.out).mono ?_; rintro e w5 ⟨⟨ea,ec,ga,gc,ia,ic,ja,jc,ka,kc⟩,ta,tc,rfl,hin,htold,hb⟩; obtain ⟨ext5,d5',rfl⟩:=zA2 _ hb; have HIN:=zA0 hin; have HTO:=zA0 htold; clear hin htold hb))
        refine Jax (fun W5 hW5=>?_)
        have hBc:Below W3.heap.size W3 (grow W3 ext5 d5'):=zR;have hWc:W5=((((((((((grow W3 ext5 d5').setCell ⟨g,0,none⟩ (.bool yu)).setCell ⟨g,1,none⟩ (.slice ea yd.length ec)).setCell ⟨g,2,none⟩ (.int .i64 yi)).setCell ⟨g,3,none⟩ (.int .i64 ye)).setCell ⟨g,4,none⟩ (.slice ga yl.length gc)).setCell ⟨g,5,none⟩ (.int .i64 yn)).setCell ⟨g,6,none⟩ (.int .i64 yt)).setCell ⟨g,7,none⟩ (.slice ia yo.length ic)).setCell ⟨g,8,none⟩ (.slice ja ys.length jc)).setCell ⟨g,9,none⟩ (.slice ka yw.length kc):=by
         rw [hW5.out];exact (Jhg hgW _ _ _ _ _ _ _ _ _ _ _ _ _ _ _ _ _ _ _ _).symm
        have hG5:(grow W3 ext5 d5').grownBy W5 (some g):=by rw [hWc]; exact zI9 g [.bool yu,.slice ea yd.length ec,.int .i64 yi,.int .i64 ye,.slice ga yl.length gc,.int .i64 yn,.int .i64 yt,.slice ia yo.length ic,.slice ja ys.length jc,.slice ka yw.length kc] 0 _
        have HBX5:=zA0 (show Bk W5 g [.bool yu,.slice ea yd.length ec,.int .i64 yi,.int .i64 ye,.slice ga yl.length gc,.int .i64 yn,.int .i64 yt,.slice ia yo.length ic,.slice ja ys.length jc,.slice ka yw.length kc] 71 by
         rw [hWc];exact ((((((((((HBX.out.below hBc).put 0 (.bool yu)).put 1 (.slice ea yd.length ec)).put 2 (.int .i64 yi)).put 3 (.int .i64 ye)).put 4 (.slice ga yl.length gc)).put 5 (.int .i64 yn)).put 6 (.int .i64 yt)).put 7 (.slice ia yo.length ic)).put 8 (.slice ja ys.length jc)).put 9 (.slice ka yw.length kc))
        have HF5:=zA0 (hx.out.toElF.fresh hgl (hB3.trans (hBc.mono hB3.size)) hG5);have hr5:∀ q,some g=some q->(fun x=>pW (fun q=>(p0 q\/q=w.heap.size)\/(Value.slice An ns.length kn).ownBlock=some q) b dv x\/x=g) q:=fun q e=>.inr qa0
        have HIN5:=zA0 ((HIN.out.own hG5 hr5).sub (p1:=pW (fun q=>(p0 q\/q=w.heap.size)\/(Value.slice An ns.length kn).ownBlock=some q) b dv) (fun q e=>.inl e))
        have HTO5:=zA0 ((HTO.out.grow hG5 hr5 (fun _=>.inl)).more (p':=pW (fun q=>(p0 q\/q=w.heap.size)\/(Value.slice An ns.length kn).ownBlock=some q) b dv) (fun q e=>.inl (.inl e)))
        clear hW5 hWc hG5 hBc hr5 HIN HTO HBX HC3 HIN3 d0 d1 d2 d3 d4 d5 d6 d7 d8 d9 hfg hgW;have d0:W5.cell? ⟨g,0,none⟩=some (.bool yu):=HBX5.out.cell 0;have d1:W5.cell? ⟨g,1,none⟩=some (.slice ea yd.length ec):=HBX5.out.cell 1;have d2:W5.cell? ⟨g,2,none⟩=some (.int .i64 yi):=HBX5.out.cell 2;have d3:W5.cell? ⟨g,3,none⟩=some (.int .i64 ye):=HBX5.out.cell 3;have d4:W5.cell? ⟨g,4,none⟩=some (.slice ga yl.length gc):=HBX5.out.cell 4;have d5:W5.cell? ⟨g,5,none⟩=some (.int .i64 yn):=HBX5.out.cell 5;have d6:W5.cell? ⟨g,6,none⟩=some (.int .i64 yt):=HBX5.out.cell 6;have d7:W5.cell? ⟨g,7,none⟩=some (.slice ia yo.length ic):=HBX5.out.cell 7;have d8:W5.cell? ⟨g,8,none⟩=some (.slice ja ys.length jc):=HBX5.out.cell 8;have d9:W5.cell? ⟨g,9,none⟩=some (.slice ka yw.length kc):=HBX5.out.cell 9;have hgW:g<W5.heap.size:=HBX5.out.lt;obtain ⟨c0,c1,c2,c3,c4,c5,c6,c7,c8,c9⟩:=HF5.out.win.srvCells hlt3;have hfb:∀ j,W5.frozen? ⟨b,j,none⟩=false:=fun j=>HF5.out.win.frozen j
        have hlt5:b<W5.heap.size:=HF5.out.win.lt;go_upto_region 26 with fail
        refine Jax (fun W6 hW6=>?_)
        obtain ⟨hp1',hp2'⟩:=HF5.out.win.putSrvC hlt3 HIN5.out;rw [<-hW6.out] at hp1' hp2';have HF6:=zA0 (HF5.out.setB hltb hp2' hp1');have HTO6:=zA0 (HTO5.out.grow hp2' (p':=pW (fun q=>(p0 q\/q=w.heap.size)\/(Value.slice An ns.length kn).ownBlock=some q) b dv) (fun q e=>by injection e with e; exact .inr (.inl e.symm)) (fun _=>.inl))
        clear hW6 hp1' hp2' HBX5 HF5 HIN5 HTO5 d0 d1 d2 d3 d4 d5 d6 d7 d8 d9 c0 c1 c2 c3 c4 c5 c6 c7 c8 c9 hfb hlt5 hgW;have e0:=HF6.out.win.folCell hlt3;have hfb:∀ j,W6.frozen? ⟨b,j,none⟩=false:=fun j=>HF6.out.win.frozen j
        go_upto_region 27 with fail
        refine Jax (fun W7 hW7=>?_)
        have HF7:=zA0 (show ElF p0 b w L cv dv _ _ _ W7 _ _ _ ns from hW7.out▸HF6.out.setB hltb (zD9 _ _ _ _) (HF6.out.win.putFol hlt3 true))
        have HTO7:=zA0 (show SlA (pW (fun q=>(p0 q\/q=w.heap.size)\/(Value.slice An ns.length kn).ownBlock=some q) b dv) JbZ 3 W7 _ _ from hW7.out▸HTO6.out.grow (zD9 W6 b (79+m) (.bool true)) (fun q e=>by injection e with e; exact .inr (.inl e.symm)) (fun _=>.inl))
        clear hW7 HF6 HTO6 e0 hfb;have hwl7:=hx.out.wl;have h72:=HTL.out;have hsz7:w.heap.size+1<=W7.heap.size:=by have:=HF7.out.box.lt; omega
        go_wp2_with (at_builtin; refine Jaf _ rfl (.tmp 94) (.tmp 95) _ rfl JlE (B:=w.heap.size+1) (l:=ns) (m:=told) rfl rfl HF7.out.nts HTO7.out.1 Jfc qs0 qH1 hsz7 ?_; intro v2 w8 hown8 hg8 hat8; obtain ⟨A8,c8,rfl,_⟩:=hown8.form; have HO8:=zA0 hown8; have HG8:=zA0 hg8; have HA8:=zA0 hat8; clear hown8 hg8 hat8);have HF8:=zA0 (HF7.out.push (v2:=.slice A8 (ns ++ told).length c8) HG8.out HA8.out HO8.out);rw [zA9] at HF8;go_roundw
        case rel=>exact ⟨m+1,_,_,ns ++ told,by omega,by go_num,zA0 ⟨HF8.out,hgo.out,HST.out.1,fun i hi hui=>by
         by_cases e:m=i
         ·subst e
          exact Int.le_of_eq HST.out.2.2.2.2.2.2.2
         ·have e2:=HST.out.2.1 i
          rw [if_neg e] at e2;rw [e2] at hui ⊢;exact hx.out.ep i hi hui,by rw [zA9]; omega⟩⟩
        case measure=>simp [intOf]; omega
      ·have hu':(τ.s m).up=false:=by simpa using hu
       rw [hu'] at c0;have hsk:=zA0 (Jot (l:=L) (ep:=ep) hlt3 (ns:=ns) hu');clear hu hu';go_wp2_with fail;go_roundw
       case rel=>exact ⟨m+1,τ,tv,ns,by omega,by go_num,zA0 { hx.out with eq:=hx.out.eq.trans hsk.out,wl:=by have:=hx.out.wl; omega }⟩
       case measure=>simp [intOf]; omega
     ·have hm3:m=3:=by omega
      subst hm3;have heq:=hx.out.eq.trans (show JbT L ep ([0,1,2].drop 3) (τ,ns)=(τ,ns,0) from rfl)
      have HQ2:Hid (Ja7 σ=(Jb1 { τ with lead:=(j:Int) } ns,{ rp 0 with zxid:=Jao L,notes:=ns })):=zA0 (by rw [HQ.out,heq]; exact if_neg (fun e=>e rfl))
      clear HQ heq;have HQ:=HQ2;clear HQ2;have HX:=hx;obtain ⟨_,_,hpe,_,y0,_⟩:=HX.out.prs.1.Peer_at hxk;injection hpe with hpe
      injection hpe with e1 e2 _
      subst e1;subst e2;simp only [pvOf] at y0;rw [hid] at y0;have e0:wr.cell? ⟨b,78,none⟩=some (.int .i64 τ.lead):=HX.out.win.restAt (j:=0) rfl;have hfb:∀ j,wr.frozen? ⟨b,j,none⟩=false:=fun j=>HX.out.win.frozen j
      have hltr:b<wr.heap.size:=HX.out.win.lt;go_upto_region 30 with fail
      refine Jax (fun W4 hW4=>?_)
      have HF4:=zA0 (show ElF p0 b w L cv dv _ _ _ W4 _ { τ with lead:=(j:Int) } tv ns from hW4.out▸HX.out.toElF.setB hltb (zD9 _ _ _ _) (HX.out.win.putRest (j:=0) qG1 (.int .i64 (j:Int)) (τ:={ τ with lead:=(j:Int) }) rfl rfl rfl HX.out.win.f3 rfl))
      have H4:=zA0 (HF4.out.win.more (p1:=fun q=>p0 q\/q=w.heap.size) (fun q e=>.inl (.inl e)))
      have hnt4:=zA0 (show SlA (pW (fun q=>p0 q\/q=w.heap.size) b dv) JbZ 3 W4 (.slice An ns.length kn) ns from ⟨HF4.out.nts.sl,.inr (fun q hq e=>by
       have h1:=(HF4.out.nts.own_in e).1;rcases hq with (hq | hq) | hq | hq
       ·have:=HP0.out q hq; omega
       ·omega
       ·omega
       ·exact HF4.out.win.dp q (.inr e) hq)⟩)
      have hsz4:=HF4.out.keep.size;have hbx4:=HF4.out.box.lt;have HWT:=zA0 (wTell (fun q=>p0 q\/q=w.heap.size) b W4 { τ with lead:=(j:Int) } tv cv dv H4.out (fun q hq=>by
       rcases hq with hq | hq
       ·have:=HP0.out q hq; omega
       ·omega) An kn ns hnt4.out (fun i hi=>by
       have h1:=(hx.out.inv.cl i hi).len;show (τ.c i).cache.length<=300;omega) (by have:=hx.out.wl; omega))
      clear hW4 hx HX e0 hfb y0 hltr;go_upto_region 31 with ((go_at_call 83; refine (HWT.out).mono ?_; rintro e w5 ⟨cv5,rfl,hin5,hk5⟩; skip))
      have H5:=zA0 hin5;have hr5:∀ q,q=b->pW (fun q=>p0 q\/q=w.heap.size) b dv q:=fun q e=>.inr (.inl e)
      have hnt5:=zA0 (hnt4.out.keeps hk5 hr5);have HL5:=zA0 (Jel _ L w5 (HF4.out.log.keeps hk5 (fun q e=>.inr (.inl e))).1)
      have hK5:=zA0 (HF4.out.keep.trans hk5 (fun _ _ e=>.inl e))
      have HR5:=zA0 (HF4.out.box.keeps hk5 (fun e=>by omega))
      clear hin5 hk5 hr5 hnt4 HF4 H4 HWT;have hff:∀ j,w5.frozen? ⟨w.heap.size,j,none⟩=false:=fun j=>HR5.out.frozen j
      obtain ⟨q0,q1,q2,q3,q4,q5,q6,q7,q8,q9,q10,q11⟩:=zD4 HR5.out;go_wp2_with ((go_at_call 84; refine (HL5.out).mono ?_; rintro e w6 ⟨rfl,rfl⟩; skip));refine zA1 (v:=rpV { rp 0 with zxid:=Jao L,notes:=ns } An kn) (by simp [results,Tryz.results52,go_sem,q0,q1,q2,q3,q4,q5,q6,q7,q8,q9,q10,q11]) rfl ?_
      rw [HQ.out];exact H5.out.reply (zA3 _) hK5.out (.inl rfl) { rp 0 with zxid:=Jao L,notes:=ns } An kn hnt5.out (zD2 _ _ _ _ _ _ _ _ _ _ _ _ _ _)
end
end Go.Proofs.YtjnooagaghdkdaaGreatDoor
